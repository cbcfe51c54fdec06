/- Go functions of this seat as Lean functions, and the proofs that the calls come to what these say; printed by a program of this session. No condition. -/
import Derived.Test.YtnfpolhpanpeiaaP0
set_option linter.unusedVariables false
set_option linter.unusedSimpArgs false
set_option maxHeartbeats 40000000
set_option maxRecDepth 100000
namespace Go.Proofs.Ytnfpolhpanpeiaa.P
open Go.RowKit Go.Proofs.YtnfpolhpanpeiaaW.PrintWords Go.Proofs.YtnfpolhpanpeiaaW.PrintLast Go.Proofs.YtnfpolhpanpeiaaW.PrintMore Go.Proofs.Ytnfpolhpanpeiaa.Hof
attribute [local go_sem] max2_int min2_int max_two min_two max_three min_three max_four min_four
def laws_szIntS.f (l0 : List Int) (a1 : Int) : Option (Int) := if (wrap64 (a1 - (l0.length : Int))) < 0 then (some (-1)) else (some (wrap64 (a1 - (l0.length : Int))))
theorem laws_szIntS.calls (A0 : Option Addr) (c0 : Nat) (l0 : List Int) (a1 : Int) (r : Int) (w : World) (hr0 : Kd.C (Kd.int .i64) w A0 l0.length l0) (hc0 : l0.length ≤ c0) (h : laws_szIntS.f l0 a1 = some r) :
  Calls Try.prog 34 #[.slice A0 l0.length c0, .int .i64 a1] w fun e w' => e = .returned (.int .i64 r) ∧ Drawn0 w w' := by
 have HR0 := am_ hr0
 have HC0 := am_ hc0
 clear hr0 hc0
 have H := h
 clear h
 unfold laws_szIntS.f at H
 by_cases c3 : (wrap64 (a1 - (l0.length : Int))) < 0
 ·rw [if_pos c3] at H
  have c3b0 := decide_eq_true c3
  clear c3
  obtain rfl := Option.some.inj H
  go_enter Try.func34, Try.ntmps34
  go_wp2
  go_ret
  exact ⟨Sh.es, Sh.dr⟩
 ·rw [if_neg c3] at H
  have c3b0 := decide_eq_false c3
  clear c3
  obtain rfl := Option.some.inj H
  go_enter Try.func34, Try.ntmps34
  go_wp2
  go_ret
  exact ⟨Sh.es, Sh.dr⟩
def laws_szIntSS.l0 : Nat → List (List Int) → Int → Int → Option (Int)
 | 0, _, _, _ => none
 | k + 1, x0, x1, x5 => if x5 < (x0.length : Int) then (if 0 ≤ x5 then ((laws_szIntS.f (rd_L1 x0 x5) x1).bind fun t102 => (if t102 < 0 then (some (-1)) else (laws_szIntSS.l0 k x0 t102 (wrap64 (x5 + 1))))) else (none)) else (some x1)
def laws_szIntSS.f (k : Nat) (l0 : List (List Int)) (a1 : Int) : Option (Int) := if (wrap64 (a1 - (l0.length : Int))) < 0 then (some (-1)) else (laws_szIntSS.l0 k l0 (wrap64 (a1 - (l0.length : Int))) 0)
theorem laws_szIntSS.mono_l : ∀ k, (∀ y0 y1 y2, LeO (laws_szIntSS.l0 k y0 y1 y2) (laws_szIntSS.l0 (k + 1) y0 y1 y2))
 | 0 => fun _ _ _ r h => by simp [laws_szIntSS.l0] at h
 | k + 1 => by
  have ih0 := laws_szIntSS.mono_l k
  ·intro y0 y1 y2
   unfold laws_szIntSS.l0
   repeat' with_reducible first | apply ih0 | exact LeO.refl _ | exact LeO.none _ | apply LeO.ite | refine LeO.bind ?_ fun _ => ?_
theorem laws_szIntSS.mono : ∀ a0 a1 k, LeO (laws_szIntSS.f k a0 a1) (laws_szIntSS.f (k + 1) a0 a1) := by
 intro a0 a1 k
 have ih0 := laws_szIntSS.mono_l k
 unfold laws_szIntSS.f
 repeat' with_reducible first | apply ih0 | exact LeO.refl _ | exact LeO.none _ | apply LeO.ite | refine LeO.bind ?_ fun _ => ?_
theorem laws_szIntSS.calls (k : Nat) (A0 : Option Addr) (c0 : Nat) (l0 : List (List Int)) (a1 : Int) (r : Int) (w : World) (hr0 : Kd.C (Kd.slice 3 (Kd.int .i64)) w A0 l0.length l0) (hc0 : l0.length ≤ c0) (h : laws_szIntSS.f k l0 a1 = some r) :
  Calls Try.prog 18 #[.slice A0 l0.length c0, .int .i64 a1] w fun e w' => e = .returned (.int .i64 r) ∧ Drawn0 w w' := by
 have HR0 := am_ hr0
 have HC0 := am_ hc0
 clear hr0 hc0
 have H := h
 clear h
 unfold laws_szIntSS.f at H
 by_cases c3 : (wrap64 (a1 - (l0.length : Int))) < 0
 ·rw [if_pos c3] at H
  have c3b0 := decide_eq_true c3
  clear c3
  obtain rfl := Option.some.inj H
  go_enter Try.func18, Try.ntmps18
  go_wp2
  go_ret
  exact ⟨Sh.es, Sh.dr⟩
 ·rw [if_neg c3] at H
  have c3b0 := decide_eq_false c3
  clear c3
  have H' := am_ H
  clear H
  go_enter Try.func18, Try.ntmps18
  go_wp2
  go_loopg [1, 5] k (fun kq v1 v5 w' => ∃ (x1_1 : Int) (x5_1 : Int), v1 = .int .i64 x1_1 ∧ v5 = .int .i64 x5_1 ∧ Aside0 (laws_szIntSS.l0 kq l0 x1_1 x5_1 = some r) ∧ Aside0 (kq ≤ k) ∧ Drawn0 w w')
  case atStart => exact ⟨(wrap64 (a1 - (l0.length : Int))), (0), (Sh.es), (Sh.es), H', ⟨Nat.le_refl _⟩, Sh.dr⟩
  case round =>
   clear H'
   obtain ⟨x1_1, x5_1, rfl, rfl, HA, HK1, ⟨m1, rfl⟩⟩ := hrel
   cases gk with
   | zero => exact absurd HA.out (by simp [laws_szIntSS.l0])
   | succ k1 =>
    have H := HA.out
    clear HA
    simp only [laws_szIntSS.l0] at H
    by_cases c4 : x5_1 < (l0.length : Int)
    ·rw [if_pos c4] at H
     have c4b0 := decide_eq_true c4
     clear c4
     by_cases c5 : 0 ≤ x5_1
     ·rw [if_pos c5] at H
      have c5b0 := decide_eq_true c5
      clear c5
      obtain ⟨t102, A6, H⟩ := Sh.ba H
      by_cases c7 : t102 < 0
      ·rw [if_pos c7] at H
       have c7b0 := decide_eq_true c7
       clear c7
       obtain rfl := Option.some.inj H
       have p101 : 0 ≤ (x5_1 : Int) := Sh.od
       have q101 : x5_1 < (l0.length : Int) := Sh.od
       obtain ⟨ad101, A101_0, c101_0, e101, hx101_0, hl101_0, hi101_0⟩ := at_L1 HR0.out x5_1 p101 q101
       cases e101
       have HR101_0 := am_ hi101_0
       have HC101_0 := am_ hl101_0
       clear hi101_0 hl101_0
       replace p101 := eq_true p101
       replace q101 := eq_true q101
       go_wp2_with (first | ((with_reducible refine Sh.k 34 ?_); refine Sh.gL (some 23) Try.func34 #[.slice A101_0 (rd_L1 l0 x5_1).length c101_0, .int .i64 x1_1] (h := ?_); (with_reducible refine (laws_szIntS.calls _ _ (rd_L1 l0 x5_1) x1_1 t102 _ ?side1 ?side2 A6.out).mono ?_); (case side1 => repeat (first | exact HR101_0.out | (with_reducible first | refine Kd.C_alloc ?_ _ | refine Kd.C_drewN ?_ _ | refine Kd.C_drew ?_))); (case side2 => exact HC101_0.out); rintro e w' ⟨rfl, ⟨nd, rfl⟩⟩; refine ⟨_, rfl, ?_⟩))
       go_ret
       exact ⟨Sh.es, Sh.dr⟩
      ·rw [if_neg c7] at H
       have c7b0 := decide_eq_false c7
       clear c7
       have H' := am_ H
       clear H
       have p101 : 0 ≤ (x5_1 : Int) := Sh.od
       have q101 : x5_1 < (l0.length : Int) := Sh.od
       obtain ⟨ad101, A101_0, c101_0, e101, hx101_0, hl101_0, hi101_0⟩ := at_L1 HR0.out x5_1 p101 q101
       cases e101
       have HR101_0 := am_ hi101_0
       have HC101_0 := am_ hl101_0
       clear hi101_0 hl101_0
       replace p101 := eq_true p101
       replace q101 := eq_true q101
       go_wp2_with (first | ((with_reducible refine Sh.k 34 ?_); refine Sh.gL (some 23) Try.func34 #[.slice A101_0 (rd_L1 l0 x5_1).length c101_0, .int .i64 x1_1] (h := ?_); (with_reducible refine (laws_szIntS.calls _ _ (rd_L1 l0 x5_1) x1_1 t102 _ ?side1 ?side2 A6.out).mono ?_); (case side1 => repeat (first | exact HR101_0.out | (with_reducible first | refine Kd.C_alloc ?_ _ | refine Kd.C_drewN ?_ _ | refine Kd.C_drew ?_))); (case side2 => exact HC101_0.out); rintro e w' ⟨rfl, ⟨nd, rfl⟩⟩; refine ⟨_, rfl, ?_⟩))
       go_roundg k1
       case measure => have := HK1.out; omega
       case rel => exact ⟨(t102), (wrap64 (x5_1 + 1)), (Sh.es), (Sh.es), H', ⟨by have := HK1.out; omega⟩, Sh.dr⟩
     ·rw [if_neg c5] at H
      exact absurd H (by simp)
    ·rw [if_neg c4] at H
     have c4b0 := decide_eq_false c4
     clear c4
     obtain rfl := Option.some.inj H
     go_wp2
     go_ret
     exact ⟨Sh.es, Sh.dr⟩
def laws_szGraph.f (k : Nat) (l0_0 : List (List Int)) (a1 : Int) : Option (Int) := (laws_szIntSS.f k l0_0 a1).bind fun t104 => (if t104 < 0 then (some (-1)) else (some t104))
theorem laws_szGraph.mono : ∀ a0 a1 k, LeO (laws_szGraph.f k a0 a1) (laws_szGraph.f (k + 1) a0 a1) := by
 intro a0 a1 k
 unfold laws_szGraph.f
 repeat' with_reducible first | apply laws_szIntSS.mono | exact LeO.refl _ | exact LeO.none _ | apply LeO.ite | refine LeO.bind ?_ fun _ => ?_
theorem laws_szGraph.calls (k : Nat) (A0_0 : Option Addr) (c0_0 : Nat) (l0_0 : List (List Int)) (a1 : Int) (r : Int) (w : World) (hr0_0 : Kd.C (Kd.slice 3 (Kd.int .i64)) w A0_0 l0_0.length l0_0) (hc0_0 : l0_0.length ≤ c0_0) (h : laws_szGraph.f k l0_0 a1 = some r) :
  Calls Try.prog 7 #[.agg #[.slice A0_0 l0_0.length c0_0], .int .i64 a1] w fun e w' => e = .returned (.int .i64 r) ∧ Below w.heap.size w w' := by
 have hu24 := Try.underlying24
 have HR0_0 := am_ hr0_0
 have HC0_0 := am_ hc0_0
 clear hr0_0 hc0_0
 have HB := am_ (Below.refl w.heap.size w)
 have H := h
 clear h
 unfold laws_szGraph.f at H
 obtain ⟨t104, A3, H⟩ := Sh.ba H
 by_cases c4 : t104 < 0
 ·rw [if_pos c4] at H
  have c4b0 := decide_eq_true c4
  clear c4
  obtain rfl := Option.some.inj H
  go_enter Try.func7, Try.ntmps7
  go_wp2_with (first | ((with_reducible refine Sh.d 2 ?_); refine Sh.bz w (N := 2) (cs := #[.slice A0_0 l0_0.length c0_0]) (t := 24) (h := ?_); clear HB; intro gb103 w5 BK103 GE103 HB; have hcz6_0 := Sh.bc BK103.out 0; have hfz6_0 := blk_frozen BK103.out 0) | ((with_reducible refine Sh.k 18 ?_); refine Sh.gD (some 8) Try.func18 #[.slice A0_0 l0_0.length c0_0, .int .i64 a1] (laws_szIntSS.calls k _ _ l0_0 a1 t104 _ (Sh.cB HR0_0.out) HC0_0.out A3.out) fun nd => ?_))
  go_ret
  exact ⟨Sh.eR, Sh.bw⟩
 ·rw [if_neg c4] at H
  have c4b0 := decide_eq_false c4
  clear c4
  obtain rfl := Option.some.inj H
  go_enter Try.func7, Try.ntmps7
  go_wp2_with (first | ((with_reducible refine Sh.d 2 ?_); refine Sh.bz w (N := 2) (cs := #[.slice A0_0 l0_0.length c0_0]) (t := 24) (h := ?_); clear HB; intro gb103 w7 BK103 GE103 HB; have hcz8_0 := Sh.bc BK103.out 0; have hfz8_0 := blk_frozen BK103.out 0) | ((with_reducible refine Sh.k 18 ?_); refine Sh.gD (some 8) Try.func18 #[.slice A0_0 l0_0.length c0_0, .int .i64 a1] (laws_szIntSS.calls k _ _ l0_0 a1 t104 _ (Sh.cB HR0_0.out) HC0_0.out A3.out) fun nd => ?_))
  go_ret
  exact ⟨Sh.eR, Sh.bw⟩
def laws_toIntS.l0 : Nat → List Int → List Int → Int → Option (List Int)
 | 0, _, _, _ => none
 | k + 1, x0, x3, x4 => if x4 < (x0.length : Int) then (if 0 ≤ x4 then (if x4 < (x3.length : Int) then (laws_toIntS.l0 k x0 (x3.set (x4 : Int).toNat (rd x0 x4)) (wrap64 (x4 + 1))) else (none)) else (none)) else (some x3)
def laws_toIntS.f (k : Nat) (l0 : List Int) : Option (List Int) := if 0 ≤ (l0.length : Int) then (if ((l0.length : Int) : Int).toNat ≤ 35184372088832 then (laws_toIntS.l0 k l0 (List.replicate ((l0.length : Int) : Int).toNat 0) 0) else (none)) else (none)
theorem laws_toIntS.mono_l : ∀ k, (∀ y0 y1 y2, LeO (laws_toIntS.l0 k y0 y1 y2) (laws_toIntS.l0 (k + 1) y0 y1 y2))
 | 0 => fun _ _ _ r h => by simp [laws_toIntS.l0] at h
 | k + 1 => by
  have ih0 := laws_toIntS.mono_l k
  ·intro y0 y1 y2
   unfold laws_toIntS.l0
   repeat' with_reducible first | apply ih0 | exact LeO.refl _ | exact LeO.none _ | apply LeO.ite | refine LeO.bind ?_ fun _ => ?_
theorem laws_toIntS.mono : ∀ a0 k, LeO (laws_toIntS.f k a0) (laws_toIntS.f (k + 1) a0) := by
 intro a0 k
 have ih0 := laws_toIntS.mono_l k
 unfold laws_toIntS.f
 repeat' with_reducible first | apply ih0 | exact LeO.refl _ | exact LeO.none _ | apply LeO.ite | refine LeO.bind ?_ fun _ => ?_
theorem laws_toIntS.calls (k : Nat) (A0 : Option Addr) (c0 : Nat) (l0 : List Int) (r : List Int) (w : World) (hr0 : Kd.C (Kd.int .i64) w A0 l0.length l0) (hc0 : l0.length ≤ c0) (h : laws_toIntS.f k l0 = some r) :
  Calls Try.prog 25 #[.slice A0 l0.length c0] w fun e w' => ∃ v0_ : Value, e = .returned (v0_) ∧ Kd.R (Kd.int .i64) 3 w' w.heap.size (fun _ => True) v0_ r ∧ Below w.heap.size w w' := by
 have HR0 := am_ hr0
 have HC0 := am_ hc0
 clear hr0 hc0
 have HB := am_ (Below.refl w.heap.size w)
 have H := h
 clear h
 unfold laws_toIntS.f at H
 by_cases c2 : 0 ≤ (l0.length : Int)
 ·rw [if_pos c2] at H
  have c2b0 := eq_true c2
  have c2b1 := decide_eq_true c2
  clear c2
  by_cases c3 : ((l0.length : Int) : Int).toNat ≤ 35184372088832
  ·rw [if_pos c3] at H
   have c3b0 := eq_true c3
   have c3b1 := decide_eq_true c3
   clear c3
   obtain ⟨y105, hy105⟩ : ∃ y_ : List Int, y_ = (List.replicate ((l0.length : Int) : Int).toNat 0) := ⟨_, rfl⟩
   replace H : (laws_toIntS.l0 k l0 y105 0) = some r := by first | (rw [hy105]; with_reducible exact H) | (have H2_ := (Option.bind_some _ _).symm.trans H; rw [hy105]; with_reducible exact H2_) | (have H2_ := (Option.bind_some _ _).symm.trans H; with_reducible exact H2_) | with_reducible exact H | (rw [hy105]; exact H) | exact H
   have Ny105 := am_ hy105
   clear hy105
   have H' := am_ H
   clear H
   go_enter Try.func25, Try.ntmps25
   go_wp2_with (first | ((with_reducible refine Sh.d 7 ?_); refine Kd.R_make (Kd.int .i64) _ 3 rfl (N := 7) rfl 26 _ _ rfl (l0.length : Int) rfl rfl Try.underlying26 (.int .i64 0) 8 info3 rfl (by decide) (by omega) 0 (ok := fun _ => True) (okp := fun _ => True) rfl (fun _ hk => hk) trivial (of_decide_eq_true (by first | (with_reducible assumption) | assumption)) (Nat.le_trans (Nat.mul_le_mul_right _ (of_decide_eq_true (by first | (with_reducible assumption) | assumption) : (l0.length : Int).toNat ≤ 35184372088832)) (by omega)) (Below.refl _ _) (Nat.le_refl _) ?_; intro v106 w4 ho5 hb hg_ hnew_; clear hg_ hnew_; (first | rw [← Ny105.out] at ho5 | (simp only [Int.reduceToNat] at ho5; rw [← Ny105.out] at ho5)); have HO107 := am_ (Kd.R_lower ho5 (below_size Sh.bw)); replace HB := Sh.hb hb; clear hb ho5))
   go_loopg [4] k (fun kq v4 w' => ∃ (x3_1 : List Int) (x4_1 : Int), v4 = .int .i64 x4_1 ∧ Aside0 (laws_toIntS.l0 kq l0 x3_1 x4_1 = some r) ∧ Aside0 (kq ≤ k) ∧ Aside0 (Kd.R (Kd.int .i64) 3 w' w.heap.size (fun _ => True) v106 x3_1) ∧ Aside0 (Below w.heap.size w w'))
   case atStart => exact ⟨(y105), (0), (Sh.es), H', ⟨Nat.le_refl _⟩, ⟨Sh.rl HO107.out⟩, ⟨Sh.bw⟩⟩
   case round =>
    clear H'
    obtain ⟨x3_1, x4_1, rfl, HA, HK1, HO_3, HB⟩ := hrel
    cases gk with
    | zero => exact absurd HA.out (by simp [laws_toIntS.l0])
    | succ k1 =>
     have H := HA.out
     clear HA
     simp only [laws_toIntS.l0] at H
     by_cases c6 : x4_1 < (l0.length : Int)
     ·rw [if_pos c6] at H
      have c6b0 := decide_eq_true c6
      clear c6
      by_cases c7 : 0 ≤ x4_1
      ·rw [if_pos c7] at H
       have c7b0 := decide_eq_true c7
       clear c7
       by_cases c8 : x4_1 < (x3_1.length : Int)
       ·rw [if_pos c8] at H
        have c8b0 := decide_eq_true c8
        clear c8
        obtain ⟨y109, hy109⟩ : ∃ y_ : List Int, y_ = (x3_1.set (x4_1 : Int).toNat (rd l0 x4_1)) := ⟨_, rfl⟩
        replace H : (laws_toIntS.l0 k1 l0 y109 (wrap64 (x4_1 + 1))) = some r := by first | (rw [hy109]; with_reducible exact H) | (have H2_ := (Option.bind_some _ _).symm.trans H; rw [hy109]; with_reducible exact H2_) | (have H2_ := (Option.bind_some _ _).symm.trans H; with_reducible exact H2_) | with_reducible exact H | (rw [hy109]; exact H) | exact H
        have Ny109 := am_ hy109
        clear hy109
        have H' := am_ H
        clear H
        have p108 : 0 ≤ (x4_1 : Int) := Sh.od
        have q108 : x4_1 < (l0.length : Int) := Sh.od
        obtain ⟨ad108, e108, hx108_0⟩ := Kd.at_int HR0.out x4_1 p108 q108
        cases e108
        try replace hx108_0 := Sh.cw hx108_0
        replace p108 := eq_true p108
        replace q108 := eq_true q108
        have p9 : 0 ≤ (x4_1 : Int) := Sh.od
        have q9 : (x4_1 : Int) < ((x3_1.length : Int) : Int) := Sh.od
        obtain ⟨go9, co9, eo9, gb9, gl9, cl9, HG9⟩ := Kd.R_form HO_3.out (by omega)
        (first | cases eo9 | (injection eo9 with ea_ en_ ec_; (first | subst ea_ | (injection ea_ with ea_; subst ea_)); subst ec_; clear en_))
        have GB9 := am_ gb9
        have GG9 := am_ HG9
        clear gb9 gl9 HG9
        obtain ⟨hx9_0, hf9_0⟩ := Kd.R_celln 0 HO_3.out (x4_1 : Int) p9 q9
        replace p9 := eq_true p9
        replace q9 := eq_true q9
        have HP10 := Kd.R_putg HO_3.out (x4_1 : Int) (rd l0 x4_1)
        go_wp2_with (first | ((with_reducible refine gate_store (t := 3) (p := 20) rfl ?_); refine store_event (t := 3) (p := 20) (v := ?vo_w11) (w1 := (wr.setCell ⟨go9, (x4_1 : Int).toNat, none⟩ (.int .i64 (rd l0 x4_1)))) ?hg ?ho ?hn ?hr ?_; (case ho => rfl); (case hg => rfl); (case hn => rfl); (case hr => first | (go_simp; done) | (go_simp; rfl)); intro w11 hw; have hg : wr.grownBy w11 (some go9) := (by rw [hw]; exact HP10.2); have hp_ : Kd.R (Kd.int .i64) 3 w11 w.heap.size (fun _ => True) (.slice (some ⟨go9, 0, none⟩) x3_1.length co9) y109 := (by rw [hw, Ny109.out]; exact HP10.1); clear HP10; replace HO_3 := am_ hp_; replace HB := am_ ((by rw [hw]; exact below_set (HB.out) GB9.out : Below w.heap.size w w11)); clear hg hw hp_))
        go_roundg k1
        case measure => have := HK1.out; omega
        case rel => exact ⟨(y109), (wrap64 (x4_1 + 1)), (Sh.es), H', ⟨by have := HK1.out; omega⟩, ⟨Sh.rl HO_3.out⟩, ⟨Sh.bw⟩⟩
       ·rw [if_neg c8] at H
        exact absurd H (by simp)
      ·rw [if_neg c7] at H
       exact absurd H (by simp)
     ·rw [if_neg c6] at H
      have c6b0 := decide_eq_false c6
      clear c6
      obtain rfl := Option.some.inj H
      go_wp2
      go_ret
      exact ⟨_, Sh.eR, Sh.rl HO_3.out, Sh.bw⟩
  ·rw [if_neg c3] at H
   exact absurd H (by simp)
 ·rw [if_neg c2] at H
  exact absurd H (by simp)
def laws_toIntSS.l0 : Nat → List (List Int) → List (List Int) → Int → Option ((List (List Int)))
 | 0, _, _, _ => none
 | k + 1, x0, x3, x4 => if x4 < (x0.length : Int) then (if 0 ≤ x4 then ((laws_toIntS.f k (rd_L1 x0 x4)).bind fun t114 => (if x4 < (x3.length : Int) then (laws_toIntSS.l0 k x0 (x3.set (x4 : Int).toNat t114) (wrap64 (x4 + 1))) else (none))) else (none)) else (some x3)
def laws_toIntSS.f (k : Nat) (l0 : List (List Int)) : Option ((List (List Int))) := if 0 ≤ (l0.length : Int) then (if ((l0.length : Int) : Int).toNat ≤ 11728124029610 then (laws_toIntSS.l0 k l0 (List.replicate ((l0.length : Int) : Int).toNat []) 0) else (none)) else (none)
theorem laws_toIntSS.mono_l : ∀ k, (∀ y0 y1 y2, LeO (laws_toIntSS.l0 k y0 y1 y2) (laws_toIntSS.l0 (k + 1) y0 y1 y2))
 | 0 => fun _ _ _ r h => by simp [laws_toIntSS.l0] at h
 | k + 1 => by
  have ih0 := laws_toIntSS.mono_l k
  ·intro y0 y1 y2
   unfold laws_toIntSS.l0
   repeat' with_reducible first | apply ih0 | apply laws_toIntS.mono | exact LeO.refl _ | exact LeO.none _ | apply LeO.ite | refine LeO.bind ?_ fun _ => ?_
theorem laws_toIntSS.mono : ∀ a0 k, LeO (laws_toIntSS.f k a0) (laws_toIntSS.f (k + 1) a0) := by
 intro a0 k
 have ih0 := laws_toIntSS.mono_l k
 unfold laws_toIntSS.f
 repeat' with_reducible first | apply ih0 | apply laws_toIntS.mono | exact LeO.refl _ | exact LeO.none _ | apply LeO.ite | refine LeO.bind ?_ fun _ => ?_
theorem laws_toIntSS.calls (k : Nat) (A0 : Option Addr) (c0 : Nat) (l0 : List (List Int)) (r : List (List Int)) (w : World) (hr0 : Kd.C (Kd.slice 3 (Kd.int .i64)) w A0 l0.length l0) (hc0 : l0.length ≤ c0) (h : laws_toIntSS.f k l0 = some r) :
  Calls Try.prog 20 #[.slice A0 l0.length c0] w fun e w' => ∃ v0_ : Value, e = .returned (v0_) ∧ Kd.S (Kd.slice 3 (Kd.int .i64)) 26 w' w.heap.size (fun _ => True) v0_ r ∧ Below w.heap.size w w' := by
 have HR0 := am_ hr0
 have HC0 := am_ hc0
 clear hr0 hc0
 have HB := am_ (Below.refl w.heap.size w)
 have H := h
 clear h
 unfold laws_toIntSS.f at H
 by_cases c2 : 0 ≤ (l0.length : Int)
 ·rw [if_pos c2] at H
  have c2b0 := eq_true c2
  have c2b1 := decide_eq_true c2
  clear c2
  by_cases c3 : ((l0.length : Int) : Int).toNat ≤ 11728124029610
  ·rw [if_pos c3] at H
   have c3b0 := eq_true c3
   have c3b1 := decide_eq_true c3
   clear c3
   obtain ⟨y110, hy110⟩ : ∃ y_ : List (List Int), y_ = (List.replicate ((l0.length : Int) : Int).toNat []) := ⟨_, rfl⟩
   replace H : (laws_toIntSS.l0 k l0 y110 0) = some r := by first | (rw [hy110]; with_reducible exact H) | (have H2_ := (Option.bind_some _ _).symm.trans H; rw [hy110]; with_reducible exact H2_) | (have H2_ := (Option.bind_some _ _).symm.trans H; with_reducible exact H2_) | with_reducible exact H | (rw [hy110]; exact H) | exact H
   have Ny110 := am_ hy110
   clear hy110
   have H' := am_ H
   clear H
   go_enter Try.func20, Try.ntmps20
   go_wp2_with (first | ((with_reducible refine Sh.d 7 ?_); refine Kd.S_make (Kd.slice 3 (Kd.int .i64)) _ 26 rfl (N := 7) rfl 22 _ _ rfl (l0.length : Int) rfl rfl Try.underlying22 (.slice none 0 0) 24 info26 rfl (by decide) (by omega) [] (ok := fun _ => True) (okp := fun _ => True) ⟨_, rfl, Kd.R_nil _ _ _ _ _⟩ (fun _ hk => hk) trivial (of_decide_eq_true (by first | (with_reducible assumption) | assumption)) (Nat.le_trans (Nat.mul_le_mul_right _ (of_decide_eq_true (by first | (with_reducible assumption) | assumption) : (l0.length : Int).toNat ≤ 11728124029610)) (by omega)) (Below.refl _ _) (Nat.le_refl _) ?_; intro v111 w4 ho5 hb hg_ hnew_; clear hg_ hnew_; (first | rw [← Ny110.out] at ho5 | (simp only [Int.reduceToNat] at ho5; rw [← Ny110.out] at ho5)); have HO112 := am_ (Kd.S_lower ho5 (below_size Sh.bw)); replace HB := Sh.hb hb; clear hb ho5))
   go_loopg [4] k (fun kq v4 w' => ∃ (x3_1 : List (List Int)) (x4_1 : Int), v4 = .int .i64 x4_1 ∧ Aside0 (laws_toIntSS.l0 kq l0 x3_1 x4_1 = some r) ∧ Aside0 (kq ≤ k) ∧ Aside0 (Kd.S (Kd.slice 3 (Kd.int .i64)) 26 w' w.heap.size (fun _ => True) v111 x3_1) ∧ Aside0 (Below w.heap.size w w'))
   case atStart => exact ⟨(y110), (0), (Sh.es), H', ⟨Nat.le_refl _⟩, ⟨by (with_reducible repeat (first | apply Kd.S_alloc | apply Kd.S_drewN | apply Kd.S_drew)); exact HO112.out⟩, ⟨Sh.bw⟩⟩
   case round =>
    clear H'
    obtain ⟨x3_1, x4_1, rfl, HA, HK1, HO_3, HB⟩ := hrel
    cases gk with
    | zero => exact absurd HA.out (by simp [laws_toIntSS.l0])
    | succ k1 =>
     have H := HA.out
     clear HA
     simp only [laws_toIntSS.l0] at H
     by_cases c6 : x4_1 < (l0.length : Int)
     ·rw [if_pos c6] at H
      have c6b0 := decide_eq_true c6
      clear c6
      by_cases c7 : 0 ≤ x4_1
      ·rw [if_pos c7] at H
       have c7b0 := decide_eq_true c7
       clear c7
       obtain ⟨t114, A8, H⟩ := Sh.ba H
       by_cases c9 : x4_1 < (x3_1.length : Int)
       ·rw [if_pos c9] at H
        have c9b0 := decide_eq_true c9
        clear c9
        obtain ⟨y117, hy117⟩ : ∃ y_ : List (List Int), y_ = (x3_1.set (x4_1 : Int).toNat t114) := ⟨_, rfl⟩
        replace H : (laws_toIntSS.l0 k1 l0 y117 (wrap64 (x4_1 + 1))) = some r := by first | (rw [hy117]; with_reducible exact H) | (have H2_ := (Option.bind_some _ _).symm.trans H; rw [hy117]; with_reducible exact H2_) | (have H2_ := (Option.bind_some _ _).symm.trans H; with_reducible exact H2_) | with_reducible exact H | (rw [hy117]; exact H) | exact H
        have Ny117 := am_ hy117
        clear hy117
        have H' := am_ H
        clear H
        have p113 : 0 ≤ (x4_1 : Int) := Sh.od
        have q113 : x4_1 < (l0.length : Int) := Sh.od
        obtain ⟨ad113, A113_0, c113_0, e113, hx113_0, hl113_0, hi113_0⟩ := at_L1 HR0.out x4_1 p113 q113
        cases e113
        try replace hx113_0 := Sh.cw hx113_0
        have HR113_0 := am_ hi113_0
        have HC113_0 := am_ hl113_0
        clear hi113_0 hl113_0
        replace p113 := eq_true p113
        replace q113 := eq_true q113
        go_wp2_with (first | ((with_reducible refine Sh.k 25 ?_); refine Sh.gL (some 20) Try.func25 #[.slice A113_0 (rd_L1 l0 x4_1).length c113_0] (h := ?_); (with_reducible refine (laws_toIntS.calls k1 _ _ (rd_L1 l0 x4_1) t114 _ (Sh.cB HR113_0.out) HC113_0.out A8.out).mono ?_); rintro e w11 ⟨v115, rfl, ho0, hb⟩; refine ⟨_, rfl, ?_⟩; replace HO_3 := am_ (Kd.S_elder' (by (with_reducible repeat (first | apply Kd.S_alloc | apply Kd.S_drewN | apply Kd.S_drew)); exact HO_3.out) (Kd.R_base ho0) hb); have HO116 := am_ (Kd.R_lower ho0 (below_size Sh.bw)); replace HB := Sh.hb hb; (try clear hb); (try clear hb2); (try clear hk); (try clear hi); (try clear ho0); have p10 : 0 ≤ (x4_1 : Int) := Sh.od; have q10 : (x4_1 : Int) < ((x3_1.length : Int) : Int) := Sh.od; obtain ⟨go10, co10, eo10, gb10, gl10, cl10, HG10⟩ := Kd.S_form HO_3.out (by omega); (first | cases eo10 | (injection eo10 with ea_ en_ ec_; (first | subst ea_ | (injection ea_ with ea_; subst ea_)); subst ec_; clear en_)); have GB10 := am_ gb10; have GG10 := am_ HG10; clear gb10 gl10 HG10; obtain ⟨_, ce10, hcl10, hM10, hcc10, hfr10, _, _⟩ := Kd.S_elem HO_3.out [] (x4_1 : Int) p10 q10; obtain ⟨ve10_0, rfl, ge10_0⟩ := hM10; have hx10_0 := hcc10 0 _ rfl; have hf10_0 := hfr10 0; (try simp only [show ((Kd.slice 3 (Kd.int .i64))).sz = 1 from rfl, Nat.mul_one, Nat.add_zero] at hx10_0); (try simp only [show ((Kd.slice 3 (Kd.int .i64))).sz = 1 from rfl, Nat.mul_one, Nat.add_zero] at hf10_0); clear hcl10 hcc10 hfr10; (try clear hM10); replace p10 := eq_true p10; replace q10 := eq_true q10; obtain ⟨Ao14, co14, eo14⟩ := Kd.R_slice HO116.out; subst eo14; have n_ := am_ (Kd.S_mono (ok' := (fun k_ => some k_ ≠ (.slice Ao14 t114.length co14 : Value).ownBlock)) HO_3.out (fun k_ hk => hk.2)); clear HO_3; have HO_3 := n_; clear n_; have HX12 := am_ (show Kd.S (Kd.slice 3 (Kd.int .i64)) 26 w11 w.heap.size (fun k_ => ((fun _ => True)) k_ ∧ ¬ ((fun k_ => some k_ = (.slice Ao14 t114.length co14 : Value).ownBlock)) k_) (.slice (some ⟨go10, 0, none⟩) x3_1.length co10) x3_1 from (by (with_reducible repeat (first | apply Kd.S_alloc | apply Kd.S_drewN | apply Kd.S_drew)); exact Kd.S_mono HO_3.out (fun k_ hk => ⟨trivial, fun e_ => hk e_⟩))); obtain ⟨oki12, ce12, hcl12, hM12, hcc12, hfr12, hoki12, hH12⟩ := Kd.S_elem HX12.out [] (x4_1 : Int) (of_decide_eq_true (by first | (with_reducible assumption) | assumption)) (by have h_ : (x4_1 : Int) < ((x3_1.length : Int) : Int) := Sh.od; first | exact h_ | (have e_ := (Kd.S_reads' HO_3.out).1; omega) | simpa using h_); obtain ⟨ve12_0, rfl, ge12_0⟩ := hM12; have HP12 := Kd.S_seg hH12 (of_decide_eq_true (by first | (with_reducible assumption) | assumption)) (by have h_ : (x4_1 : Int) < ((x3_1.length : Int) : Int) := Sh.od; first | exact h_ | (have e_ := (Kd.S_reads' HO_3.out).1; omega) | simpa using h_) (seg := [.slice Ao14 t114.length co14]) (j := 0) (show 1 ≤ 1 from by decide) (x' := t114) (Kd.M_row (Kd.R_mono (Kd.R_tight rfl (Kd.R_mono (ok' := fun k_ => ((fun _ => True)) k_ ∧ k_ ≠ go10) (Kd.R_apart' (HO116.out) (Kd.S_typed HO_3.out) (by decide)) (fun k_ hk => ⟨trivial, fun e_ => (hk.2) (by rw [e_]; rfl)⟩))) (fun _ h_ => Or.inr (h_)))) (fun _ hk => hk) (fun k_ hk_ => ((Kd.R_mono (ok' := fun k_ => ((fun _ => True)) k_ ∧ k_ ≠ go10) (Kd.R_apart' (HO116.out) (Kd.S_typed HO_3.out) (by decide)) (fun k_ hk => ⟨trivial, fun e_ => (hk.2) (by rw [e_]; rfl)⟩))).1 k_ hk_.symm); have hx12_0 := hcc12 0 _ rfl; (try simp only [show ((Kd.slice 3 (Kd.int .i64))).sz = 1 from rfl, Nat.mul_one, Nat.add_zero] at hx12_0); have hf12_0 := hfr12 0; (try simp only [show ((Kd.slice 3 (Kd.int .i64))).sz = 1 from rfl, Nat.mul_one, Nat.add_zero] at hf12_0); clear hcl12 hcc12 hfr12 hoki12 hH12; (try clear hM12); (try simp only [show ((Kd.slice 3 (Kd.int .i64))).sz = 1 from rfl, Nat.mul_one, Nat.add_zero] at HP12)) | ((with_reducible refine gate_store (t := 26) (p := 21) rfl ?_); refine store_event (t := 26) (p := 21) (v := ?vo_w13) (w1 := (w11.setCell ⟨go10, (x4_1 : Int).toNat, none⟩ (.slice Ao14 t114.length co14))) ?hg ?ho ?hn ?hr ?_; (case ho => rfl); (case hg => rfl); (case hn => rfl); (case hr => first | (go_simp; done) | (go_simp; rfl)); intro w13 hw; have hg : w11.grownBy w13 (some go10) := (by rw [hw]; exact HP12.2); have hp_ : Kd.S (Kd.slice 3 (Kd.int .i64)) 26 w13 w.heap.size (fun _ => True) (.slice (some ⟨go10, 0, none⟩) x3_1.length co10) y117 := (by rw [hw, Ny117.out]; exact HP12.1); clear HP12; have n0_ := am_ hp_; have n1_ := am_ ((by rw [hw]; exact below_set (HB.out) GB10.out : Below w.heap.size w w13)); clear HO_3; clear HB; clear HO116; have HO_3 := n0_; have HB := n1_; clear n0_ n1_; clear hg hw hp_))
        go_roundg k1
        case measure => have := HK1.out; omega
        case rel => exact ⟨(y117), (wrap64 (x4_1 + 1)), (Sh.es), H', ⟨by have := HK1.out; omega⟩, ⟨by (with_reducible repeat (first | apply Kd.S_alloc | apply Kd.S_drewN | apply Kd.S_drew)); exact HO_3.out⟩, ⟨Sh.bw⟩⟩
       ·rw [if_neg c9] at H
        exact absurd H (by simp)
      ·rw [if_neg c7] at H
       exact absurd H (by simp)
     ·rw [if_neg c6] at H
      have c6b0 := decide_eq_false c6
      clear c6
      obtain rfl := Option.some.inj H
      go_wp2
      go_ret
      exact ⟨_, Sh.eR, by (with_reducible repeat (first | apply Kd.S_alloc | apply Kd.S_drewN | apply Kd.S_drew)); exact HO_3.out, Sh.bw⟩
  ·rw [if_neg c3] at H
   exact absurd H (by simp)
 ·rw [if_neg c2] at H
  exact absurd H (by simp)
def laws_toGraph.f (k : Nat) (l0_0 : List (List Int)) : Option ((List (List Int))) := (laws_toIntSS.f k l0_0).bind fun t121 => (some t121)
theorem laws_toGraph.mono : ∀ a0 k, LeO (laws_toGraph.f k a0) (laws_toGraph.f (k + 1) a0) := by
 intro a0 k
 unfold laws_toGraph.f
 repeat' with_reducible first | apply laws_toIntSS.mono | exact LeO.refl _ | exact LeO.none _ | apply LeO.ite | refine LeO.bind ?_ fun _ => ?_
theorem laws_toGraph.calls (k : Nat) (A0_0 : Option Addr) (c0_0 : Nat) (l0_0 : List (List Int)) (r : List (List Int)) (w : World) (hr0_0 : Kd.C (Kd.slice 3 (Kd.int .i64)) w A0_0 l0_0.length l0_0) (hc0_0 : l0_0.length ≤ c0_0) (h : laws_toGraph.f k l0_0 = some r) :
  Calls Try.prog 9 #[.agg #[.slice A0_0 l0_0.length c0_0]] w fun e w' => ∃ v0_ : Value, e = .returned (.agg #[v0_]) ∧ Kd.S (Kd.slice 3 (Kd.int .i64)) 26 w' w.heap.size (fun _ => True) v0_ r ∧ Below w.heap.size w w' := by
 have hu24 := Try.underlying24
 have hu29 := Try.underlying29
 have HR0_0 := am_ hr0_0
 have HC0_0 := am_ hc0_0
 clear hr0_0 hc0_0
 have HB := am_ (Below.refl w.heap.size w)
 have H := h
 clear h
 unfold laws_toGraph.f at H
 obtain ⟨t121, A2, H⟩ := Sh.ba H
 obtain rfl := Option.some.inj H
 go_enter Try.func9, Try.ntmps9
 go_wp2_with (first | ((with_reducible refine Sh.d 1 ?_); refine Sh.bz w (N := 1) (cs := #[.slice A0_0 l0_0.length c0_0]) (t := 24) (h := ?_); clear HB; intro gb118 w3 BK118 GE118 HB) | ((with_reducible refine Sh.d 2 ?_); refine Sh.bx (N := 2) (cs := #[.slice none 0 0]) (t := 29) (h := ?_); intro gb119 hg w4 hbox hb; have BK119 := am_ hbox; have GE119 := Sh.ag w hg; replace HB := Sh.hb hb; have NB118_119 := am_ (Sh.nl hg BK118.out); have NB119_118 := am_ (Sh.ng hg BK118.out); replace BK118 := Sh.ab BK118 hb; clear hb hbox hg) | ((with_reducible refine Sh.d 3 ?_); refine Sh.bx (N := 3) (cs := #[.slice none 0 0]) (t := 29) (h := ?_); intro gb120 hg w5 hbox hb; have BK120 := am_ hbox; have GE120 := Sh.ag w hg; replace HB := Sh.hb hb; have NB118_120 := am_ (Sh.nl hg BK118.out); have NB120_118 := am_ (Sh.ng hg BK118.out); replace BK118 := Sh.ab BK118 hb; have NB119_120 := am_ (Sh.nl hg BK119.out); have NB120_119 := am_ (Sh.ng hg BK119.out); replace BK119 := Sh.ab BK119 hb; clear hb hbox hg; have hnb6 := NB118_119.out; have hnc6 := NB119_118.out; have hnb7 := NB118_120.out; have hnc7 := NB120_118.out; have hcz8_0 := Sh.bc BK118.out 0; have hfz8_0 := blk_frozen BK118.out 0) | ((with_reducible refine Sh.k 20 ?_); refine Sh.gL (some 6) Try.func20 #[.slice A0_0 l0_0.length c0_0] (h := ?_); (with_reducible refine (laws_toIntSS.calls k _ _ l0_0 t121 _ (Sh.cB HR0_0.out) HC0_0.out A2.out).mono ?_); rintro e w9 ⟨v122, rfl, ho0, hb⟩; refine ⟨_, rfl, ?_⟩; have HO123 := am_ (Kd.S_lower ho0 (below_size Sh.bw)); replace BK118 := Sh.ab BK118 hb; replace BK119 := Sh.ab BK119 hb; replace BK120 := Sh.ab BK120 hb; replace HB := Sh.hb hb; (try clear hb); (try clear hb2); (try clear hk); (try clear hi); (try clear ho0); obtain ⟨Ao10, co10, eo10⟩ := Kd.S_slice HO123.out; subst eo10; have hnb11 := NB120_119.out; have hnc11 := NB119_120.out; have hcz12_0 := Sh.bc BK120.out 0; have hfz12_0 := blk_frozen BK120.out 0; have hcz13_0 := Sh.bc BK119.out 0; have hfz13_0 := blk_frozen BK119.out 0))
 refine bodyPost_ret (results_cell_row rfl _ _ gb119 29 #[.slice Ao10 t121.length co10] (0, 0) _ rfl (by refine Sh.pl ?_; refine blk_put (cs := #[.slice none 0 0]) ?_ 0 _ rfl; refine Sh.pl ?_; refine blk_far ?_ NB119_120.out _; refine Sh.pl ?_; exact BK119.out) Try.underlying29 rfl (by kernel_rfl)) rfl ?_
 exact ⟨_, Sh.eR, by (with_reducible repeat (first | apply Kd.S_alloc | apply Kd.S_drewN | apply Kd.S_drew)); exact Kd.S_mono (Kd.S_far (p := ⟨gb119, 0, none⟩) (Kd.S_far (p := ⟨gb120, 0, none⟩) (Kd.S_types (Kd.S_types HO123.out BK120.out (by decide)) BK119.out (by decide)) (fun _ hk => hk.1.2) (.slice Ao10 t121.length co10)) (fun _ hk => hk.2) (.slice Ao10 t121.length co10)) (fun _ hk => trivial), Sh.bw⟩
def laws_eqIntS.l0 : Nat → List Int → List Int → Int → Option (Bool)
 | 0, _, _, _ => none
 | k + 1, x0, x1, x5 => if x5 < (x0.length : Int) then (if 0 ≤ x5 then (if x5 < (x1.length : Int) then (if (rd x0 x5) = (rd x1 x5) then (laws_eqIntS.l0 k x0 x1 (wrap64 (x5 + 1))) else (some false)) else (none)) else (none)) else (some true)
def laws_eqIntS.f (k : Nat) (l0 : List Int) (l1 : List Int) : Option (Bool) := if (l0.length : Int) = (l1.length : Int) then (laws_eqIntS.l0 k l0 l1 0) else (some false)
theorem laws_eqIntS.mono_l : ∀ k, (∀ y0 y1 y2, LeO (laws_eqIntS.l0 k y0 y1 y2) (laws_eqIntS.l0 (k + 1) y0 y1 y2))
 | 0 => fun _ _ _ r h => by simp [laws_eqIntS.l0] at h
 | k + 1 => by
  have ih0 := laws_eqIntS.mono_l k
  ·intro y0 y1 y2
   unfold laws_eqIntS.l0
   repeat' with_reducible first | apply ih0 | exact LeO.refl _ | exact LeO.none _ | apply LeO.ite | refine LeO.bind ?_ fun _ => ?_
theorem laws_eqIntS.mono : ∀ a0 a1 k, LeO (laws_eqIntS.f k a0 a1) (laws_eqIntS.f (k + 1) a0 a1) := by
 intro a0 a1 k
 have ih0 := laws_eqIntS.mono_l k
 unfold laws_eqIntS.f
 repeat' with_reducible first | apply ih0 | exact LeO.refl _ | exact LeO.none _ | apply LeO.ite | refine LeO.bind ?_ fun _ => ?_
theorem laws_eqIntS.calls (k : Nat) (A0 : Option Addr) (c0 : Nat) (l0 : List Int) (A1 : Option Addr) (c1 : Nat) (l1 : List Int) (r : Bool) (w : World) (hr0 : Kd.C (Kd.int .i64) w A0 l0.length l0) (hc0 : l0.length ≤ c0) (hr1 : Kd.C (Kd.int .i64) w A1 l1.length l1) (hc1 : l1.length ≤ c1) (h : laws_eqIntS.f k l0 l1 = some r) :
  Calls Try.prog 11 #[.slice A0 l0.length c0, .slice A1 l1.length c1] w fun e w' => e = .returned (.bool r) ∧ Drawn0 w w' := by
 have HR0 := am_ hr0
 have HC0 := am_ hc0
 clear hr0 hc0
 have HR1 := am_ hr1
 have HC1 := am_ hc1
 clear hr1 hc1
 have H := h
 clear h
 unfold laws_eqIntS.f at H
 by_cases c3 : (l0.length : Int) = (l1.length : Int)
 ·rw [if_pos c3] at H
  have c3b0 : ((l0.length : Int) == (l1.length : Int)) = true := beq_iff_eq.mpr c3
  have c3b1 : ((l0.length : Int) != (l1.length : Int)) = false := bne_eq_false_iff_eq.mpr c3
  have c3b2 : (l0.length == l1.length) = true := by first | simpa using c3 | (simp at c3 ⊢; omega)
  clear c3
  have H' := am_ H
  clear H
  go_enter Try.func11, Try.ntmps11
  go_wp2
  repeat (go_quiet (fail); try go_wp2)
  go_loopg [5] k (fun kq v5 w' => ∃ (x5_1 : Int), v5 = .int .i64 x5_1 ∧ Aside0 (laws_eqIntS.l0 kq l0 l1 x5_1 = some r) ∧ Aside0 (kq ≤ k) ∧ Drawn0 w w')
  case atStart => exact ⟨(0), (Sh.es), H', ⟨Nat.le_refl _⟩, Sh.dr⟩
  case round =>
   clear H'
   obtain ⟨x5_1, rfl, HA, HK1, ⟨m1, rfl⟩⟩ := hrel
   cases gk with
   | zero => exact absurd HA.out (by simp [laws_eqIntS.l0])
   | succ k1 =>
    have H := HA.out
    clear HA
    simp only [laws_eqIntS.l0] at H
    by_cases c4 : x5_1 < (l0.length : Int)
    ·rw [if_pos c4] at H
     have c4b0 := decide_eq_true c4
     clear c4
     by_cases c5 : 0 ≤ x5_1
     ·rw [if_pos c5] at H
      have c5b0 := decide_eq_true c5
      clear c5
      by_cases c6 : x5_1 < (l1.length : Int)
      ·rw [if_pos c6] at H
       have c6b0 := decide_eq_true c6
       clear c6
       by_cases c7 : (rd l0 x5_1) = (rd l1 x5_1)
       ·rw [if_pos c7] at H
        have c7b0 : ((rd l0 x5_1) == (rd l1 x5_1)) = true := beq_iff_eq.mpr c7
        have c7b1 : ((rd l0 x5_1) != (rd l1 x5_1)) = false := bne_eq_false_iff_eq.mpr c7
        clear c7
        have H' := am_ H
        clear H
        have p124 : 0 ≤ (x5_1 : Int) := Sh.od
        have q124 : x5_1 < (l0.length : Int) := Sh.od
        obtain ⟨ad124, e124, hx124_0⟩ := Kd.at_int HR0.out x5_1 p124 q124
        cases e124
        replace p124 := eq_true p124
        replace q124 := eq_true q124
        have p125 : 0 ≤ (x5_1 : Int) := Sh.od
        have q125 : x5_1 < (l1.length : Int) := Sh.od
        obtain ⟨ad125, e125, hx125_0⟩ := Kd.at_int HR1.out x5_1 p125 q125
        cases e125
        replace p125 := eq_true p125
        replace q125 := eq_true q125
        go_wp2
        repeat (go_quiet (fail); try go_wp2)
        go_roundg k1
        case measure => have := HK1.out; omega
        case rel => exact ⟨(wrap64 (x5_1 + 1)), (Sh.es), H', ⟨by have := HK1.out; omega⟩, Sh.dr⟩
       ·rw [if_neg c7] at H
        have c7b0 : ((rd l0 x5_1) == (rd l1 x5_1)) = false := beq_eq_false_iff_ne.mpr c7
        have c7b1 : ((rd l0 x5_1) != (rd l1 x5_1)) = true := bne_iff_ne.mpr c7
        obtain rfl := Option.some.inj H
        have p124 : 0 ≤ (x5_1 : Int) := Sh.od
        have q124 : x5_1 < (l0.length : Int) := Sh.od
        obtain ⟨ad124, e124, hx124_0⟩ := Kd.at_int HR0.out x5_1 p124 q124
        cases e124
        replace p124 := eq_true p124
        replace q124 := eq_true q124
        have p125 : 0 ≤ (x5_1 : Int) := Sh.od
        have q125 : x5_1 < (l1.length : Int) := Sh.od
        obtain ⟨ad125, e125, hx125_0⟩ := Kd.at_int HR1.out x5_1 p125 q125
        cases e125
        replace p125 := eq_true p125
        replace q125 := eq_true q125
        go_wp2
        repeat (go_quiet (fail); try go_wp2)
        go_ret
        exact ⟨Sh.es, Sh.dr⟩
      ·rw [if_neg c6] at H
       exact absurd H (by simp)
     ·rw [if_neg c5] at H
      exact absurd H (by simp)
    ·rw [if_neg c4] at H
     have c4b0 := decide_eq_false c4
     clear c4
     obtain rfl := Option.some.inj H
     go_wp2
     repeat (go_quiet (fail); try go_wp2)
     go_ret
     exact ⟨Sh.es, Sh.dr⟩
 ·rw [if_neg c3] at H
  have c3b0 : ((l0.length : Int) == (l1.length : Int)) = false := beq_eq_false_iff_ne.mpr c3
  have c3b1 : ((l0.length : Int) != (l1.length : Int)) = true := bne_iff_ne.mpr c3
  have c3b2 : (l0.length == l1.length) = false := by first | simpa using c3 | (simp at c3 ⊢; omega)
  obtain rfl := Option.some.inj H
  go_enter Try.func11, Try.ntmps11
  go_wp2
  repeat (go_quiet (fail); try go_wp2)
  go_ret
  exact ⟨Sh.es, Sh.dr⟩
def laws_eqIntSS.l0 : Nat → List (List Int) → List (List Int) → Int → Option (Bool)
 | 0, _, _, _ => none
 | k + 1, x0, x1, x5 => if x5 < (x0.length : Int) then (if 0 ≤ x5 then (if x5 < (x1.length : Int) then ((laws_eqIntS.f k (rd_L1 x0 x5) (rd_L1 x1 x5)).bind fun t128 => (if t128 = true then (laws_eqIntSS.l0 k x0 x1 (wrap64 (x5 + 1))) else (some false))) else (none)) else (none)) else (some true)
def laws_eqIntSS.f (k : Nat) (l0 : List (List Int)) (l1 : List (List Int)) : Option (Bool) := if (l0.length : Int) = (l1.length : Int) then (laws_eqIntSS.l0 k l0 l1 0) else (some false)
theorem laws_eqIntSS.mono_l : ∀ k, (∀ y0 y1 y2, LeO (laws_eqIntSS.l0 k y0 y1 y2) (laws_eqIntSS.l0 (k + 1) y0 y1 y2))
 | 0 => fun _ _ _ r h => by simp [laws_eqIntSS.l0] at h
 | k + 1 => by
  have ih0 := laws_eqIntSS.mono_l k
  ·intro y0 y1 y2
   unfold laws_eqIntSS.l0
   repeat' with_reducible first | apply ih0 | apply laws_eqIntS.mono | exact LeO.refl _ | exact LeO.none _ | apply LeO.ite | refine LeO.bind ?_ fun _ => ?_
theorem laws_eqIntSS.mono : ∀ a0 a1 k, LeO (laws_eqIntSS.f k a0 a1) (laws_eqIntSS.f (k + 1) a0 a1) := by
 intro a0 a1 k
 have ih0 := laws_eqIntSS.mono_l k
 unfold laws_eqIntSS.f
 repeat' with_reducible first | apply ih0 | apply laws_eqIntS.mono | exact LeO.refl _ | exact LeO.none _ | apply LeO.ite | refine LeO.bind ?_ fun _ => ?_
theorem laws_eqIntSS.calls (k : Nat) (A0 : Option Addr) (c0 : Nat) (l0 : List (List Int)) (A1 : Option Addr) (c1 : Nat) (l1 : List (List Int)) (r : Bool) (w : World) (hr0 : Kd.C (Kd.slice 3 (Kd.int .i64)) w A0 l0.length l0) (hc0 : l0.length ≤ c0) (hr1 : Kd.C (Kd.slice 3 (Kd.int .i64)) w A1 l1.length l1) (hc1 : l1.length ≤ c1) (h : laws_eqIntSS.f k l0 l1 = some r) :
  Calls Try.prog 22 #[.slice A0 l0.length c0, .slice A1 l1.length c1] w fun e w' => e = .returned (.bool r) ∧ Drawn0 w w' := by
 have HR0 := am_ hr0
 have HC0 := am_ hc0
 clear hr0 hc0
 have HR1 := am_ hr1
 have HC1 := am_ hc1
 clear hr1 hc1
 have H := h
 clear h
 unfold laws_eqIntSS.f at H
 by_cases c3 : (l0.length : Int) = (l1.length : Int)
 ·rw [if_pos c3] at H
  have c3b0 : ((l0.length : Int) == (l1.length : Int)) = true := beq_iff_eq.mpr c3
  have c3b1 : ((l0.length : Int) != (l1.length : Int)) = false := bne_eq_false_iff_eq.mpr c3
  have c3b2 : (l0.length == l1.length) = true := by first | simpa using c3 | (simp at c3 ⊢; omega)
  clear c3
  have H' := am_ H
  clear H
  go_enter Try.func22, Try.ntmps22
  go_wp2
  repeat (go_quiet (fail); try go_wp2)
  go_loopg [5] k (fun kq v5 w' => ∃ (x5_1 : Int), v5 = .int .i64 x5_1 ∧ Aside0 (laws_eqIntSS.l0 kq l0 l1 x5_1 = some r) ∧ Aside0 (kq ≤ k) ∧ Drawn0 w w')
  case atStart => exact ⟨(0), (Sh.es), H', ⟨Nat.le_refl _⟩, Sh.dr⟩
  case round =>
   clear H'
   obtain ⟨x5_1, rfl, HA, HK1, ⟨m1, rfl⟩⟩ := hrel
   cases gk with
   | zero => exact absurd HA.out (by simp [laws_eqIntSS.l0])
   | succ k1 =>
    have H := HA.out
    clear HA
    simp only [laws_eqIntSS.l0] at H
    by_cases c4 : x5_1 < (l0.length : Int)
    ·rw [if_pos c4] at H
     have c4b0 := decide_eq_true c4
     clear c4
     by_cases c5 : 0 ≤ x5_1
     ·rw [if_pos c5] at H
      have c5b0 := decide_eq_true c5
      clear c5
      by_cases c6 : x5_1 < (l1.length : Int)
      ·rw [if_pos c6] at H
       have c6b0 := decide_eq_true c6
       clear c6
       obtain ⟨t128, A7, H⟩ := Sh.ba H
       by_cases c8 : t128 = true
       ·subst c8
        rw [if_pos rfl] at H
        have H' := am_ H
        clear H
        have p126 : 0 ≤ (x5_1 : Int) := Sh.od
        have q126 : x5_1 < (l0.length : Int) := Sh.od
        obtain ⟨ad126, A126_0, c126_0, e126, hx126_0, hl126_0, hi126_0⟩ := at_L1 HR0.out x5_1 p126 q126
        cases e126
        have HR126_0 := am_ hi126_0
        have HC126_0 := am_ hl126_0
        clear hi126_0 hl126_0
        replace p126 := eq_true p126
        replace q126 := eq_true q126
        have p127 : 0 ≤ (x5_1 : Int) := Sh.od
        have q127 : x5_1 < (l1.length : Int) := Sh.od
        obtain ⟨ad127, A127_0, c127_0, e127, hx127_0, hl127_0, hi127_0⟩ := at_L1 HR1.out x5_1 p127 q127
        cases e127
        have HR127_0 := am_ hi127_0
        have HC127_0 := am_ hl127_0
        clear hi127_0 hl127_0
        replace p127 := eq_true p127
        replace q127 := eq_true q127
        go_wp2_with (first | (go_at_call 11; (with_reducible refine (laws_eqIntS.calls k1 _ _ (rd_L1 l0 x5_1) _ _ (rd_L1 l1 x5_1) true _ ?side1 ?side2 ?side3 ?side4 A7.out).mono ?_); (case side1 => repeat (first | exact HR126_0.out | (with_reducible first | refine Kd.C_alloc ?_ _ | refine Kd.C_drewN ?_ _ | refine Kd.C_drew ?_))); (case side2 => exact HC126_0.out); (case side3 => repeat (first | exact HR127_0.out | (with_reducible first | refine Kd.C_alloc ?_ _ | refine Kd.C_drewN ?_ _ | refine Kd.C_drew ?_))); (case side4 => exact HC127_0.out); rintro e w' ⟨rfl, ⟨nd, rfl⟩⟩; (try first | exact ⟨rfl, _, World.drewN_drewN _ _ _⟩ | exact ⟨rfl, _, Eq.trans (World.drewN_drewN _ _ _) (congrArg (World.drewN _) (Nat.add_assoc _ _ _))⟩)))
        repeat (go_quiet (first | (go_at_call 11; (with_reducible refine (laws_eqIntS.calls k1 _ _ (rd_L1 l0 x5_1) _ _ (rd_L1 l1 x5_1) true _ ?side1 ?side2 ?side3 ?side4 A7.out).mono ?_); (case side1 => repeat (first | exact HR126_0.out | (with_reducible first | refine Kd.C_alloc ?_ _ | refine Kd.C_drewN ?_ _ | refine Kd.C_drew ?_))); (case side2 => exact HC126_0.out); (case side3 => repeat (first | exact HR127_0.out | (with_reducible first | refine Kd.C_alloc ?_ _ | refine Kd.C_drewN ?_ _ | refine Kd.C_drew ?_))); (case side4 => exact HC127_0.out); rintro e w' ⟨rfl, ⟨nd, rfl⟩⟩; (try first | exact ⟨rfl, _, World.drewN_drewN _ _ _⟩ | exact ⟨rfl, _, Eq.trans (World.drewN_drewN _ _ _) (congrArg (World.drewN _) (Nat.add_assoc _ _ _))⟩))); try go_wp2_with (first | (go_at_call 11; (with_reducible refine (laws_eqIntS.calls k1 _ _ (rd_L1 l0 x5_1) _ _ (rd_L1 l1 x5_1) true _ ?side1 ?side2 ?side3 ?side4 A7.out).mono ?_); (case side1 => repeat (first | exact HR126_0.out | (with_reducible first | refine Kd.C_alloc ?_ _ | refine Kd.C_drewN ?_ _ | refine Kd.C_drew ?_))); (case side2 => exact HC126_0.out); (case side3 => repeat (first | exact HR127_0.out | (with_reducible first | refine Kd.C_alloc ?_ _ | refine Kd.C_drewN ?_ _ | refine Kd.C_drew ?_))); (case side4 => exact HC127_0.out); rintro e w' ⟨rfl, ⟨nd, rfl⟩⟩; (try first | exact ⟨rfl, _, World.drewN_drewN _ _ _⟩ | exact ⟨rfl, _, Eq.trans (World.drewN_drewN _ _ _) (congrArg (World.drewN _) (Nat.add_assoc _ _ _))⟩))))
        go_roundg k1
        case measure => have := HK1.out; omega
        case rel => exact ⟨(wrap64 (x5_1 + 1)), (Sh.es), H', ⟨by have := HK1.out; omega⟩, Sh.dr⟩
       ·replace c8 := Bool.eq_false_iff.mpr c8
        subst c8
        rw [Sh.nf] at H
        obtain rfl := Option.some.inj H
        have p126 : 0 ≤ (x5_1 : Int) := Sh.od
        have q126 : x5_1 < (l0.length : Int) := Sh.od
        obtain ⟨ad126, A126_0, c126_0, e126, hx126_0, hl126_0, hi126_0⟩ := at_L1 HR0.out x5_1 p126 q126
        cases e126
        have HR126_0 := am_ hi126_0
        have HC126_0 := am_ hl126_0
        clear hi126_0 hl126_0
        replace p126 := eq_true p126
        replace q126 := eq_true q126
        have p127 : 0 ≤ (x5_1 : Int) := Sh.od
        have q127 : x5_1 < (l1.length : Int) := Sh.od
        obtain ⟨ad127, A127_0, c127_0, e127, hx127_0, hl127_0, hi127_0⟩ := at_L1 HR1.out x5_1 p127 q127
        cases e127
        have HR127_0 := am_ hi127_0
        have HC127_0 := am_ hl127_0
        clear hi127_0 hl127_0
        replace p127 := eq_true p127
        replace q127 := eq_true q127
        go_wp2_with (first | (go_at_call 11; (with_reducible refine (laws_eqIntS.calls k1 _ _ (rd_L1 l0 x5_1) _ _ (rd_L1 l1 x5_1) false _ ?side1 ?side2 ?side3 ?side4 A7.out).mono ?_); (case side1 => repeat (first | exact HR126_0.out | (with_reducible first | refine Kd.C_alloc ?_ _ | refine Kd.C_drewN ?_ _ | refine Kd.C_drew ?_))); (case side2 => exact HC126_0.out); (case side3 => repeat (first | exact HR127_0.out | (with_reducible first | refine Kd.C_alloc ?_ _ | refine Kd.C_drewN ?_ _ | refine Kd.C_drew ?_))); (case side4 => exact HC127_0.out); rintro e w' ⟨rfl, ⟨nd, rfl⟩⟩; (try first | exact ⟨rfl, _, World.drewN_drewN _ _ _⟩ | exact ⟨rfl, _, Eq.trans (World.drewN_drewN _ _ _) (congrArg (World.drewN _) (Nat.add_assoc _ _ _))⟩)))
        repeat (go_quiet (first | (go_at_call 11; (with_reducible refine (laws_eqIntS.calls k1 _ _ (rd_L1 l0 x5_1) _ _ (rd_L1 l1 x5_1) false _ ?side1 ?side2 ?side3 ?side4 A7.out).mono ?_); (case side1 => repeat (first | exact HR126_0.out | (with_reducible first | refine Kd.C_alloc ?_ _ | refine Kd.C_drewN ?_ _ | refine Kd.C_drew ?_))); (case side2 => exact HC126_0.out); (case side3 => repeat (first | exact HR127_0.out | (with_reducible first | refine Kd.C_alloc ?_ _ | refine Kd.C_drewN ?_ _ | refine Kd.C_drew ?_))); (case side4 => exact HC127_0.out); rintro e w' ⟨rfl, ⟨nd, rfl⟩⟩; (try first | exact ⟨rfl, _, World.drewN_drewN _ _ _⟩ | exact ⟨rfl, _, Eq.trans (World.drewN_drewN _ _ _) (congrArg (World.drewN _) (Nat.add_assoc _ _ _))⟩))); try go_wp2_with (first | (go_at_call 11; (with_reducible refine (laws_eqIntS.calls k1 _ _ (rd_L1 l0 x5_1) _ _ (rd_L1 l1 x5_1) false _ ?side1 ?side2 ?side3 ?side4 A7.out).mono ?_); (case side1 => repeat (first | exact HR126_0.out | (with_reducible first | refine Kd.C_alloc ?_ _ | refine Kd.C_drewN ?_ _ | refine Kd.C_drew ?_))); (case side2 => exact HC126_0.out); (case side3 => repeat (first | exact HR127_0.out | (with_reducible first | refine Kd.C_alloc ?_ _ | refine Kd.C_drewN ?_ _ | refine Kd.C_drew ?_))); (case side4 => exact HC127_0.out); rintro e w' ⟨rfl, ⟨nd, rfl⟩⟩; (try first | exact ⟨rfl, _, World.drewN_drewN _ _ _⟩ | exact ⟨rfl, _, Eq.trans (World.drewN_drewN _ _ _) (congrArg (World.drewN _) (Nat.add_assoc _ _ _))⟩))))
        go_ret
        exact ⟨Sh.es, Sh.dr⟩
      ·rw [if_neg c6] at H
       exact absurd H (by simp)
     ·rw [if_neg c5] at H
      exact absurd H (by simp)
    ·rw [if_neg c4] at H
     have c4b0 := decide_eq_false c4
     clear c4
     obtain rfl := Option.some.inj H
     go_wp2
     repeat (go_quiet (fail); try go_wp2)
     go_ret
     exact ⟨Sh.es, Sh.dr⟩
 ·rw [if_neg c3] at H
  have c3b0 : ((l0.length : Int) == (l1.length : Int)) = false := beq_eq_false_iff_ne.mpr c3
  have c3b1 : ((l0.length : Int) != (l1.length : Int)) = true := bne_iff_ne.mpr c3
  have c3b2 : (l0.length == l1.length) = false := by first | simpa using c3 | (simp at c3 ⊢; omega)
  obtain rfl := Option.some.inj H
  go_enter Try.func22, Try.ntmps22
  go_wp2
  repeat (go_quiet (fail); try go_wp2)
  go_ret
  exact ⟨Sh.es, Sh.dr⟩
def laws_eqGraph.f (k : Nat) (l0_0 : List (List Int)) (l1_0 : List (List Int)) : Option (Bool) := (laws_eqIntSS.f k l0_0 l1_0).bind fun t131 => (if t131 = true then (some true) else (some false))
theorem laws_eqGraph.mono : ∀ a0 a1 k, LeO (laws_eqGraph.f k a0 a1) (laws_eqGraph.f (k + 1) a0 a1) := by
 intro a0 a1 k
 unfold laws_eqGraph.f
 repeat' with_reducible first | apply laws_eqIntSS.mono | exact LeO.refl _ | exact LeO.none _ | apply LeO.ite | refine LeO.bind ?_ fun _ => ?_
theorem laws_eqGraph.calls (k : Nat) (A0_0 : Option Addr) (c0_0 : Nat) (l0_0 : List (List Int)) (A1_0 : Option Addr) (c1_0 : Nat) (l1_0 : List (List Int)) (r : Bool) (w : World) (hr0_0 : Kd.C (Kd.slice 3 (Kd.int .i64)) w A0_0 l0_0.length l0_0) (hc0_0 : l0_0.length ≤ c0_0) (hr1_0 : Kd.C (Kd.slice 3 (Kd.int .i64)) w A1_0 l1_0.length l1_0) (hc1_0 : l1_0.length ≤ c1_0) (h : laws_eqGraph.f k l0_0 l1_0 = some r) :
  Calls Try.prog 12 #[.agg #[.slice A0_0 l0_0.length c0_0], .agg #[.slice A1_0 l1_0.length c1_0]] w fun e w' => e = .returned (.bool r) ∧ Below w.heap.size w w' := by
 have hu29 := Try.underlying29
 have HR0_0 := am_ hr0_0
 have HC0_0 := am_ hc0_0
 clear hr0_0 hc0_0
 have HR1_0 := am_ hr1_0
 have HC1_0 := am_ hc1_0
 clear hr1_0 hc1_0
 have HB := am_ (Below.refl w.heap.size w)
 have H := h
 clear h
 unfold laws_eqGraph.f at H
 obtain ⟨t131, A3, H⟩ := Sh.ba H
 by_cases c4 : t131 = true
 ·subst c4
  rw [if_pos rfl] at H
  obtain rfl := Option.some.inj H
  go_enter Try.func12, Try.ntmps12
  go_wp2_with (first | ((with_reducible refine Sh.d 2 ?_); refine Sh.bz w (N := 2) (cs := #[.slice A0_0 l0_0.length c0_0]) (t := 29) (h := ?_); clear HB; intro gb129 w5 BK129 GE129 HB) | ((with_reducible refine Sh.d 3 ?_); refine Sh.bx (N := 3) (cs := #[.slice A1_0 l1_0.length c1_0]) (t := 29) (h := ?_); intro gb130 hg w6 hbox hb; have BK130 := am_ hbox; have GE130 := Sh.ag w hg; replace HB := Sh.hb hb; have NB129_130 := am_ (Sh.nl hg BK129.out); have NB130_129 := am_ (Sh.ng hg BK129.out); replace BK129 := Sh.ab BK129 hb; clear hb hbox hg; have hnb7 := NB129_130.out; have hnc7 := NB130_129.out; have hcz8_0 := Sh.bc BK129.out 0; have hfz8_0 := blk_frozen BK129.out 0; have hcz9_0 := Sh.bc BK130.out 0; have hfz9_0 := blk_frozen BK130.out 0) | ((with_reducible refine Sh.k 22 ?_); refine Sh.gD (some 9) Try.func22 #[.slice A0_0 l0_0.length c0_0, .slice A1_0 l1_0.length c1_0] (laws_eqIntSS.calls k _ _ l0_0 _ _ l1_0 true _ (Sh.cB HR0_0.out) HC0_0.out (Sh.cB HR1_0.out) HC1_0.out A3.out) fun nd => ?_))
  go_ret
  exact ⟨Sh.eR, Sh.bw⟩
 ·replace c4 := Bool.eq_false_iff.mpr c4
  subst c4
  rw [Sh.nf] at H
  obtain rfl := Option.some.inj H
  go_enter Try.func12, Try.ntmps12
  go_wp2_with (first | ((with_reducible refine Sh.d 2 ?_); refine Sh.bz w (N := 2) (cs := #[.slice A0_0 l0_0.length c0_0]) (t := 29) (h := ?_); clear HB; intro gb129 w10 BK129 GE129 HB) | ((with_reducible refine Sh.d 3 ?_); refine Sh.bx (N := 3) (cs := #[.slice A1_0 l1_0.length c1_0]) (t := 29) (h := ?_); intro gb130 hg w11 hbox hb; have BK130 := am_ hbox; have GE130 := Sh.ag w hg; replace HB := Sh.hb hb; have NB129_130 := am_ (Sh.nl hg BK129.out); have NB130_129 := am_ (Sh.ng hg BK129.out); replace BK129 := Sh.ab BK129 hb; clear hb hbox hg; have hnb12 := NB129_130.out; have hnc12 := NB130_129.out; have hcz13_0 := Sh.bc BK129.out 0; have hfz13_0 := blk_frozen BK129.out 0; have hcz14_0 := Sh.bc BK130.out 0; have hfz14_0 := blk_frozen BK130.out 0) | ((with_reducible refine Sh.k 22 ?_); refine Sh.gD (some 9) Try.func22 #[.slice A0_0 l0_0.length c0_0, .slice A1_0 l1_0.length c1_0] (laws_eqIntSS.calls k _ _ l0_0 _ _ l1_0 false _ (Sh.cB HR0_0.out) HC0_0.out (Sh.cB HR1_0.out) HC1_0.out A3.out) fun nd => ?_))
  go_ret
  exact ⟨Sh.eR, Sh.bw⟩
def laws_markIntS.l0 : Nat → List Int → Int → Int → Option (Int × List Int)
 | 0, _, _, _ => none
 | k + 1, x0, x1, x5 => if x5 < (x0.length : Int) then (if 0 ≤ x5 then (laws_markIntS.l0 k (x0.set (x5 : Int).toNat x1) (wrap64 (x1 + 1)) (wrap64 (x5 + 1))) else (none)) else (some (x1, x0))
def laws_markIntS.f (k : Nat) (l0 : List Int) (a1 : Int) : Option (Int × List Int) := laws_markIntS.l0 k l0 a1 0
theorem laws_markIntS.mono_l : ∀ k, (∀ y0 y1 y2, LeO (laws_markIntS.l0 k y0 y1 y2) (laws_markIntS.l0 (k + 1) y0 y1 y2))
 | 0 => fun _ _ _ r h => by simp [laws_markIntS.l0] at h
 | k + 1 => by
  have ih0 := laws_markIntS.mono_l k
  ·intro y0 y1 y2
   unfold laws_markIntS.l0
   repeat' with_reducible first | apply ih0 | exact LeO.refl _ | exact LeO.none _ | apply LeO.ite | refine LeO.bind ?_ fun _ => ?_
theorem laws_markIntS.mono : ∀ a0 a1 k, LeO (laws_markIntS.f k a0 a1) (laws_markIntS.f (k + 1) a0 a1) := by
 intro a0 a1 k
 have ih0 := laws_markIntS.mono_l k
 unfold laws_markIntS.f
 repeat' with_reducible first | apply ih0 | exact LeO.refl _ | exact LeO.none _ | apply LeO.ite | refine LeO.bind ?_ fun _ => ?_
theorem laws_markIntS.calls (k : Nat) (P0_ : Nat → Prop) (u9000_ : Value) (l0 : List Int) (a1 : Int) (r1 : Int) (r2 : List Int) (w0 w : World) (hB : Below w0.heap.size w0 w) (ho0 : Kd.R (Kd.int .i64) 3 w w0.heap.size P0_ u9000_ l0) (h : laws_markIntS.f k l0 a1 = some (r1, r2)) :
  Calls Try.prog 14 #[u9000_, .int .i64 a1] w fun e w' => e = .returned (.int .i64 r1) ∧ Kd.R (Kd.int .i64) 3 w' w0.heap.size (fun k_ => (P0_ k_ ∨ w.heap.size ≤ k_)) u9000_ r2 ∧ Below w0.heap.size w0 w' ∧ Kept w w' (fun k_ => P0_ k_) := by
 have HO0 := am_ (show Kd.R (Kd.int .i64) 3 w w0.heap.size (fun k_ => (P0_ k_ ∨ w.heap.size ≤ k_)) u9000_ l0 from Kd.R_mono ho0 (fun k_ hk => (.inl hk)))
 have HK := am_ (Kept.refl w (fun k_ => P0_ k_))
 have HW0 := am_ hB.size
 have HB := am_ hB
 clear hB
 have H := h
 clear h
 unfold laws_markIntS.f at H
 have H' := am_ H
 clear H
 go_enter Try.func14, Try.ntmps14
 go_wp2
 go_loopg [1, 5] k (fun kq v1 v5 w' => ∃ (x0_1 : List Int) (x1_1 : Int) (x5_1 : Int), v1 = .int .i64 x1_1 ∧ v5 = .int .i64 x5_1 ∧ Aside0 (laws_markIntS.l0 kq x0_1 x1_1 x5_1 = some (r1, r2)) ∧ Aside0 (kq ≤ k) ∧ Aside0 (Kd.R (Kd.int .i64) 3 w' w0.heap.size (fun k_ => (P0_ k_ ∨ w.heap.size ≤ k_)) u9000_ x0_1) ∧ Aside0 (Kept w w' (fun k_ => P0_ k_)) ∧ Aside0 (Below w0.heap.size w0 w'))
 case atStart => exact ⟨(l0), (a1), (0), (Sh.es), (Sh.es), H', ⟨Nat.le_refl _⟩, ⟨Sh.rl HO0.out⟩, ⟨by repeat (first | (with_reducible first | exact HK.out | apply Kept.alloc | apply Kept.drewN | apply Kept.drew) | exact HK.out)⟩, ⟨Sh.bw⟩⟩
 case round =>
  clear H'
  obtain ⟨x0_1, x1_1, x5_1, rfl, rfl, HA, HK1, HO_0, HK, HB⟩ := hrel
  cases gk with
  | zero => exact absurd HA.out (by simp [laws_markIntS.l0])
  | succ k1 =>
   have H := HA.out
   clear HA
   simp only [laws_markIntS.l0] at H
   by_cases c3 : x5_1 < (x0_1.length : Int)
   ·rw [if_pos c3] at H
    have c3b0 := decide_eq_true c3
    clear c3
    by_cases c4 : 0 ≤ x5_1
    ·rw [if_pos c4] at H
     have c4b0 := decide_eq_true c4
     clear c4
     obtain ⟨y132, hy132⟩ : ∃ y_ : List Int, y_ = (x0_1.set (x5_1 : Int).toNat x1_1) := ⟨_, rfl⟩
     replace H : (laws_markIntS.l0 k1 y132 (wrap64 (x1_1 + 1)) (wrap64 (x5_1 + 1))) = some (r1, r2) := by first | (rw [hy132]; with_reducible exact H) | (have H2_ := (Option.bind_some _ _).symm.trans H; rw [hy132]; with_reducible exact H2_) | (have H2_ := (Option.bind_some _ _).symm.trans H; with_reducible exact H2_) | with_reducible exact H | (rw [hy132]; exact H) | exact H
     have Ny132 := am_ hy132
     clear hy132
     have H' := am_ H
     clear H
     obtain ⟨Ao6, co6, eo6⟩ := Kd.R_slice HO_0.out
     subst eo6
     have p5 : 0 ≤ (x5_1 : Int) := Sh.od
     have q5 : (x5_1 : Int) < ((x0_1.length : Int) : Int) := Sh.od
     obtain ⟨go5, co5, eo5, gb5, gl5, cl5, HG5⟩ := Kd.R_form HO_0.out (by omega)
     (first | cases eo5 | (injection eo5 with ea_ en_ ec_; (first | subst ea_ | (injection ea_ with ea_; subst ea_)); subst ec_; clear en_))
     have GB5 := am_ gb5
     have GG5 := am_ HG5
     clear gb5 gl5 HG5
     have HMgo5 := am_ (show (P0_ go5 ∨ w.heap.size ≤ go5) from (HO_0.out.1 _ rfl))
     obtain ⟨hx5_0, hf5_0⟩ := Kd.R_celln 0 HO_0.out (x5_1 : Int) p5 q5
     replace p5 := eq_true p5
     replace q5 := eq_true q5
     have HP7 := Kd.R_putg HO_0.out (x5_1 : Int) x1_1
     go_wp2_with (first | ((with_reducible refine gate_store (t := 3) (p := 15) rfl ?_); refine store_event (t := 3) (p := 15) (v := ?vo_w8) (w1 := (wr.setCell ⟨go5, (x5_1 : Int).toNat, none⟩ (.int .i64 x1_1))) ?hg ?ho ?hn ?hr ?_; (case ho => rfl); (case hg => rfl); (case hn => rfl); (case hr => first | (go_simp; done) | (go_simp; rfl)); intro w8 hw; have hg : wr.grownBy w8 (some go5) := (by rw [hw]; exact HP7.2); have hp_ : Kd.R (Kd.int .i64) 3 w8 w0.heap.size (fun k_ => (P0_ k_ ∨ w.heap.size ≤ k_)) (.slice (some ⟨go5, 0, none⟩) x0_1.length co6) y132 := (by rw [hw, Ny132.out]; exact HP7.1); clear HP7; replace HB := am_ ((by rw [hw]; exact below_set (HB.out) GB5.out : Below w0.heap.size w0 w8)); replace HK := am_ (Kept.of_grown (S := (fun k_ => P0_ k_)) hg (by repeat (first | (with_reducible first | exact HK.out | apply Kept.alloc | apply Kept.drewN | apply Kept.drew) | exact HK.out)) (fun k_ e_ => (HO_0.out.1 k_ e_))); replace HO_0 := am_ hp_; clear hg hw hp_))
     go_roundg k1
     case measure => have := HK1.out; omega
     case rel => exact ⟨(y132), (wrap64 (x1_1 + 1)), (wrap64 (x5_1 + 1)), (Sh.es), (Sh.es), H', ⟨by have := HK1.out; omega⟩, ⟨Sh.rl HO_0.out⟩, ⟨by repeat (first | (with_reducible first | exact HK.out | apply Kept.alloc | apply Kept.drewN | apply Kept.drew) | exact HK.out)⟩, ⟨Sh.bw⟩⟩
    ·rw [if_neg c4] at H
     exact absurd H (by simp)
   ·rw [if_neg c3] at H
    have c3b0 := decide_eq_false c3
    clear c3
    simp only [Option.some.injEq, Prod.mk.injEq] at H
    obtain ⟨rfl, rfl⟩ := H
    obtain ⟨Ao9, co9, eo9⟩ := Kd.R_slice HO_0.out
    subst eo9
    go_wp2
    go_ret
    exact ⟨Sh.eR, Sh.rl HO_0.out, Sh.bw, by repeat (first | (with_reducible first | exact HK.out | apply Kept.alloc | apply Kept.drewN | apply Kept.drew) | exact HK.out)⟩
def laws_markIntSS.f (k : Nat) : List (List (Int)) → Int → Option (Int × List (List (Int)))
 | [], a => some (a, [])
 | x :: t, a => (laws_markIntS.f k x a).bind fun b => (laws_markIntSS.f k t b.1).bind fun c => some (c.1, b.2 :: c.2)
theorem laws_markIntSS.len (k : Nat) : ∀ (l : List (List (Int))) (a r1 : Int) (r2 : List (List (Int))), laws_markIntSS.f k l a = some (r1, r2) → r2.length = l.length
 | [], a, r1, r2, h => by
  simp only [laws_markIntSS.f, Option.some.injEq, Prod.mk.injEq] at h
  rw [← h.2]
 | x :: t, a, r1, r2, h => by
  simp only [laws_markIntSS.f] at h
  obtain ⟨b, hb, h⟩ := Option.bind_eq_some_iff.mp h
  obtain ⟨c, hc, h⟩ := Option.bind_eq_some_iff.mp h
  simp only [Option.some.injEq, Prod.mk.injEq] at h
  rw [← h.2, List.length_cons, List.length_cons, laws_markIntSS.len k t b.1 c.1 c.2 hc]
/-- The rows inside a row of rows of one's own: outer cells, and each inner row by itself. -/
def laws_markIntSS.I (P0 : Nat → Prop) (f : Nat → Nat) (base : Nat) (v : Value) (n : Nat) (inner : List Value) (W : World) (L : List (List (Int))) : Prop :=
 W.ownsRow base 26 1 v n inner ∧ L.length = n ∧ ∀ i, i < n → ∃ u, inner[i]? = some u ∧ Kd.R (Kd.int .i64) 3 W base (fun k => (P0 k ∧ some k ≠ v.ownBlock) ∧ f k = i) u (L.getD i [])
theorem laws_markIntSS.split {P0 : Nat → Prop} {base : Nat} {v : Value} {W : World} {l : List (List (Int))} (h : Kd.S (Kd.slice 3 (Kd.int .i64)) 26 W base P0 v l) :
  ∃ f inner, (∀ k, v.ownBlock = some k → P0 k) ∧ laws_markIntSS.I P0 f base v l.length inner W l := by
 obtain ⟨f, hok, inner, hown, hrep⟩ := h
 rw [List.length_zipIdx] at hown
 refine ⟨f, inner, hok, hown, rfl, fun i hi => ?_⟩
 obtain ⟨u, hu, hr⟩ := hrep.2 i (l[i], i) (by rw [List.getElem?_zipIdx, List.getElem?_eq_getElem hi]; simp)
 rw [show (Kd.tag f (Kd.slice 3 (Kd.int .i64))).sz = 1 from rfl, Nat.mul_one] at hu
 refine ⟨u, ?_, ?_⟩
 ·have := congrArg (fun c => c[0]?) hu
  simpa [List.getElem?_take, List.getElem?_drop] using this
 ·rw [List.getD_eq_getElem?_getD, List.getElem?_eq_getElem hi]; exact hr
theorem laws_markIntSS.join {P0 : Nat → Prop} {f : Nat → Nat} {base : Nat} {v : Value} {inner : List Value} {W : World} {L : List (List (Int))} (hok : ∀ k, v.ownBlock = some k → P0 k) (h : laws_markIntSS.I P0 f base v L.length inner W L) :
  Kd.S (Kd.slice 3 (Kd.int .i64)) 26 W base P0 v L := by
 obtain ⟨hown, _, hr⟩ := h
 refine ⟨f, hok, inner, by rw [List.length_zipIdx]; exact hown, ?_, fun j p hj => ?_⟩
 ·rw [List.length_zipIdx]; exact hown.1
 ·rw [List.getElem?_zipIdx] at hj
  obtain ⟨x, hx, rfl⟩ := Option.map_eq_some_iff.1 hj
  have hi := (List.getElem?_eq_some_iff.1 hx).1
  obtain ⟨u, hu, h1⟩ := hr j hi
  refine ⟨u, ?_, ?_⟩
  ·rw [show (Kd.tag f (Kd.slice 3 (Kd.int .i64))).sz = 1 from rfl, Nat.mul_one]
   have hl := hown.1
   apply List.ext_getElem?
   intro q
   rw [List.getElem?_take, List.getElem?_drop]
   by_cases hq : q < 1
   ·obtain rfl : q = 0 := by omega
    simpa using hu
   ·rw [if_neg hq]; rw [List.getElem?_eq_none (by simp; omega)]
  ·rw [List.getD_eq_getElem?_getD, hx] at h1
   simpa using h1
theorem laws_markIntSS.drop_consM {l : List (List (Int))} {j : Nat} (h : j < l.length) : l.drop j = l.getD j [] :: l.drop (j + 1) := by
 rw [List.drop_eq_getElem_cons h]
 simp [List.getD_eq_getElem?_getD, List.getElem?_eq_getElem h]
theorem laws_markIntSS.calls (k : Nat) (P0_ : Nat → Prop) (u9000_ : Value) (l0 : List (List (Int))) (a1 : Int) (r1 : Int) (r2 : List (List (Int))) (w0 w : World) (hB : Below w0.heap.size w0 w) (ho0 : Kd.S (Kd.slice 3 (Kd.int .i64)) 26 w w0.heap.size P0_ u9000_ l0) (h : laws_markIntSS.f k l0 a1 = some (r1, r2)) :
  Calls Try.prog 23 #[u9000_, .int .i64 a1] w fun e w' => e = .returned (.int .i64 r1) ∧ Kd.S (Kd.slice 3 (Kd.int .i64)) 26 w' w0.heap.size P0_ u9000_ r2 ∧ Below w0.heap.size w0 w' ∧ Kept w w' (fun k_ => P0_ k_) := by
 obtain ⟨f, inner, hok, hI⟩ := laws_markIntSS.split ho0
 have hn : l0.length ≤ 9223372036854775807 := (Kd.S_reads ho0).choose_spec.choose_spec.2.2.2.1
 obtain ⟨A, c, hv⟩ := Kd.S_slice ho0
 subst hv
 have HH := am_ h
 have HO := am_ hok
 have HI := am_ hI
 have HB := am_ hB
 have HK := am_ (Kept.refl w P0_)
 clear h hok hI hB ho0
 go_enter Try.func23, Try.ntmps23
 go_wp2
 go_loopg [1, 5] l0.length (fun gg v1 v5 wr => ∃ (j : Nat) (a : Int) (d t : List (List (Int))), j ≤ l0.length ∧ l0.length - j ≤ gg ∧ v1 = .int .i64 a ∧ v5 = .int .i64 j ∧ d.length = j ∧ Aside0 (laws_markIntSS.f k (l0.drop j) a = some (r1, t)) ∧ Aside0 (d ++ t = r2) ∧ Aside0 (laws_markIntSS.I P0_ f w0.heap.size (.slice A l0.length c) l0.length inner wr (d ++ l0.drop j)) ∧ Aside0 (Below w0.heap.size w0 wr) ∧ Aside0 (Kept w wr P0_))
 case atStart => exact ⟨0, a1, [], r2, Nat.zero_le _, by omega, rfl, rfl, rfl, HH, ⟨rfl⟩, HI, HB, HK⟩
 case round =>
  obtain ⟨j, a, d, t, hj, hg, rfl, rfl, hd, HF, HT, HI2, HB2, HK2⟩ := hrel
  clear HH HI HB HK
  by_cases hlt : j < l0.length
  ·have hltz : (j : Int) < (l0.length : Int) := by omega
   have hF := HF.out
   rw [laws_markIntSS.drop_consM hlt] at hF
   simp only [laws_markIntSS.f] at hF
   obtain ⟨b, hb0, hF⟩ := Option.bind_eq_some_iff.mp hF
   obtain ⟨cc, hc0, hF⟩ := Option.bind_eq_some_iff.mp hF
   simp only [Option.some.injEq, Prod.mk.injEq] at hF
   obtain ⟨rfl, rfl⟩ := hF
   obtain ⟨hown, hL, hrs⟩ := HI2.out
   obtain ⟨u, hu, hru⟩ := hrs j hlt
   have eL : (d ++ l0.drop j).getD j [] = l0.getD j [] := by
    rw [List.getD_eq_getElem?_getD, List.getElem?_append_right (by omega), hd, Nat.sub_self, List.getElem?_drop, List.getD_eq_getElem?_getD]; simp
   rw [eL] at hru
   obtain ⟨hl1, ⟨e1, hz⟩ | ⟨g, cap, cur, e1, hbg, hcur, hcap, _, hsz1, htake⟩⟩ := id hown
   ·omega
   have eA : A = some ⟨g, 0, none⟩ := by injection e1
   subst eA
   have hx : wr.cell? ⟨g, j, none⟩ = some u := by
    refine (blk_cell hcur j).trans ?_
    rw [← htake, List.getElem?_take] at hu
    rw [if_pos (by omega)] at hu
    simpa using hu
   have HF2 := am_ (And.intro hb0 hc0)
   have HRU := am_ hru
   have HRS := am_ hrs
   have HOW := am_ hown
   clear hF hb0 hc0 hru hrs hown hl1 e1 hbg hcur hcap hsz1 htake hL
   go_wp2_with (first | (go_at_call 14; go_loud (refine (laws_markIntS.calls k _ u (l0.getD j []) a b.1 b.2 w0 _ HB2.out HRU.out HF2.out.1).mono ?_); rintro e w' ⟨rfl, hR, hb, hkp⟩))
   go_roundg (l0.length - (j + 1))
   case measure => omega
   case rel =>
    refine ⟨j + 1, b.1, d ++ [b.2], cc.2, by omega, by omega, rfl, by go_num, by simp [hd], ⟨HF2.out.2⟩, ⟨by rw [← HT.out]; simp⟩, ⟨?_, ?_, ?_⟩, ⟨hb⟩, ⟨HK2.out.then_ hkp (fun k_ hk => .inl hk.1.1)⟩⟩
    ·exact own_move HOW.out (fun k_ hk => hkp.2 k_ (own_lt HOW.out k_ hk) (fun h_ => h_.1.2 hk.symm))
    ·simp [hd]; omega
    ·intro i hi
     by_cases hij : i = j
     ·subst hij
      refine ⟨u, hu, ?_⟩
      rw [show (d ++ [b.2] ++ l0.drop (i + 1)).getD i [] = b.2 by rw [List.getD_eq_getElem?_getD, List.append_assoc, List.getElem?_append_right (by omega), hd, Nat.sub_self]; simp]
      exact Kd.R_reok rfl hR (fun k_ e_ => HRU.out.1 k_ e_)
     ·obtain ⟨u2, hu2, hr2⟩ := HRS.out i hi
      refine ⟨u2, hu2, ?_⟩
      rw [show (d ++ [b.2] ++ l0.drop (j + 1)).getD i [] = (d ++ l0.drop j).getD i [] by
       rw [laws_markIntSS.drop_consM hlt, List.getD_eq_getElem?_getD, List.getD_eq_getElem?_getD]
       rcases Nat.lt_or_ge i j with h1 | h1
       ·rw [List.append_assoc, List.getElem?_append_left (by omega), List.getElem?_append_left (by omega)]
       ·have e1 : (d ++ ([b.2] ++ l0.drop (j + 1)))[i]? = ([b.2] ++ l0.drop (j + 1))[i - d.length]? := List.getElem?_append_right (by omega)
        have e2 : (d ++ (l0.getD j [] :: l0.drop (j + 1)))[i]? = (l0.getD j [] :: l0.drop (j + 1))[i - d.length]? := List.getElem?_append_right (by omega)
        rw [List.append_assoc, e1, e2, hd]
        obtain ⟨q, hq⟩ : ∃ q, i - j = q + 1 := ⟨i - j - 1, by omega⟩
        rw [hq]; simp]
      exact Kd.R_step hr2 (fun k_ hk hlt2 => hkp.2 k_ hlt2 (fun h_ => hij (hk.2.symm.trans h_.2)))
  ·have hltz : ¬ (j : Int) < (l0.length : Int) := by omega
   have hF := HF.out
   rw [List.drop_of_length_le (by omega)] at hF
   simp only [laws_markIntSS.f, Option.some.injEq, Prod.mk.injEq] at hF
   obtain ⟨rfl, rfl⟩ := hF
   go_wp2
   go_ret
   have hI := HI2.out
   rw [List.drop_of_length_le (by omega), HT.out] at hI
   have hl2 : r2.length = l0.length := hI.2.1
   refine ⟨rfl, ?_, HB2.out, HK2.out⟩
   rw [← hl2] at hI ⊢
   exact laws_markIntSS.join (f := f) (inner := inner) (by rw [hl2]; exact HO.out) hI
abbrev laws_markGraph.f := laws_markIntSS.f
theorem laws_markGraph.calls (k : Nat) (P0_0_ : Nat → Prop) (u9000_ : Value) (l0_0 : List (List (Int))) (a1 : Int) (r1 : Int) (r2 : List (List (Int))) (w0 w : World) (hB : Below w0.heap.size w0 w) (ho0_0 : Kd.S (Kd.slice 3 (Kd.int .i64)) 26 w w0.heap.size P0_0_ u9000_ l0_0) (h : laws_markGraph.f k l0_0 a1 = some (r1, r2)) :
  Calls Try.prog 13 #[.agg #[u9000_], .int .i64 a1] w fun e w' => e = .returned (.int .i64 r1) ∧ Kd.S (Kd.slice 3 (Kd.int .i64)) 26 w' w0.heap.size P0_0_ u9000_ r2 ∧ Below w0.heap.size w0 w' ∧ Kept w w' (fun k_ => P0_0_ k_) := by
 obtain ⟨A, c, hv⟩ := Kd.S_slice ho0_0
 subst hv
 have hu29 := Try.underlying29
 have HB := am_ hB
 have HO := am_ ho0_0
 have HH := am_ h
 clear hB ho0_0 h
 go_enter Try.func13, Try.ntmps13
 go_wp2_with (first | (go_at_call 23; go_loud (refine (laws_markIntSS.calls k P0_0_ (.slice A l0_0.length c) l0_0 a1 r1 r2 w0 _ (below_alloc HB.out _) (Kd.S_alloc HO.out _) HH.out).mono ?_); rintro e w' ⟨rfl, hs, hb, hk⟩))
 go_ret
 exact ⟨rfl, hs, hb, (Kept.alloc (Kept.refl w P0_0_) _).then_ hk (fun _ h_ => .inl h_)⟩
def laws_heldIntS.l0 : Nat → List Int → Int → Int → Option (Int)
 | 0, _, _, _ => none
 | k + 1, x0, x1, x5 => if x5 < (x0.length : Int) then (if 0 ≤ x5 then (if (rd x0 x5) = x1 then (laws_heldIntS.l0 k x0 (wrap64 (x1 + 1)) (wrap64 (x5 + 1))) else (some (-1))) else (none)) else (some x1)
def laws_heldIntS.f (k : Nat) (l0 : List Int) (a1 : Int) : Option (Int) := laws_heldIntS.l0 k l0 a1 0
theorem laws_heldIntS.mono_l : ∀ k, (∀ y0 y1 y2, LeO (laws_heldIntS.l0 k y0 y1 y2) (laws_heldIntS.l0 (k + 1) y0 y1 y2))
 | 0 => fun _ _ _ r h => by simp [laws_heldIntS.l0] at h
 | k + 1 => by
  have ih0 := laws_heldIntS.mono_l k
  ·intro y0 y1 y2
   unfold laws_heldIntS.l0
   repeat' with_reducible first | apply ih0 | exact LeO.refl _ | exact LeO.none _ | apply LeO.ite | refine LeO.bind ?_ fun _ => ?_
theorem laws_heldIntS.mono : ∀ a0 a1 k, LeO (laws_heldIntS.f k a0 a1) (laws_heldIntS.f (k + 1) a0 a1) := by
 intro a0 a1 k
 have ih0 := laws_heldIntS.mono_l k
 unfold laws_heldIntS.f
 repeat' with_reducible first | apply ih0 | exact LeO.refl _ | exact LeO.none _ | apply LeO.ite | refine LeO.bind ?_ fun _ => ?_
theorem laws_heldIntS.calls (k : Nat) (A0 : Option Addr) (c0 : Nat) (l0 : List Int) (a1 : Int) (r : Int) (w : World) (hr0 : Kd.C (Kd.int .i64) w A0 l0.length l0) (hc0 : l0.length ≤ c0) (h : laws_heldIntS.f k l0 a1 = some r) :
  Calls Try.prog 15 #[.slice A0 l0.length c0, .int .i64 a1] w fun e w' => e = .returned (.int .i64 r) ∧ Drawn0 w w' := by
 have HR0 := am_ hr0
 have HC0 := am_ hc0
 clear hr0 hc0
 have H := h
 clear h
 unfold laws_heldIntS.f at H
 have H' := am_ H
 clear H
 go_enter Try.func15, Try.ntmps15
 go_wp2
 go_loopg [1, 5] k (fun kq v1 v5 w' => ∃ (x1_1 : Int) (x5_1 : Int), v1 = .int .i64 x1_1 ∧ v5 = .int .i64 x5_1 ∧ Aside0 (laws_heldIntS.l0 kq l0 x1_1 x5_1 = some r) ∧ Aside0 (kq ≤ k) ∧ Drawn0 w w')
 case atStart => exact ⟨(a1), (0), (Sh.es), (Sh.es), H', ⟨Nat.le_refl _⟩, Sh.dr⟩
 case round =>
  clear H'
  obtain ⟨x1_1, x5_1, rfl, rfl, HA, HK1, ⟨m1, rfl⟩⟩ := hrel
  cases gk with
  | zero => exact absurd HA.out (by simp [laws_heldIntS.l0])
  | succ k1 =>
   have H := HA.out
   clear HA
   simp only [laws_heldIntS.l0] at H
   by_cases c3 : x5_1 < (l0.length : Int)
   ·rw [if_pos c3] at H
    have c3b0 := decide_eq_true c3
    clear c3
    by_cases c4 : 0 ≤ x5_1
    ·rw [if_pos c4] at H
     have c4b0 := decide_eq_true c4
     clear c4
     by_cases c5 : (rd l0 x5_1) = x1_1
     ·rw [if_pos c5] at H
      have c5b0 : ((rd l0 x5_1) == x1_1) = true := beq_iff_eq.mpr c5
      have c5b1 : ((rd l0 x5_1) != x1_1) = false := bne_eq_false_iff_eq.mpr c5
      clear c5
      have H' := am_ H
      clear H
      have p133 : 0 ≤ (x5_1 : Int) := Sh.od
      have q133 : x5_1 < (l0.length : Int) := Sh.od
      obtain ⟨ad133, e133, hx133_0⟩ := Kd.at_int HR0.out x5_1 p133 q133
      cases e133
      replace p133 := eq_true p133
      replace q133 := eq_true q133
      go_wp2
      go_roundg k1
      case measure => have := HK1.out; omega
      case rel => exact ⟨(wrap64 (x1_1 + 1)), (wrap64 (x5_1 + 1)), (Sh.es), (Sh.es), H', ⟨by have := HK1.out; omega⟩, Sh.dr⟩
     ·rw [if_neg c5] at H
      have c5b0 : ((rd l0 x5_1) == x1_1) = false := beq_eq_false_iff_ne.mpr c5
      have c5b1 : ((rd l0 x5_1) != x1_1) = true := bne_iff_ne.mpr c5
      obtain rfl := Option.some.inj H
      have p133 : 0 ≤ (x5_1 : Int) := Sh.od
      have q133 : x5_1 < (l0.length : Int) := Sh.od
      obtain ⟨ad133, e133, hx133_0⟩ := Kd.at_int HR0.out x5_1 p133 q133
      cases e133
      replace p133 := eq_true p133
      replace q133 := eq_true q133
      go_wp2
      go_ret
      exact ⟨Sh.es, Sh.dr⟩
    ·rw [if_neg c4] at H
     exact absurd H (by simp)
   ·rw [if_neg c3] at H
    have c3b0 := decide_eq_false c3
    clear c3
    obtain rfl := Option.some.inj H
    go_wp2
    go_ret
    exact ⟨Sh.es, Sh.dr⟩
def spec_l1In.f (a0 : Int) (a1 : Int) (a2 : Int) : Option (Bool) := if a0 ≥ a1 then (some (decide (a0 ≤ a2))) else (some false)
theorem spec_l1In.calls (a0 : Int) (a1 : Int) (a2 : Int) (r : Bool) (w : World) (h : spec_l1In.f a0 a1 a2 = some r) :
  Calls Try.prog 73 #[.int .i64 a0, .int .i64 a1, .int .i64 a2] w fun e w' => e = .returned (.bool r) ∧ Drawn0 w w' := by
 have H := h
 clear h
 unfold spec_l1In.f at H
 by_cases c4 : a0 ≥ a1
 ·rw [if_pos c4] at H
  have c4b0 : decide (a1 ≤ a0) = true := decide_eq_true c4
  clear c4
  obtain rfl := Option.some.inj H
  go_enter Try.func73, Try.ntmps73
  go_wp2
  go_ret
  exact ⟨Sh.es, Sh.dr⟩
 ·rw [if_neg c4] at H
  have c4b0 : decide (a1 ≤ a0) = false := decide_eq_false c4
  clear c4
  obtain rfl := Option.some.inj H
  go_enter Try.func73, Try.ntmps73
  go_wp2
  go_ret
  exact ⟨Sh.es, Sh.dr⟩
def spec_l1Rising.l0 : Nat → List Int → Int → Int → List Int → Int → Int → Option (Bool)
 | 0, _, _, _, _, _, _ => none
 | k + 1, x0, x1, x2, x9, x10, x11 => if x11 < x10 then (if 0 ≤ x11 then (if x11 < (x9.length : Int) then ((spec_l1In.f (rd x9 x11) x1 x2).bind fun t135 => (if t135 = true then (if x11 > 0 then (if 0 ≤ (wrap64 (x11 - 1)) then (if (wrap64 (x11 - 1)) < (x0.length : Int) then (if (rd x0 (wrap64 (x11 - 1))) ≥ (rd x9 x11) then (some false) else (spec_l1Rising.l0 k x0 x1 x2 x9 x10 (wrap64 (x11 + 1)))) else (none)) else (none)) else (spec_l1Rising.l0 k x0 x1 x2 x9 x10 (wrap64 (x11 + 1)))) else (some false))) else (none)) else (none)) else (some true)
def spec_l1Rising.f (k : Nat) (l0 : List Int) (a1 : Int) (a2 : Int) : Option (Bool) := spec_l1Rising.l0 k l0 a1 a2 l0 (l0.length : Int) 0
theorem spec_l1Rising.mono_l : ∀ k, (∀ y0 y1 y2 y3 y4 y5, LeO (spec_l1Rising.l0 k y0 y1 y2 y3 y4 y5) (spec_l1Rising.l0 (k + 1) y0 y1 y2 y3 y4 y5))
 | 0 => fun _ _ _ _ _ _ r h => by simp [spec_l1Rising.l0] at h
 | k + 1 => by
  have ih0 := spec_l1Rising.mono_l k
  ·intro y0 y1 y2 y3 y4 y5
   unfold spec_l1Rising.l0
   repeat' with_reducible first | apply ih0 | exact LeO.refl _ | exact LeO.none _ | apply LeO.ite | refine LeO.bind ?_ fun _ => ?_
theorem spec_l1Rising.mono : ∀ a0 a1 a2 k, LeO (spec_l1Rising.f k a0 a1 a2) (spec_l1Rising.f (k + 1) a0 a1 a2) := by
 intro a0 a1 a2 k
 have ih0 := spec_l1Rising.mono_l k
 unfold spec_l1Rising.f
 repeat' with_reducible first | apply ih0 | exact LeO.refl _ | exact LeO.none _ | apply LeO.ite | refine LeO.bind ?_ fun _ => ?_
theorem spec_l1Rising.calls (k : Nat) (A0 : Option Addr) (c0 : Nat) (l0 : List Int) (a1 : Int) (a2 : Int) (r : Bool) (w : World) (hr0 : Kd.C (Kd.int .i64) w A0 l0.length l0) (hc0 : l0.length ≤ c0) (h : spec_l1Rising.f k l0 a1 a2 = some r) :
  Calls Try.prog 58 #[.slice A0 l0.length c0, .int .i64 a1, .int .i64 a2] w fun e w' => e = .returned (.bool r) ∧ Drawn0 w w' := by
 have HR0 := am_ hr0
 have HC0 := am_ hc0
 clear hr0 hc0
 have H := h
 clear h
 unfold spec_l1Rising.f at H
 have H' := am_ H
 clear H
 go_enter Try.func58, Try.ntmps58
 go_wp2
 go_loopg [11] k (fun kq v11 w' => ∃ (x11_1 : Int), v11 = .int .i64 x11_1 ∧ Aside0 (spec_l1Rising.l0 kq l0 a1 a2 l0 (l0.length : Int) x11_1 = some r) ∧ Aside0 (kq ≤ k) ∧ Drawn0 w w')
 case atStart => exact ⟨(0), (Sh.es), H', ⟨Nat.le_refl _⟩, Sh.dr⟩
 case round =>
  clear H'
  obtain ⟨x11_1, rfl, HA, HK1, ⟨m1, rfl⟩⟩ := hrel
  cases gk with
  | zero => exact absurd HA.out (by simp [spec_l1Rising.l0])
  | succ k1 =>
   have H := HA.out
   clear HA
   simp only [spec_l1Rising.l0] at H
   by_cases c4 : x11_1 < (l0.length : Int)
   ·rw [if_pos c4] at H
    have c4b0 := decide_eq_true c4
    clear c4
    by_cases c5 : 0 ≤ x11_1
    ·rw [if_pos c5] at H
     have c5b0 := decide_eq_true c5
     clear c5
     by_cases c6 : x11_1 < (l0.length : Int)
     ·rw [if_pos c6] at H
      have c6b0 := decide_eq_true c6
      clear c6
      obtain ⟨t135, A7, H⟩ := Sh.ba H
      by_cases c8 : t135 = true
      ·subst c8
       rw [if_pos rfl] at H
       by_cases c9 : x11_1 > 0
       ·rw [if_pos c9] at H
        have c9b0 : decide (0 < x11_1) = true := decide_eq_true c9
        clear c9
        obtain ⟨ji10, hj1⟩ : ∃ j_ : Int, (wrap64 (x11_1 - 1)) = j_ := ⟨_, rfl⟩
        replace H : (if 0 ≤ (ji10) then (if (ji10) < (l0.length : Int) then (if (rd l0 (ji10)) ≥ (rd l0 x11_1) then (some false) else (spec_l1Rising.l0 k1 l0 a1 a2 l0 (l0.length : Int) (wrap64 (x11_1 + 1)))) else (none)) else (none)) = some r := by first | (rw [hj1] at H; exact H) | (simp only [hj1] at H ⊢; exact H)
        (try rw [hj1] at A7)
        have hji10w : (IntKind.i64.wrap (x11_1 - 1)) = ji10 := (i64_w _).trans hj1
        by_cases c11 : 0 ≤ (ji10)
        ·rw [if_pos c11] at H
         have c11b0 := decide_eq_true c11
         clear c11
         by_cases c12 : (ji10) < (l0.length : Int)
         ·rw [if_pos c12] at H
          have c12b0 := decide_eq_true c12
          clear c12
          by_cases c13 : (rd l0 (ji10)) ≥ (rd l0 x11_1)
          ·rw [if_pos c13] at H
           have c13b0 : decide ((rd l0 x11_1) ≤ (rd l0 (ji10))) = true := decide_eq_true c13
           clear c13
           obtain rfl := Option.some.inj H
           have p134 : 0 ≤ (x11_1 : Int) := Sh.od
           have q134 : x11_1 < (l0.length : Int) := Sh.od
           obtain ⟨ad134, e134, hx134_0⟩ := Kd.at_int HR0.out x11_1 p134 q134
           cases e134
           replace p134 := eq_true p134
           replace q134 := eq_true q134
           go_wp2_with (first | ((with_reducible refine Sh.k 73 ?_); refine Sh.gD (some 19) Try.func73 #[.int .i64 (rd l0 x11_1), .int .i64 a1, .int .i64 a2] (spec_l1In.calls (rd l0 x11_1) a1 a2 true _ A7.out) fun nd => ?_; have p136 : 0 ≤ ((ji10) : Int) := Sh.od; have q136 : (ji10) < (l0.length : Int) := Sh.od; obtain ⟨ad136, e136, hx136_0⟩ := Kd.at_int HR0.out (ji10) p136 q136; obtain rfl : ad134 = ad136 := (by injection e136); replace p136 := eq_true p136; replace q136 := eq_true q136))
           go_ret
           exact ⟨by first | rfl | (simp; done) | (simp only [← hj1] <;> (first | rfl | simp)) | (simp [*]; done), Sh.dr⟩
          ·rw [if_neg c13] at H
           have c13b0 : decide ((rd l0 x11_1) ≤ (rd l0 (ji10))) = false := decide_eq_false c13
           clear c13
           have H' := am_ H
           clear H
           have p134 : 0 ≤ (x11_1 : Int) := Sh.od
           have q134 : x11_1 < (l0.length : Int) := Sh.od
           obtain ⟨ad134, e134, hx134_0⟩ := Kd.at_int HR0.out x11_1 p134 q134
           cases e134
           replace p134 := eq_true p134
           replace q134 := eq_true q134
           go_wp2_with (first | ((with_reducible refine Sh.k 73 ?_); refine Sh.gD (some 19) Try.func73 #[.int .i64 (rd l0 x11_1), .int .i64 a1, .int .i64 a2] (spec_l1In.calls (rd l0 x11_1) a1 a2 true _ A7.out) fun nd => ?_; have p136 : 0 ≤ ((ji10) : Int) := Sh.od; have q136 : (ji10) < (l0.length : Int) := Sh.od; obtain ⟨ad136, e136, hx136_0⟩ := Kd.at_int HR0.out (ji10) p136 q136; obtain rfl : ad134 = ad136 := (by injection e136); replace p136 := eq_true p136; replace q136 := eq_true q136))
           go_roundg k1
           case measure => have := HK1.out; omega
           case rel => exact ⟨(wrap64 (x11_1 + 1)), (Sh.es), H', ⟨by have := HK1.out; omega⟩, Sh.dr⟩
         ·rw [if_neg c12] at H
          exact absurd H (by simp)
        ·rw [if_neg c11] at H
         exact absurd H (by simp)
       ·rw [if_neg c9] at H
        have c9b0 : decide (0 < x11_1) = false := decide_eq_false c9
        clear c9
        have H' := am_ H
        clear H
        have p134 : 0 ≤ (x11_1 : Int) := Sh.od
        have q134 : x11_1 < (l0.length : Int) := Sh.od
        obtain ⟨ad134, e134, hx134_0⟩ := Kd.at_int HR0.out x11_1 p134 q134
        cases e134
        replace p134 := eq_true p134
        replace q134 := eq_true q134
        go_wp2_with (first | ((with_reducible refine Sh.k 73 ?_); refine Sh.gD (some 19) Try.func73 #[.int .i64 (rd l0 x11_1), .int .i64 a1, .int .i64 a2] (spec_l1In.calls (rd l0 x11_1) a1 a2 true _ A7.out) fun nd => ?_))
        go_roundg k1
        case measure => have := HK1.out; omega
        case rel => exact ⟨(wrap64 (x11_1 + 1)), (Sh.es), H', ⟨by have := HK1.out; omega⟩, Sh.dr⟩
      ·replace c8 := Bool.eq_false_iff.mpr c8
       subst c8
       rw [Sh.nf] at H
       obtain rfl := Option.some.inj H
       have p134 : 0 ≤ (x11_1 : Int) := Sh.od
       have q134 : x11_1 < (l0.length : Int) := Sh.od
       obtain ⟨ad134, e134, hx134_0⟩ := Kd.at_int HR0.out x11_1 p134 q134
       cases e134
       replace p134 := eq_true p134
       replace q134 := eq_true q134
       go_wp2_with (first | ((with_reducible refine Sh.k 73 ?_); refine Sh.gD (some 19) Try.func73 #[.int .i64 (rd l0 x11_1), .int .i64 a1, .int .i64 a2] (spec_l1In.calls (rd l0 x11_1) a1 a2 false _ A7.out) fun nd => ?_))
       go_ret
       exact ⟨Sh.es, Sh.dr⟩
     ·rw [if_neg c6] at H
      exact absurd H (by simp)
    ·rw [if_neg c5] at H
     exact absurd H (by simp)
   ·rw [if_neg c4] at H
    have c4b0 := decide_eq_false c4
    clear c4
    obtain rfl := Option.some.inj H
    go_wp2
    go_ret
    exact ⟨Sh.es, Sh.dr⟩
def spec_l11Points.f (k : Nat) (l0 : List Int) (a1 : Int) : Option (Bool) := (spec_l1Rising.f k l0 0 (wrap64 (a1 - 1))).bind fun t137 => (some t137)
theorem spec_l11Points.mono : ∀ a0 a1 k, LeO (spec_l11Points.f k a0 a1) (spec_l11Points.f (k + 1) a0 a1) := by
 intro a0 a1 k
 unfold spec_l11Points.f
 repeat' with_reducible first | apply spec_l1Rising.mono | exact LeO.refl _ | exact LeO.none _ | apply LeO.ite | refine LeO.bind ?_ fun _ => ?_
theorem spec_l11Points.calls (k : Nat) (A0 : Option Addr) (c0 : Nat) (l0 : List Int) (a1 : Int) (r : Bool) (w : World) (hr0 : Kd.C (Kd.int .i64) w A0 l0.length l0) (hc0 : l0.length ≤ c0) (h : spec_l11Points.f k l0 a1 = some r) :
  Calls Try.prog 41 #[.slice A0 l0.length c0, .int .i64 a1] w fun e w' => e = .returned (.bool r) ∧ Drawn0 w w' := by
 have HR0 := am_ hr0
 have HC0 := am_ hc0
 clear hr0 hc0
 have H := h
 clear h
 unfold spec_l11Points.f at H
 obtain ⟨t137, A3, H⟩ := Sh.ba H
 obtain rfl := Option.some.inj H
 go_enter Try.func41, Try.ntmps41
 go_wp2_with (first | ((with_reducible refine Sh.k 58 ?_); refine Sh.gL (some 8) Try.func58 #[.slice A0 l0.length c0, .int .i64 0, .int .i64 (wrap64 (a1 - 1))] (h := ?_); (with_reducible refine (spec_l1Rising.calls k _ _ l0 0 (wrap64 (a1 - 1)) t137 _ ?side1 ?side2 A3.out).mono ?_); (case side1 => repeat (first | exact HR0.out | (with_reducible first | refine Kd.C_alloc ?_ _ | refine Kd.C_drewN ?_ _ | refine Kd.C_drew ?_))); (case side2 => exact HC0.out); rintro e w' ⟨rfl, ⟨nd, rfl⟩⟩; refine ⟨_, rfl, ?_⟩))
 go_ret
 exact ⟨Sh.es, Sh.dr⟩
def spec_GoodGraph.l0 : Nat → Int → List (List Int) → Int → Int → List (List Int) → Option (Bool)
 | 0, _, _, _, _, _ => none
 | k + 1, x3, x11, x12, x13, x139000 => if x13 < x12 then (if 0 ≤ x13 then (if x13 < (x11.length : Int) then (if ((rd_L1 x11 x13).length : Int) > 1200 then (some false) else ((spec_l11Points.f k (rd_L1 x11 x13) (x139000.length : Int)).bind fun t140 => (if t140 = true then (spec_GoodGraph.l0 k (wrap64 (x3 + ((rd_L1 x11 x13).length : Int))) x11 x12 (wrap64 (x13 + 1)) x139000) else (some false)))) else (none)) else (none)) else (some (decide (x3 ≤ 20000)))
def spec_GoodGraph.f (k : Nat) (l0_0 : List (List Int)) : Option (Bool) := if (l0_0.length : Int) > 1200 then (some false) else (spec_GoodGraph.l0 k 0 l0_0 (l0_0.length : Int) 0 l0_0)
theorem spec_GoodGraph.mono_l : ∀ k, (∀ y0 y1 y2 y3 y4, LeO (spec_GoodGraph.l0 k y0 y1 y2 y3 y4) (spec_GoodGraph.l0 (k + 1) y0 y1 y2 y3 y4))
 | 0 => fun _ _ _ _ _ r h => by simp [spec_GoodGraph.l0] at h
 | k + 1 => by
  have ih0 := spec_GoodGraph.mono_l k
  ·intro y0 y1 y2 y3 y4
   unfold spec_GoodGraph.l0
   repeat' with_reducible first | apply ih0 | apply spec_l11Points.mono | exact LeO.refl _ | exact LeO.none _ | apply LeO.ite | refine LeO.bind ?_ fun _ => ?_
theorem spec_GoodGraph.mono : ∀ a0 k, LeO (spec_GoodGraph.f k a0) (spec_GoodGraph.f (k + 1) a0) := by
 intro a0 k
 have ih0 := spec_GoodGraph.mono_l k
 unfold spec_GoodGraph.f
 repeat' with_reducible first | apply ih0 | apply spec_l11Points.mono | exact LeO.refl _ | exact LeO.none _ | apply LeO.ite | refine LeO.bind ?_ fun _ => ?_
theorem spec_GoodGraph.calls (k : Nat) (A0_0 : Option Addr) (c0_0 : Nat) (l0_0 : List (List Int)) (r : Bool) (w : World) (hr0_0 : Kd.C (Kd.slice 3 (Kd.int .i64)) w A0_0 l0_0.length l0_0) (hc0_0 : l0_0.length ≤ c0_0) (h : spec_GoodGraph.f k l0_0 = some r) :
  Calls Try.prog 27 #[.agg #[.slice A0_0 l0_0.length c0_0]] w fun e w' => e = .returned (.bool r) ∧ Below w.heap.size w w' := by
 have hu29 := Try.underlying29
 have HR0_0 := am_ hr0_0
 have HC0_0 := am_ hc0_0
 clear hr0_0 hc0_0
 have HB := am_ (Below.refl w.heap.size w)
 have H := h
 clear h
 unfold spec_GoodGraph.f at H
 by_cases c2 : (l0_0.length : Int) > 1200
 ·rw [if_pos c2] at H
  have c2b0 : decide (1200 < (l0_0.length : Int)) = true := decide_eq_true c2
  have c2b1 : decide (1200 < l0_0.length) = true := decide_eq_true (by omega)
  clear c2
  obtain rfl := Option.some.inj H
  go_enter Try.func27, Try.ntmps27
  go_wp2_with (first | ((with_reducible refine Sh.d 1 ?_); (try (refine gate_guard (by rfl) ?_; dsimp only)); refine Sh.bz w (N := 1) (cs := #[.slice A0_0 l0_0.length c0_0]) (t := 29) (h := ?_); clear HB; intro gb138 w3 BK138 GE138 HB; have hcz4_0 := Sh.bc BK138.out 0; have hfz4_0 := blk_frozen BK138.out 0))
  go_ret
  exact ⟨Sh.eR, Sh.bw⟩
 ·rw [if_neg c2] at H
  have c2b0 : decide (1200 < (l0_0.length : Int)) = false := decide_eq_false c2
  have c2b1 : decide (1200 < l0_0.length) = false := decide_eq_false (by omega)
  clear c2
  have H' := am_ H
  clear H
  go_enter Try.func27, Try.ntmps27
  go_wp2_with (first | ((with_reducible refine Sh.d 1 ?_); (try (refine gate_guard (by rfl) ?_; dsimp only)); refine Sh.bz w (N := 1) (cs := #[.slice A0_0 l0_0.length c0_0]) (t := 29) (h := ?_); clear HB; intro gb138 w5 BK138 GE138 HB; have hcz6_0 := Sh.bc BK138.out 0; have hfz6_0 := blk_frozen BK138.out 0))
  go_loopg [3, 13] k (fun kq v3 v13 w' => ∃ (x3_1 : Int) (x13_1 : Int), v3 = .int .i64 x3_1 ∧ v13 = .int .i64 x13_1 ∧ Aside0 (spec_GoodGraph.l0 kq x3_1 l0_0 (l0_0.length : Int) x13_1 l0_0 = some r) ∧ Aside0 (kq ≤ k) ∧ Aside0 (w'.heap[gb138]? = some (.cells #[(.slice A0_0 l0_0.length c0_0)] 29 (0, 0))) ∧ Aside0 (Below w.heap.size w w'))
  case atStart => exact ⟨(0), (0), (Sh.es), (Sh.es), H', ⟨Nat.le_refl _⟩, ⟨by refine Sh.pl ?_; exact BK138.out⟩, ⟨Sh.bw⟩⟩
  case round =>
   clear H'
   try clear hcz4_0
   try clear hcz6_0
   try clear hfz4_0
   try clear hfz6_0
   obtain ⟨x3_1, x13_1, rfl, rfl, HA, HK1, BK138, HB⟩ := hrel
   cases gk with
   | zero => exact absurd HA.out (by simp [spec_GoodGraph.l0])
   | succ k1 =>
    have H := HA.out
    clear HA
    simp only [spec_GoodGraph.l0] at H
    by_cases c7 : x13_1 < (l0_0.length : Int)
    ·rw [if_pos c7] at H
     have c7b0 := decide_eq_true c7
     clear c7
     by_cases c8 : 0 ≤ x13_1
     ·rw [if_pos c8] at H
      have c8b0 := decide_eq_true c8
      clear c8
      by_cases c9 : x13_1 < (l0_0.length : Int)
      ·rw [if_pos c9] at H
       have c9b0 := decide_eq_true c9
       clear c9
       by_cases c10 : ((rd_L1 l0_0 x13_1).length : Int) > 1200
       ·rw [if_pos c10] at H
        have c10b0 : decide (1200 < ((rd_L1 l0_0 x13_1).length : Int)) = true := decide_eq_true c10
        have c10b1 : decide (1200 < (rd_L1 l0_0 x13_1).length) = true := decide_eq_true (by omega)
        clear c10
        obtain rfl := Option.some.inj H
        have p139 : 0 ≤ (x13_1 : Int) := Sh.od
        have q139 : x13_1 < (l0_0.length : Int) := Sh.od
        obtain ⟨ad139, A139_0, c139_0, e139, hx139_0, hl139_0, hi139_0⟩ := at_L1 HR0_0.out x13_1 p139 q139
        cases e139
        try replace hx139_0 := Sh.cw hx139_0
        have HR139_0 := am_ hi139_0
        have HC139_0 := am_ hl139_0
        clear hi139_0 hl139_0
        replace p139 := eq_true p139
        replace q139 := eq_true q139
        go_wp2
        go_ret
        exact ⟨Sh.eR, Sh.bw⟩
       ·rw [if_neg c10] at H
        have c10b0 : decide (1200 < ((rd_L1 l0_0 x13_1).length : Int)) = false := decide_eq_false c10
        have c10b1 : decide (1200 < (rd_L1 l0_0 x13_1).length) = false := decide_eq_false (by omega)
        clear c10
        obtain ⟨t140, A11, H⟩ := Sh.ba H
        by_cases c12 : t140 = true
        ·subst c12
         rw [if_pos rfl] at H
         have H' := am_ H
         clear H
         have p139 : 0 ≤ (x13_1 : Int) := Sh.od
         have q139 : x13_1 < (l0_0.length : Int) := Sh.od
         obtain ⟨ad139, A139_0, c139_0, e139, hx139_0, hl139_0, hi139_0⟩ := at_L1 HR0_0.out x13_1 p139 q139
         cases e139
         try replace hx139_0 := Sh.cw hx139_0
         have HR139_0 := am_ hi139_0
         have HC139_0 := am_ hl139_0
         clear hi139_0 hl139_0
         replace p139 := eq_true p139
         replace q139 := eq_true q139
         have hcz13_0 := Sh.bc BK138.out 0
         have hfz13_0 := blk_frozen BK138.out 0
         go_wp2_with (first | (go_at_call 41; (with_reducible refine (spec_l11Points.calls k1 _ _ (rd_L1 l0_0 x13_1) (l0_0.length : Int) true _ (Sh.cB HR139_0.out) HC139_0.out A11.out).mono ?_); rintro e w' ⟨rfl, ⟨nd, rfl⟩⟩))
         go_roundg k1
         case measure => have := HK1.out; omega
         case rel => exact ⟨(wrap64 (x3_1 + ((rd_L1 l0_0 x13_1).length : Int))), (wrap64 (x13_1 + 1)), (Sh.es), (Sh.es), H', ⟨by have := HK1.out; omega⟩, ⟨by refine Sh.pl ?_; exact BK138.out⟩, ⟨Sh.bw⟩⟩
        ·replace c12 := Bool.eq_false_iff.mpr c12
         subst c12
         rw [Sh.nf] at H
         obtain rfl := Option.some.inj H
         have p139 : 0 ≤ (x13_1 : Int) := Sh.od
         have q139 : x13_1 < (l0_0.length : Int) := Sh.od
         obtain ⟨ad139, A139_0, c139_0, e139, hx139_0, hl139_0, hi139_0⟩ := at_L1 HR0_0.out x13_1 p139 q139
         cases e139
         try replace hx139_0 := Sh.cw hx139_0
         have HR139_0 := am_ hi139_0
         have HC139_0 := am_ hl139_0
         clear hi139_0 hl139_0
         replace p139 := eq_true p139
         replace q139 := eq_true q139
         have hcz14_0 := Sh.bc BK138.out 0
         have hfz14_0 := blk_frozen BK138.out 0
         go_wp2_with (first | (go_at_call 41; (with_reducible refine (spec_l11Points.calls k1 _ _ (rd_L1 l0_0 x13_1) (l0_0.length : Int) false _ (Sh.cB HR139_0.out) HC139_0.out A11.out).mono ?_); rintro e w' ⟨rfl, ⟨nd, rfl⟩⟩))
         go_ret
         exact ⟨Sh.eR, Sh.bw⟩
      ·rw [if_neg c9] at H
       exact absurd H (by simp)
     ·rw [if_neg c8] at H
      exact absurd H (by simp)
    ·rw [if_neg c7] at H
     have c7b0 := decide_eq_false c7
     clear c7
     obtain rfl := Option.some.inj H
     go_wp2
     go_ret
     exact ⟨Sh.eR, Sh.bw⟩
mutual
def spec_l11Turn.l0 : Nat → List (List Int) → List (List Int) → Int → Int → Option ((List (List Int)))
 | 0, _, _, _, _ => none
 | k + 1, x3, x11, x12, x13 => if x13 < x12 then (if 0 ≤ x13 then (if x13 < (x11.length : Int) then (spec_l11Turn.l1 k x3 x13 x11 x12 x13 (rd_L1 x11 x13) ((rd_L1 x11 x13).length : Int) 0) else (none)) else (none)) else (some x3)
def spec_l11Turn.l1 : Nat → List (List Int) → Int → List (List Int) → Int → Int → List Int → Int → Int → Option ((List (List Int)))
 | 0, _, _, _, _, _, _, _, _ => none
 | k + 1, x3, x4, x11, x12, x13, x18, x19, x20 => if x20 < x19 then (if 0 ≤ x20 then (if x20 < (x18.length : Int) then (if 0 ≤ (rd x18 x20) then (if (rd x18 x20) < (x3.length : Int) then (if (rd_L1 x3 (rd x18 x20)).length < 17592186044416 then (spec_l11Turn.l1 k (x3.set ((rd x18 x20) : Int).toNat ((rd_L1 x3 (rd x18 x20)) ++ [x4])) x4 x11 x12 x13 x18 x19 (wrap64 (x20 + 1))) else (none)) else (none)) else (none)) else (none)) else (none)) else (spec_l11Turn.l0 k x3 x11 x12 (wrap64 (x13 + 1)))
end
def spec_l11Turn.f (k : Nat) (l0 : List (List Int)) : Option ((List (List Int))) := if 0 ≤ (l0.length : Int) then (if ((l0.length : Int) : Int).toNat ≤ 11728124029610 then (spec_l11Turn.l0 k (List.replicate ((l0.length : Int) : Int).toNat []) l0 (l0.length : Int) 0) else (none)) else (none)
theorem spec_l11Turn.mono_l : ∀ k, (∀ y0 y1 y2 y3, LeO (spec_l11Turn.l0 k y0 y1 y2 y3) (spec_l11Turn.l0 (k + 1) y0 y1 y2 y3)) ∧ (∀ y0 y1 y2 y3 y4 y5 y6 y7, LeO (spec_l11Turn.l1 k y0 y1 y2 y3 y4 y5 y6 y7) (spec_l11Turn.l1 (k + 1) y0 y1 y2 y3 y4 y5 y6 y7))
 | 0 => ⟨fun _ _ _ _ r h => by simp [spec_l11Turn.l0] at h, fun _ _ _ _ _ _ _ _ r h => by simp [spec_l11Turn.l1] at h⟩
 | k + 1 => by
  obtain ⟨ih0, ih1⟩ := spec_l11Turn.mono_l k
  and_intros <;> intros
  all_goals (first | unfold spec_l11Turn.l0 | unfold spec_l11Turn.l1)
  all_goals repeat' with_reducible first | apply ih0 | apply ih1 | exact LeO.refl _ | exact LeO.none _ | apply LeO.ite | refine LeO.bind ?_ fun _ => ?_
theorem spec_l11Turn.mono : ∀ a0 k, LeO (spec_l11Turn.f k a0) (spec_l11Turn.f (k + 1) a0) := by
 intro a0 k
 obtain ⟨ih0, ih1⟩ := spec_l11Turn.mono_l k
 unfold spec_l11Turn.f
 repeat' with_reducible first | apply ih0 | apply ih1 | exact LeO.refl _ | exact LeO.none _ | apply LeO.ite | refine LeO.bind ?_ fun _ => ?_
theorem spec_l11Turn.calls (k : Nat) (A0 : Option Addr) (c0 : Nat) (l0 : List (List Int)) (r : List (List Int)) (w : World) (hr0 : Kd.C (Kd.slice 3 (Kd.int .i64)) w A0 l0.length l0) (hc0 : l0.length ≤ c0) (h : spec_l11Turn.f k l0 = some r) :
  Calls Try.prog 37 #[.slice A0 l0.length c0] w fun e w' => ∃ v0_ : Value, e = .returned (v0_) ∧ Kd.S (Kd.slice 3 (Kd.int .i64)) 26 w' w.heap.size (fun _ => True) v0_ r ∧ Below w.heap.size w w' := by
 have HR0 := am_ hr0
 have HC0 := am_ hc0
 clear hr0 hc0
 have HB := am_ (Below.refl w.heap.size w)
 have H := h
 clear h
 unfold spec_l11Turn.f at H
 by_cases c2 : 0 ≤ (l0.length : Int)
 ·rw [if_pos c2] at H
  have c2b0 := eq_true c2
  have c2b1 := decide_eq_true c2
  clear c2
  by_cases c3 : ((l0.length : Int) : Int).toNat ≤ 11728124029610
  ·rw [if_pos c3] at H
   have c3b0 := eq_true c3
   have c3b1 := decide_eq_true c3
   clear c3
   obtain ⟨y143, hy143⟩ : ∃ y_ : List (List Int), y_ = (List.replicate ((l0.length : Int) : Int).toNat []) := ⟨_, rfl⟩
   replace H : (spec_l11Turn.l0 k y143 l0 (l0.length : Int) 0) = some r := by first | (rw [hy143]; with_reducible exact H) | (have H2_ := (Option.bind_some _ _).symm.trans H; rw [hy143]; with_reducible exact H2_) | (have H2_ := (Option.bind_some _ _).symm.trans H; with_reducible exact H2_) | with_reducible exact H | (rw [hy143]; exact H) | exact H
   have Ny143 := am_ hy143
   clear hy143
   have H' := am_ H
   clear H
   go_enter Try.func37, Try.ntmps37
   go_wp2_with (first | ((with_reducible refine Sh.d 10 ?_); refine Kd.S_make (Kd.slice 3 (Kd.int .i64)) _ 26 rfl (N := 10) rfl 22 _ _ rfl (l0.length : Int) rfl rfl Try.underlying22 (.slice none 0 0) 24 info26 rfl (by decide) (by omega) [] (ok := fun _ => True) (okp := fun _ => True) ⟨_, rfl, Kd.R_nil _ _ _ _ _⟩ (fun _ hk => hk) trivial (of_decide_eq_true (by first | (with_reducible assumption) | assumption)) (Nat.le_trans (Nat.mul_le_mul_right _ (of_decide_eq_true (by first | (with_reducible assumption) | assumption) : (l0.length : Int).toNat ≤ 11728124029610)) (by omega)) (Below.refl _ _) (Nat.le_refl _) ?_; intro v144 w4 ho5 hb hg_ hnew_; clear hg_ hnew_; (first | rw [← Ny143.out] at ho5 | (simp only [Int.reduceToNat] at ho5; rw [← Ny143.out] at ho5)); have HO145 := am_ (Kd.S_lower ho5 (below_size Sh.bw)); replace HB := Sh.hb hb; clear hb ho5))
   go_loopg [13] k (fun kq v13 w' => ∃ (x3_1 : List (List Int)) (x13_1 : Int), v13 = .int .i64 x13_1 ∧ Aside0 (spec_l11Turn.l0 kq x3_1 l0 (l0.length : Int) x13_1 = some r) ∧ Aside0 (kq ≤ k) ∧ Aside0 (Kd.S (Kd.slice 3 (Kd.int .i64)) 26 w' w.heap.size (fun _ => True) v144 x3_1) ∧ Aside0 (Below w.heap.size w w'))
   case atStart => exact ⟨(y143), (0), (Sh.es), H', ⟨Nat.le_refl _⟩, ⟨by (with_reducible repeat (first | apply Kd.S_alloc | apply Kd.S_drewN | apply Kd.S_drew)); exact HO145.out⟩, ⟨Sh.bw⟩⟩
   case round =>
    clear H'
    obtain ⟨x3_1, x13_1, rfl, HA, HK1, HO_3, HB⟩ := hrel
    cases gk with
    | zero => exact absurd HA.out (by simp [spec_l11Turn.l0])
    | succ k1 =>
     have H := HA.out
     clear HA
     simp only [spec_l11Turn.l0] at H
     by_cases c6 : x13_1 < (l0.length : Int)
     ·rw [if_pos c6] at H
      have c6b0 := decide_eq_true c6
      clear c6
      by_cases c7 : 0 ≤ x13_1
      ·rw [if_pos c7] at H
       have c7b0 := decide_eq_true c7
       clear c7
       by_cases c8 : x13_1 < (l0.length : Int)
       ·rw [if_pos c8] at H
        have c8b0 := decide_eq_true c8
        clear c8
        have H' := am_ H
        clear H
        have p146 : 0 ≤ (x13_1 : Int) := Sh.od
        have q146 : x13_1 < (l0.length : Int) := Sh.od
        obtain ⟨ad146, A146_0, c146_0, e146, hx146_0, hl146_0, hi146_0⟩ := at_L1 HR0.out x13_1 p146 q146
        cases e146
        try replace hx146_0 := Sh.cw hx146_0
        have HR146_0 := am_ hi146_0
        have HC146_0 := am_ hl146_0
        clear hi146_0 hl146_0
        replace p146 := eq_true p146
        replace q146 := eq_true q146
        go_wp2
        go_loopg [20] k1 (fun kq v20 w' => ∃ (x3_2 : List (List Int)) (x20_2 : Int), v20 = .int .i64 x20_2 ∧ Aside0 (spec_l11Turn.l1 kq x3_2 x13_1 l0 (l0.length : Int) x13_1 (rd_L1 l0 x13_1) ((rd_L1 l0 x13_1).length : Int) x20_2 = some r) ∧ Aside0 (kq ≤ k1) ∧ Aside0 (Kd.S (Kd.slice 3 (Kd.int .i64)) 26 w' w.heap.size (fun _ => True) v144 x3_2) ∧ Aside0 (Below w.heap.size w w'))
        case atStart => exact ⟨(x3_1), (0), (Sh.es), H', ⟨Nat.le_refl _⟩, ⟨by (with_reducible repeat (first | apply Kd.S_alloc | apply Kd.S_drewN | apply Kd.S_drew)); exact HO_3.out⟩, ⟨Sh.bw⟩⟩
        case round =>
         clear H'
         try clear hx1
         try clear hx146_0
         obtain ⟨x3_2, x20_2, rfl, HA, HK2, HO_3, HB⟩ := hrel
         cases gk with
         | zero => exact absurd HA.out (by simp [spec_l11Turn.l1])
         | succ k2 =>
          have H := HA.out
          clear HA
          simp only [spec_l11Turn.l1] at H
          by_cases c9 : x20_2 < ((rd_L1 l0 x13_1).length : Int)
          ·rw [if_pos c9] at H
           have c9b0 := decide_eq_true c9
           clear c9
           by_cases c10 : 0 ≤ x20_2
           ·rw [if_pos c10] at H
            have c10b0 := decide_eq_true c10
            clear c10
            by_cases c11 : x20_2 < ((rd_L1 l0 x13_1).length : Int)
            ·rw [if_pos c11] at H
             have c11b0 := decide_eq_true c11
             clear c11
             by_cases c12 : 0 ≤ (rd (rd_L1 l0 x13_1) x20_2)
             ·rw [if_pos c12] at H
              have c12b0 := decide_eq_true c12
              clear c12
              by_cases c13 : (rd (rd_L1 l0 x13_1) x20_2) < (x3_2.length : Int)
              ·rw [if_pos c13] at H
               have c13b0 := decide_eq_true c13
               clear c13
               by_cases c14 : (rd_L1 x3_2 (rd (rd_L1 l0 x13_1) x20_2)).length < 17592186044416
               ·rw [if_pos c14] at H
                have LMc14 := am_ c14
                clear c14
                obtain ⟨y149, hy149⟩ : ∃ y_ : List Int, y_ = ((rd_L1 x3_2 (rd (rd_L1 l0 x13_1) x20_2)) ++ [x13_1]) := ⟨_, rfl⟩
                replace H : (spec_l11Turn.l1 k2 (x3_2.set ((rd (rd_L1 l0 x13_1) x20_2) : Int).toNat y149) x13_1 l0 (l0.length : Int) x13_1 (rd_L1 l0 x13_1) ((rd_L1 l0 x13_1).length : Int) (wrap64 (x20_2 + 1))) = some r := by first | (rw [hy149]; with_reducible exact H) | (have H2_ := (Option.bind_some _ _).symm.trans H; rw [hy149]; with_reducible exact H2_) | (have H2_ := (Option.bind_some _ _).symm.trans H; with_reducible exact H2_) | with_reducible exact H | (rw [hy149]; exact H) | exact H
                have Ny149 := am_ hy149
                clear hy149
                obtain ⟨y152, hy152⟩ : ∃ y_ : List (List Int), y_ = (x3_2.set ((rd (rd_L1 l0 x13_1) x20_2) : Int).toNat y149) := ⟨_, rfl⟩
                replace H : (spec_l11Turn.l1 k2 y152 x13_1 l0 (l0.length : Int) x13_1 (rd_L1 l0 x13_1) ((rd_L1 l0 x13_1).length : Int) (wrap64 (x20_2 + 1))) = some r := by first | (rw [hy152]; with_reducible exact H) | (have H2_ := (Option.bind_some _ _).symm.trans H; rw [hy152]; with_reducible exact H2_) | (have H2_ := (Option.bind_some _ _).symm.trans H; with_reducible exact H2_) | with_reducible exact H | (rw [hy152]; exact H) | exact H
                have Ny152 := am_ hy152
                clear hy152
                have H' := am_ H
                clear H
                have p147 : 0 ≤ (x20_2 : Int) := Sh.od
                have q147 : x20_2 < ((rd_L1 l0 x13_1).length : Int) := Sh.od
                obtain ⟨ad147, e147, hx147_0⟩ := Kd.at_int HR146_0.out x20_2 p147 q147
                cases e147
                try replace hx147_0 := Sh.cw hx147_0
                replace p147 := eq_true p147
                replace q147 := eq_true q147
                obtain ⟨Ao16, co16, eo16⟩ := Kd.S_slice HO_3.out
                subst eo16
                have p148 : 0 ≤ ((rd (rd_L1 l0 x13_1) x20_2) : Int) := Sh.od
                have q148 : (rd (rd_L1 l0 x13_1) x20_2) < (x3_2.length : Int) := Sh.od
                obtain ⟨ad148, A148_0, c148_0, e148, hx148_0, hl148_0, hi148_0⟩ := at_L1 (Kd.S_reads' HO_3.out).2.2 (rd (rd_L1 l0 x13_1) x20_2) p148 q148
                cases e148
                obtain ⟨ce148, hce148, hMe148, hcc148⟩ := Kd.S_get HO_3.out [] (rd (rd_L1 l0 x13_1) x20_2) p148 (by first | exact q148 | exact of_decide_eq_true (by first | (with_reducible assumption) | assumption) | (have e_ := (Kd.S_reads' HO_3.out).1; omega))
                obtain ⟨ve148_0, rfl, ge148_0⟩ := hMe148
                have hv148_0 := hcc148 0 _ rfl
                rw [Nat.add_zero, show ((Kd.slice 3 (Kd.int .i64))).sz = 1 from rfl, Nat.mul_one] at hv148_0
                replace hv148_0 := Option.some.inj (hv148_0.symm.trans hx148_0)
                rw [hv148_0] at ge148_0
                have HL148_0 := am_ (show Kd.R (Kd.int .i64) 3 _ _ _ _ (rd_L1 x3_2 (rd (rd_L1 l0 x13_1) x20_2)) from ge148_0)
                clear hv148_0 ge148_0
                have HX148_0 := am_ hx148_0
                clear hcc148 hce148
                have HR148_0 := am_ hi148_0
                have HC148_0 := am_ hl148_0
                clear hi148_0 hl148_0
                replace p148 := eq_true p148
                replace q148 := eq_true q148
                obtain ⟨go17, co17, eo17, gb17, gl17, cl17, HG17⟩ := Kd.S_form HO_3.out (by have h_ : ((rd (rd_L1 l0 x13_1) x20_2) : Int) < ((x3_2.length : Int) : Int) := Sh.od; have h2_ : 0 ≤ ((rd (rd_L1 l0 x13_1) x20_2) : Int) := (of_decide_eq_true (by first | (with_reducible assumption) | assumption)); omega)
                (first | cases eo17 | (injection eo17 with ea_ en_ ec_; (first | subst ea_ | (injection ea_ with ea_; subst ea_)); subst ec_; clear en_))
                have GB17 := am_ gb17
                have GG17 := am_ HG17
                clear gb17 gl17 HG17
                (first | simp only [add_plain] at hx148_0 | skip)
                obtain ⟨oki17, ce17, hcl17, hM17, hcc17, _, _, hH17⟩ := Kd.S_elem HO_3.out [] ((rd (rd_L1 l0 x13_1) x20_2) : Int) (of_decide_eq_true (by first | (with_reducible assumption) | assumption)) (by have h_ : ((rd (rd_L1 l0 x13_1) x20_2) : Int) < ((x3_2.length : Int) : Int) := Sh.od; first | exact h_ | (have e_ := (Kd.S_reads' HO_3.out).1; omega) | simpa using h_)
                obtain ⟨ve17_0, rfl, ge17_0⟩ := hM17
                have hv17 := hcc17 0 _ rfl
                have hX17 := HX148_0.out
                (try simp only [add_plain] at hX17)
                (try simp only [Nat.add_zero] at hv17)
                (try rw [show ((Kd.slice 3 (Kd.int .i64))).sz = 1 from rfl, Nat.mul_one] at hv17)
                replace hv17 := Option.some.inj (hv17.symm.trans hX17)
                subst hv17
                clear hX17 hcc17 hcl17
                have UU17 := am_ (show Kd.R (Kd.int .i64) 3 _ w.heap.size oki17 (.slice A148_0 (rd_L1 x3_2 (rd (rd_L1 l0 x13_1) x20_2)).length c148_0) (rd_L1 x3_2 (rd (rd_L1 l0 x13_1) x20_2)) from ge17_0)
                have HH17 := am_ hH17
                have HN17 := am_ (Kd.S_reads' HO_3.out).1
                clear hH17 ge17_0
                go_wp2_with (first | ((with_reducible refine gate_builtin (b := .append) (xs := #[.tmp 29, .tmp 31]) rfl ?_); at_builtin; refine Kd.R_append (Kd.int .i64) (w0 := w) w.heap.size rfl (.tmp 29) (.tmp 31) 26 3 (.int .i64 0) 8 rfl Try.underlying26 info3 rfl (by decide) (by omega) (.slice A148_0 (rd_L1 x3_2 (rd (rd_L1 l0 x13_1) x20_2)).length c148_0) (rd_L1 x3_2 (rd (rd_L1 l0 x13_1) x20_2)) x13_1 [.int .i64 x13_1] (fun k_ => oki17 k_ ∨ ((fun _ => True)) k_ ∧ wr.heap.size ≤ k_) (fun _ => False) rfl rfl ?aP (fun _ hk => hk.elim) ?aF ?aO ?aB ?aS ?aL ?_; (case aP => exact rfl); (case aB => exact Sh.bw); (case aF => exact (fun k_ hk => .inr ⟨trivial, hk⟩)); (case aO => exact (Sh.rl (Kd.R_mono UU17.out (fun _ hk => .inl hk)))); (case aS => exact (below_size Sh.bw)); (case aL => have := LMc14.out; omega); intro v150 w18 ho hb hg hat; rw [← Ny149.out] at ho; have n0_ := am_ hb; have n1_ := am_ (Kd.H_grown (Kd.H_widen (by repeat (first | exact HH17.out | refine Kd.H_alloc ?_ _ | refine Kd.H_drewN ?_ _ | refine Kd.H_drew ?_))) hg (fun k_ e_ => .inl (UU17.out.1 k_ e_))); have n2_ := am_ ho; clear HB; clear HH17; clear HO_3; clear UU17; clear HL148_0; have HB := n0_; have HH17 := n1_; have HO151 := n2_; clear n0_ n1_ n2_; clear ho hb hg hat; have p15 : 0 ≤ ((rd (rd_L1 l0 x13_1) x20_2) : Int) := Sh.od; have q15 : ((rd (rd_L1 l0 x13_1) x20_2) : Int) < ((x3_2.length : Int) : Int) := Sh.od; replace p15 := eq_true p15; replace q15 := eq_true q15; obtain ⟨Ao21, co21, eo21⟩ := Kd.R_slice HO151.out; subst eo21; obtain ⟨_, _, hraw19, _, _, hcc19, _⟩ := Kd.H_raw HH17.out (of_decide_eq_true (by first | (with_reducible assumption) | assumption)) (by have h_ : ((rd (rd_L1 l0 x13_1) x20_2) : Int) < ((x3_2.length : Int) : Int) := Sh.od; first | exact h_ | (have e_ := (HN17.out); omega) | simpa using h_); obtain ⟨_, hfr19⟩ := Kd.H_at HH17.out (of_decide_eq_true (by first | (with_reducible assumption) | assumption)) (by have h_ : ((rd (rd_L1 l0 x13_1) x20_2) : Int) < ((x3_2.length : Int) : Int) := Sh.od; first | exact h_ | (have e_ := (HN17.out); omega) | simpa using h_); have hx19_0 := hcc19 0 _ rfl; have hf19_0 := hfr19 0; (try simp only [Nat.add_zero] at hx19_0 hf19_0); (try rw [show ((Kd.slice 3 (Kd.int .i64))).sz = 1 from rfl, Nat.mul_one] at hx19_0); (try rw [show ((Kd.slice 3 (Kd.int .i64))).sz = 1 from rfl, Nat.mul_one] at hf19_0); have HP19 := Kd.S_seg0 HH17.out (of_decide_eq_true (by first | (with_reducible assumption) | assumption)) (by have h_ : ((rd (rd_L1 l0 x13_1) x20_2) : Int) < ((x3_2.length : Int) : Int) := Sh.od; first | exact h_ | (have e_ := (HN17.out); omega) | simpa using h_) (seg := [.slice Ao21 y149.length co21]) (j := 0) (show 1 ≤ 1 from by decide) (x' := y149) (Kd.M_row HO151.out) (fun _ hk => hk); (try simp only [show ((Kd.slice 3 (Kd.int .i64))).sz = 1 from rfl, Nat.mul_one, Nat.add_zero] at HP19); clear hcc19 hfr19) | ((with_reducible refine gate_store (t := 26) (p := 33) rfl ?_); refine store_event (t := 26) (p := 33) (v := ?vo_w20) (w1 := (w18.setCell ⟨go17, ((rd (rd_L1 l0 x13_1) x20_2) : Int).toNat, none⟩ (.slice Ao21 y149.length co21))) ?hg ?ho ?hn ?hr ?_; (case ho => rfl); (case hg => rfl); (case hn => rfl); (case hr => first | (go_simp; done) | (go_simp; rfl)); intro w20 hw; have hg : w18.grownBy w20 (some go17) := (by rw [hw]; exact HP19.2); have hp_ : Kd.S (Kd.slice 3 (Kd.int .i64)) 26 w20 w.heap.size (fun _ => True) (.slice (some ⟨go17, 0, none⟩) x3_2.length co16) y152 := (by rw [hw, Ny152.out]; exact HP19.1); clear HP19; have n0_ := am_ ((by rw [hw]; exact below_set HB.out GB17.out : Below w.heap.size w w20)); have n1_ := am_ hp_; clear HB; clear HO151; clear HH17; have HB := n0_; have HO_3 := n1_; clear n0_ n1_; clear hg hw hp_ hraw19))
                go_roundg k2
                case measure => have := HK1.out; have := HK2.out; omega
                case rel => exact ⟨(y152), (wrap64 (x20_2 + 1)), (Sh.es), H', ⟨by have := HK1.out; have := HK2.out; omega⟩, ⟨by (with_reducible repeat (first | apply Kd.S_alloc | apply Kd.S_drewN | apply Kd.S_drew)); exact HO_3.out⟩, ⟨Sh.bw⟩⟩
               ·rw [if_neg c14] at H
                exact absurd H (by simp)
              ·rw [if_neg c13] at H
               exact absurd H (by simp)
             ·rw [if_neg c12] at H
              exact absurd H (by simp)
            ·rw [if_neg c11] at H
             exact absurd H (by simp)
           ·rw [if_neg c10] at H
            exact absurd H (by simp)
          ·rw [if_neg c9] at H
           have c9b0 := decide_eq_false c9
           clear c9
           have H' := am_ H
           clear H
           go_wp2
           go_roundg k2
           case measure => have := HK1.out; have := HK2.out; omega
           case rel => exact ⟨(x3_2), (wrap64 (x13_1 + 1)), (Sh.es), H', ⟨by have := HK1.out; have := HK2.out; omega⟩, ⟨by (with_reducible repeat (first | apply Kd.S_alloc | apply Kd.S_drewN | apply Kd.S_drew)); exact HO_3.out⟩, ⟨Sh.bw⟩⟩
       ·rw [if_neg c8] at H
        exact absurd H (by simp)
      ·rw [if_neg c7] at H
       exact absurd H (by simp)
     ·rw [if_neg c6] at H
      have c6b0 := decide_eq_false c6
      clear c6
      obtain rfl := Option.some.inj H
      go_wp2
      go_ret
      exact ⟨_, Sh.eR, by (with_reducible repeat (first | apply Kd.S_alloc | apply Kd.S_drewN | apply Kd.S_drew)); exact HO_3.out, Sh.bw⟩
  ·rw [if_neg c3] at H
   exact absurd H (by simp)
 ·rw [if_neg c2] at H
  exact absurd H (by simp)
def bits_Mul64.f (a0 : Int) (a1 : Int) : Option (Int × Int) := some (IntKind.u64.wrap ((IntKind.u64.wrap ((IntKind.u64.wrap ((a0 / 4294967296) * (a1 / 4294967296))) + ((IntKind.u64.wrap ((IntKind.u64.wrap ((a0 / 4294967296) * (Go.bits .and .u64 a1 4294967295))) + ((IntKind.u64.wrap ((Go.bits .and .u64 a0 4294967295) * (Go.bits .and .u64 a1 4294967295))) / 4294967296))) / 4294967296))) + ((IntKind.u64.wrap ((Go.bits .and .u64 (IntKind.u64.wrap ((IntKind.u64.wrap ((a0 / 4294967296) * (Go.bits .and .u64 a1 4294967295))) + ((IntKind.u64.wrap ((Go.bits .and .u64 a0 4294967295) * (Go.bits .and .u64 a1 4294967295))) / 4294967296))) 4294967295) + (IntKind.u64.wrap ((Go.bits .and .u64 a0 4294967295) * (a1 / 4294967296))))) / 4294967296)), IntKind.u64.wrap (a0 * a1))
theorem bits_Mul64.calls (a0 : Int) (a1 : Int) (r1 : Int) (r2 : Int) (w : World) (h : bits_Mul64.f a0 a1 = some (r1, r2)) :
  Calls Try.prog 69 #[.int .u64 a0, .int .u64 a1] w fun e w' => e = .returned (.tuple #[.int .u64 r1, .int .u64 r2]) ∧ Drawn0 w w' := by
 have H := h
 clear h
 unfold bits_Mul64.f at H
 simp only [Option.some.injEq, Prod.mk.injEq] at H
 obtain ⟨rfl, rfl⟩ := H
 go_enter Try.func69, Try.ntmps69
 go_wp2
 go_ret2
 exact ⟨Sh.es, Sh.dr⟩
def bits_Mul.f (a0 : Int) (a1 : Int) : Option (Int × Int) := (bits_Mul64.f a0 a1).bind fun bt337 => (some (bt337.1, bt337.2))
theorem bits_Mul.calls (a0 : Int) (a1 : Int) (r1 : Int) (r2 : Int) (w : World) (h : bits_Mul.f a0 a1 = some (r1, r2)) :
  Calls Try.prog 49 #[.int .u64 a0, .int .u64 a1] w fun e w' => e = .returned (.tuple #[.int .u64 r1, .int .u64 r2]) ∧ Drawn0 w w' := by
 have H := h
 clear h
 unfold bits_Mul.f at H
 obtain ⟨⟨t337, t338⟩, A30, H⟩ := Sh.bd H
 have A3 := am_ A30
 clear A30
 simp only [Option.some.injEq, Prod.mk.injEq] at H
 obtain ⟨rfl, rfl⟩ := H
 go_enter Try.func49, Try.ntmps49
 go_wp2_with (first | ((with_reducible refine Sh.k 69 ?_); refine Sh.gD (some 25) Try.func69 #[.int .u64 a0, .int .u64 a1] (bits_Mul64.calls a0 a1 t337 t338 _ A3.out) fun nd => ?_))
 go_ret2
 exact ⟨Sh.es, Sh.dr⟩
theorem slices_Repeat_int_int.mul (n : Nat) (h1 : n ≤ 1048576) : bits_Mul.f 1 n = some (0, (n : Int)) := by
  have e1 : Go.bits .and .u64 1 4294967295 = 1 := by rfl
  have e2 : ∀ m : Nat, m ≤ 1048576 → Go.bits .and .u64 (m : Int) 4294967295 = m := fun m hm => by
    rw [show (4294967295 : Int) = ((2 ^ 32 - 1 : Nat) : Int) by rfl, bits_and_u64_nat _ _ (by omega) (by decide), Nat.and_two_pow_sub_one_eq_mod, Nat.mod_eq_of_lt (by omega)]
  have e3 : ∀ x : Int, 0 ≤ x → x ≤ 1048576 → IntKind.u64.wrap x = x := fun x h0 h1 => by rw [IntKind.wrap_u64]; omega
  have e0 : Go.bits .and .u64 (0 : Int) 4294967295 = 0 := e2 0 (by omega)
  unfold bits_Mul.f bits_Mul64.f
  rw [e1, e2 n h1, show ((n : Int) / 4294967296) = 0 by omega, show ((1 : Int) / 4294967296) = 0 by rfl]
  simp only [Int.zero_mul, Int.one_mul, Int.mul_zero, Option.bind_some]
  rw [e3 n (by omega) (by omega), e3 0 (by omega) (by omega)]
  rw [show ((n : Int) / 4294967296) = 0 by omega]
  simp only [Int.zero_add, e3 0 (by omega) (by omega), e0, Int.zero_ediv]
def slices_Repeat_int_int.f (l0 : List Int) (n : Int) : Option (List Int) := if l0.length = 1 ∧ 0 ≤ n ∧ n ≤ 1048576 then some (List.replicate n.toNat (l0.getD 0 0)) else none
theorem slices_Repeat_int_int.calls (A0 : Option Addr) (c0 : Nat) (l0 : List (Int)) (a1 : Int) (r : List Int) (w : World) (hr0 : Kd.C (Kd.int .i64) w A0 l0.length l0) (hc0 : l0.length ≤ c0) (h : slices_Repeat_int_int.f l0 a1 = some r) :
    Calls Try.prog 32 #[.slice A0 l0.length c0, .int .i64 a1] w fun e w' => ∃ v0_ : Value, e = .returned (v0_) ∧ Kd.R (Kd.int .i64) 3 w' w.heap.size (fun _ => True) v0_ r ∧ Below w.heap.size w w' := by
  have hf : l0.length = 1 ∧ 0 ≤ a1 ∧ a1 ≤ 1048576 := by
    rcases Decidable.em (l0.length = 1 ∧ 0 ≤ a1 ∧ a1 ≤ 1048576) with h1 | h1
    · exact h1
    · rw [slices_Repeat_int_int.f, if_neg h1] at h; cases h
  rw [slices_Repeat_int_int.f, if_pos hf] at h
  obtain rfl := Option.some.inj h
  clear h
  obtain ⟨h1, h0, hN⟩ := hf
  obtain ⟨ad, e, hx⟩ := Kd.at_int hr0 (0 : Int) (by omega) (by omega)
  subst e
  have hmul := slices_Repeat_int_int.mul a1.toNat (by omega)
  rw [show ((a1.toNat : Nat) : Int) = a1 by omega] at hmul
  have HM := am_ hmul
  clear hmul
  rw [show rd l0 (0 : Int) = l0.getD 0 0 by simp [rd]] at hx
  generalize l0.getD 0 0 = x at hx ⊢
  generalize l0.length = n0 at *
  subst h1
  have HX := am_ hx
  clear hx hr0
  obtain ⟨N, rfl⟩ := Int.eq_ofNat_of_zero_le h0
  have n0 : ¬ ((N : Int) < 0) := by omega
  have ew : wrap64 (N : Int) = N := by unfold wrap64; omega
  have eu : IntKind.u64.wrap (N : Int) = N := by rw [IntKind.wrap_u64]; omega
  have ng : ¬ ((N : Int) > 9223372036854775807) := by omega
  have HN := am_ hN
  clear hN h0
  have HB := am_ (Below.refl w.heap.size w)
  have hsz : (Try.prog.info? 3).map (·.size) = some 1 := by kernel_rfl
  have HS := am_ hsz
  clear hsz
  have NM := am_ (show (N : Int).toNat = N from rfl)
  go_enter Try.func32, Try.ntmps32
  go_wp2_with (first
    | (go_at_call 49; refine (bits_Mul.calls 1 (N : Int) 0 (N : Int) _ HM.out).mono ?_; rintro e w' ⟨rfl, ⟨nd, rfl⟩⟩)
    | ((with_reducible refine Sh.d 30 ?_); refine Kd.R_make (Kd.int .i64) (w0 := w) w.heap.size 3 rfl (N := 30) rfl 26 _ _ rfl (N : Int) rfl rfl Try.underlying26 (.int .i64 0) 8 info3 rfl (by decide) (by omega) 0 (ok := fun _ => True) (okp := fun _ => True) rfl (fun _ hk => hk) trivial (by omega) (by have := HN.out; omega) (pw_below_drewN HB.out _) (below_size (pw_below_drewN HB.out _)) ?_
       intro v1 w1 ho hb hg hat
       obtain ⟨b, hb1, _⟩ := hat
       obtain ⟨hl1, ⟨e1, _⟩ | ⟨g, cap, cur, e1, hbg, hcur, hcap, _, hsz1, _⟩⟩ := Kd.own_of_R ho
       · subst e1; simp [Value.ownBlock] at hb1
       subst e1
       obtain ⟨L, rfl⟩ : ∃ L : List Value, cur = L.toArray := ⟨cur.toList, by simp⟩
       have LEN := am_ (show L.length = cap ∧ N ≤ cap from ⟨by simpa using hsz1, by simpa using hcap⟩)
       have GB := am_ hbg
       have HC := am_ hcur
       clear hb1 hl1 hsz1 hcap ho hg hcur hbg HB
       have HB := am_ hb
       clear hb
       simp only [List.length_replicate, Int.toNat_natCast])
    | ((with_reducible refine gate_builtin (b := .copy) (xs := #[.tmp 31, .tmp 32]) rfl ?_); go_loud (refine wpList_copy_splice rfl (.tmp 31) (.tmp 32) 26 26 rfl 3 Try.underlying26 HS.out (some ⟨g, 0, none⟩) (some ad) N cap 1 c0 rfl rfl g 0 L 3 HC.out (List.replicate (min 1 N) (.int .i64 x)) (by simp) ?hpos ?hfit ?h1 w.heap.size w HB.out GB.out ?_)
       case hpos => exact fun _ => ⟨rfl, ad, rfl, fun j v hv => by
         have hj : j = 0 ∧ v = .int .i64 x := by
           rw [List.getElem?_replicate] at hv
           by_cases h : j < min 1 N
           · rw [if_pos h] at hv; exact ⟨by omega, (Option.some.inj hv).symm⟩
           · rw [if_neg h] at hv; cases hv
         obtain ⟨rfl, rfl⟩ := hj
         exact (HB.out.cell (World.block_lt_of_cell? w _ HX.out)).trans HX.out⟩
       case hfit => have := LEN.out; simp; omega
       case h1 => intro v hv; rw [List.eq_of_mem_replicate hv]; rfl
       intro w2 hg2 hb2
       have HC2 := am_ (show w2.heap[g]? = some (.cells (splice L 0 (List.replicate (min 1 N) (.int .i64 x))).toArray 3 (0, 0)) from hg2)
       clear HC HB hg2
       have HB := am_ hb2
       clear hb2
       simp only [List.length_replicate]))
  go_loopg [8] N (fun gg s8 wr => ∃ m : Nat, m ≤ N ∧ (0 < N → 0 < m) ∧ N - m ≤ gg ∧ s8 = .int .i64 m ∧ Aside0 (∃ L' : List Value, wr.heap[g]? = some (.cells L'.toArray 3 (0, 0)) ∧ L'.length = cap ∧ L'.take m = List.replicate m (.int .i64 x)) ∧ Aside0 (Below w.heap.size w wr))
  case atStart =>
    refine ⟨min 1 N, Nat.min_le_right _ _, by omega, by omega, rfl, ⟨_, HC2.out, ?_, ?_⟩, HB⟩
    · rw [length_splice _ _ _ (by have := LEN.out; simp; omega)]; exact LEN.out.1
    · simp [splice]
  case round =>
    obtain ⟨m, hm, hm0, hg, rfl, HL, HB⟩ := hrel
    obtain ⟨L', hL, hLl, hLt⟩ := HL.out
    clear HC2
    have HL1 := am_ hL
    have HL2 := am_ hLl
    have HL3 := am_ hLt
    clear hL hLl hLt HL
    by_cases hlt : m < N
    · have hltz : (m : Int) < (N : Int) := by omega
      obtain ⟨i0, hi0, _, hi1, _⟩ := info_parts info3
      have hNc := LEN.out.2
      have hcut1 : ∀ W : World, (Instr.slice 26 (.slice (some ⟨g, 0, none⟩) N cap) (some (.int .i64 (m : Int))) none none).run Try.prog W = .ok (.slice (some ⟨g, m, none⟩) (N - m) (cap - m)) W := by
        intro W
        rw [cut_from (P := Try.prog) 26 3 .i64 Try.underlying26 hi0 1 hi1 (some ⟨g, 0, none⟩) N cap (m : Int) (by omega) (by omega) W, Int.toNat_natCast, if_neg (by omega)]
        simp [Addr.add] <;> omega
      have hcut2 := cut_to (P := Try.prog) 26 3 .i64 Try.underlying26 hi0 (some ⟨g, 0, none⟩) N cap (m : Int) (by omega) (by omega) hNc
      rw [Int.toNat_natCast] at hcut2
      clear hi1
      have HI := am_ hi0
      clear hi0
      have hs := am_ (show ∀ j v, (List.replicate (min m (N - m)) (Value.int .i64 x))[j]? = some v → wr.cell? ((⟨g, 0, none⟩ : Addr).add j) = some v from fun j v hv => by
        rw [List.getElem?_replicate] at hv
        by_cases h : j < min m (N - m)
        · rw [if_pos h] at hv
          have e : L'[j]? = some (Value.int .i64 x) := by
            have := congrArg (fun l : List Value => l[j]?) HL3.out
            simp only [List.getElem?_take, List.getElem?_replicate] at this
            rw [if_pos (by omega), if_pos (by omega)] at this
            exact this
          rw [← Option.some.inj hv]
          have ea : (⟨g, 0, none⟩ : Addr).add j = ⟨g, j, none⟩ := by unfold Addr.add; split <;> simp_all
          rw [ea]
          exact (blk_cell HL1.out j).trans (by simpa using e)
        · rw [if_neg h] at hv; cases hv)
      have hfit := am_ (show m + (List.replicate (min m (N - m)) (Value.int .i64 x)).length ≤ L'.length from by rw [HL2.out]; simp; omega)
      go_wp2
      go_region_law (refine step_copy_splice rfl (.tmp 41) (.tmp 44) 26 26 rfl 3 Try.underlying26 HS.out (some ⟨g, m, none⟩) (some ⟨g, 0, none⟩) (N - m) (cap - m) m cap (by simp [Act.eval, Act.put]) (by simp [Act.eval, Act.put]) g m L' 3 HL1.out (List.replicate (min m (N - m)) (.int .i64 x)) (by simp) (fun _ => ⟨rfl, _, rfl, hs.out⟩) hfit.out (fun v hv => by rw [List.eq_of_mem_replicate hv]; rfl) w.heap.size w (by first | exact HB.out | exact below_drew1 HB.out) GB.out ?_; intro w3 hg3 hb3)
      all_goals go_wp2
      all_goals (
        go_roundg (N - (m + min m (N - m)))
        case measure => omega
        case rel =>
          refine ⟨m + min m (N - m), by omega, by omega, by omega, congrArg (Value.int .i64) (by have hN := HN.out; rw [IntKind.wrap_i64]; omega), ⟨⟨_, hg3, ?_, ?_⟩⟩, ⟨hb3⟩⟩
          · rw [length_splice _ _ _ hfit.out]; exact HL2.out
          · have h1 := HL3.out
            have h2 := HL2.out
            have h3 : L'.take m ++ List.replicate (min m (N - m)) (Value.int .i64 x) = List.replicate (m + min m (N - m)) (Value.int .i64 x) := by rw [h1, List.replicate_append_replicate]
            have h4 : (L'.take m ++ List.replicate (min m (N - m)) (Value.int .i64 x)).length = m + min m (N - m) := by rw [h3, List.length_replicate]
            simp only [splice]
            rw [← List.append_assoc, List.take_append_of_le_length (by omega), ← h4, List.take_length, h3, List.length_replicate])
    · have hltz : ¬ (m : Int) < (N : Int) := by omega
      have hmN : m = N := by omega
      subst hmN
      go_wp2
      go_ret
      refine ⟨_, rfl, Kd.R_of_own (h1 := fun _ => rfl) (ok := fun _ => True) ?_ (fun _ _ => trivial), HB.out⟩
      have h1 := LEN.out
      refine ⟨by simp [encs], .inr ⟨g, cap, L'.toArray, ?_, GB.out, HL1.out, by simpa using h1.2, ?_, by simpa using HL2.out, ?_⟩⟩
      · simp
      · assumption
      · simpa [encs] using HL3.out
def slices_Index_int_int.l0 : Nat → List Int → Int → Int → Int → Option (Int)
 | 0, _, _, _, _ => none
 | k + 1, x0, x1, x7, x8 => if x8 < x7 then (if 0 ≤ x8 then (if x8 < (x0.length : Int) then (if x1 = (rd x0 x8) then (some x8) else (slices_Index_int_int.l0 k x0 x1 x7 (wrap64 (x8 + 1)))) else (none)) else (none)) else (some (-1))
def slices_Index_int_int.f (k : Nat) (l0 : List Int) (a1 : Int) : Option (Int) := slices_Index_int_int.l0 k l0 a1 (l0.length : Int) 0
theorem slices_Index_int_int.mono_l : ∀ k, (∀ y0 y1 y2 y3, LeO (slices_Index_int_int.l0 k y0 y1 y2 y3) (slices_Index_int_int.l0 (k + 1) y0 y1 y2 y3))
 | 0 => fun _ _ _ _ r h => by simp [slices_Index_int_int.l0] at h
 | k + 1 => by
  have ih0 := slices_Index_int_int.mono_l k
  ·intro y0 y1 y2 y3
   unfold slices_Index_int_int.l0
   repeat' with_reducible first | apply ih0 | exact LeO.refl _ | exact LeO.none _ | apply LeO.ite | refine LeO.bind ?_ fun _ => ?_
theorem slices_Index_int_int.mono : ∀ a0 a1 k, LeO (slices_Index_int_int.f k a0 a1) (slices_Index_int_int.f (k + 1) a0 a1) := by
 intro a0 a1 k
 have ih0 := slices_Index_int_int.mono_l k
 unfold slices_Index_int_int.f
 repeat' with_reducible first | apply ih0 | exact LeO.refl _ | exact LeO.none _ | apply LeO.ite | refine LeO.bind ?_ fun _ => ?_
theorem slices_Index_int_int.calls (k : Nat) (A0 : Option Addr) (c0 : Nat) (l0 : List Int) (a1 : Int) (r : Int) (w : World) (hr0 : Kd.C (Kd.int .i64) w A0 l0.length l0) (hc0 : l0.length ≤ c0) (h : slices_Index_int_int.f k l0 a1 = some r) :
  Calls Try.prog 66 #[.slice A0 l0.length c0, .int .i64 a1] w fun e w' => e = .returned (.int .i64 r) ∧ Drawn0 w w' := by
 have HR0 := am_ hr0
 have HC0 := am_ hc0
 clear hr0 hc0
 have H := h
 clear h
 unfold slices_Index_int_int.f at H
 have H' := am_ H
 clear H
 go_enter Try.func66, Try.ntmps66
 go_wp2
 go_loopg [8] k (fun kq v8 w' => ∃ (x8_1 : Int), v8 = .int .i64 x8_1 ∧ Aside0 (slices_Index_int_int.l0 kq l0 a1 (l0.length : Int) x8_1 = some r) ∧ Aside0 (kq ≤ k) ∧ Drawn0 w w')
 case atStart => exact ⟨(0), (Sh.es), H', ⟨Nat.le_refl _⟩, Sh.dr⟩
 case round =>
  clear H'
  obtain ⟨x8_1, rfl, HA, HK1, ⟨m1, rfl⟩⟩ := hrel
  cases gk with
  | zero => exact absurd HA.out (by simp [slices_Index_int_int.l0])
  | succ k1 =>
   have H := HA.out
   clear HA
   simp only [slices_Index_int_int.l0] at H
   by_cases c3 : x8_1 < (l0.length : Int)
   ·rw [if_pos c3] at H
    have c3b0 := decide_eq_true c3
    clear c3
    by_cases c4 : 0 ≤ x8_1
    ·rw [if_pos c4] at H
     have c4b0 := decide_eq_true c4
     clear c4
     by_cases c5 : x8_1 < (l0.length : Int)
     ·rw [if_pos c5] at H
      have c5b0 := decide_eq_true c5
      clear c5
      by_cases c6 : a1 = (rd l0 x8_1)
      ·rw [if_pos c6] at H
       have c6b0 : (a1 == (rd l0 x8_1)) = true := beq_iff_eq.mpr c6
       have c6b1 : (a1 != (rd l0 x8_1)) = false := bne_eq_false_iff_eq.mpr c6
       clear c6
       obtain rfl := Option.some.inj H
       have p339 : 0 ≤ (x8_1 : Int) := Sh.od
       have q339 : x8_1 < (l0.length : Int) := Sh.od
       obtain ⟨ad339, e339, hx339_0⟩ := Kd.at_int HR0.out x8_1 p339 q339
       cases e339
       replace p339 := eq_true p339
       replace q339 := eq_true q339
       go_wp2
       go_ret
       exact ⟨Sh.es, Sh.dr⟩
      ·rw [if_neg c6] at H
       have c6b0 : (a1 == (rd l0 x8_1)) = false := beq_eq_false_iff_ne.mpr c6
       have c6b1 : (a1 != (rd l0 x8_1)) = true := bne_iff_ne.mpr c6
       have H' := am_ H
       clear H
       have p339 : 0 ≤ (x8_1 : Int) := Sh.od
       have q339 : x8_1 < (l0.length : Int) := Sh.od
       obtain ⟨ad339, e339, hx339_0⟩ := Kd.at_int HR0.out x8_1 p339 q339
       cases e339
       replace p339 := eq_true p339
       replace q339 := eq_true q339
       go_wp2
       go_roundg k1
       case measure => have := HK1.out; omega
       case rel => exact ⟨(wrap64 (x8_1 + 1)), (Sh.es), H', ⟨by have := HK1.out; omega⟩, Sh.dr⟩
     ·rw [if_neg c5] at H
      exact absurd H (by simp)
    ·rw [if_neg c4] at H
     exact absurd H (by simp)
   ·rw [if_neg c3] at H
    have c3b0 := decide_eq_false c3
    clear c3
    obtain rfl := Option.some.inj H
    go_wp2
    go_ret
    exact ⟨Sh.es, Sh.dr⟩
def slices_Min_int_int.l0 : Nat → List Int → Int → Int → Option (Int)
 | 0, _, _, _ => none
 | k + 1, x0, x3, x4 => if x4 < (x0.length : Int) then (if 0 ≤ x4 then (slices_Min_int_int.l0 k x0 (mn x3 (rd x0 x4)) (wrap64 (x4 + 1))) else (none)) else (some x3)
def slices_Min_int_int.f (k : Nat) (l0 : List Int) : Option (Int) := if (l0.length : Int) < 1 then (none) else (if 0 < (l0.length : Int) then (slices_Min_int_int.l0 k l0 (rd l0 0) 1) else (none))
theorem slices_Min_int_int.mono_l : ∀ k, (∀ y0 y1 y2, LeO (slices_Min_int_int.l0 k y0 y1 y2) (slices_Min_int_int.l0 (k + 1) y0 y1 y2))
 | 0 => fun _ _ _ r h => by simp [slices_Min_int_int.l0] at h
 | k + 1 => by
  have ih0 := slices_Min_int_int.mono_l k
  ·intro y0 y1 y2
   unfold slices_Min_int_int.l0
   repeat' with_reducible first | apply ih0 | exact LeO.refl _ | exact LeO.none _ | apply LeO.ite | refine LeO.bind ?_ fun _ => ?_
theorem slices_Min_int_int.mono : ∀ a0 k, LeO (slices_Min_int_int.f k a0) (slices_Min_int_int.f (k + 1) a0) := by
 intro a0 k
 have ih0 := slices_Min_int_int.mono_l k
 unfold slices_Min_int_int.f
 repeat' with_reducible first | apply ih0 | exact LeO.refl _ | exact LeO.none _ | apply LeO.ite | refine LeO.bind ?_ fun _ => ?_
theorem slices_Min_int_int.calls (k : Nat) (A0 : Option Addr) (c0 : Nat) (l0 : List Int) (r : Int) (w : World) (hr0 : Kd.C (Kd.int .i64) w A0 l0.length l0) (hc0 : l0.length ≤ c0) (h : slices_Min_int_int.f k l0 = some r) :
  Calls Try.prog 67 #[.slice A0 l0.length c0] w fun e w' => e = .returned (.int .i64 r) ∧ Below w.heap.size w w' := by
 have HR0 := am_ hr0
 have HC0 := am_ hc0
 clear hr0 hc0
 have HB := am_ (Below.refl w.heap.size w)
 have H := h
 clear h
 unfold slices_Min_int_int.f at H
 by_cases c2 : (l0.length : Int) < 1
 ·rw [if_pos c2] at H
  exact absurd H (by simp)
 ·rw [if_neg c2] at H
  have c2b0 := decide_eq_false c2
  have c2b1 : decide (l0.length < 1) = false := decide_eq_false (by omega)
  clear c2
  by_cases c3 : 0 < (l0.length : Int)
  ·rw [if_pos c3] at H
   have c3b0 := decide_eq_true c3
   have c3b1 : decide (0 < l0.length) = true := decide_eq_true (by omega)
   clear c3
   have H' := am_ H
   clear H
   have p340 : 0 ≤ (0 : Int) := (by omega)
   have q340 : 0 < (l0.length : Int) := Sh.od
   obtain ⟨ad340, e340, hx340_0⟩ := Kd.at_int HR0.out 0 p340 q340
   cases e340
   have qi340 : (0 < l0.length) = True := eq_true (by omega)
   (try rw [show ((0 : Int)).toNat = 0 from rfl] at hx340_0)
   (try rw [Addr.add_zero'] at hx340_0)
   replace p340 := eq_true p340
   replace q340 := eq_true q340
   go_enter Try.func67, Try.ntmps67
   go_wp2
   go_loopg [3, 4] k (fun kq v3 v4 w' => ∃ (x3_1 : Int) (x4_1 : Int), v3 = .int .i64 x3_1 ∧ v4 = .int .i64 x4_1 ∧ Aside0 (slices_Min_int_int.l0 kq l0 x3_1 x4_1 = some r) ∧ Aside0 (kq ≤ k) ∧ Aside0 (Below w.heap.size w w'))
   case atStart => exact ⟨(rd l0 0), (1), (Sh.es), (Sh.es), H', ⟨Nat.le_refl _⟩, ⟨Sh.bw⟩⟩
   case round =>
    clear H'
    try clear hx3
    try clear qi3
    try clear hx340_0
    obtain ⟨x3_1, x4_1, rfl, rfl, HA, HK1, HB⟩ := hrel
    cases gk with
    | zero => exact absurd HA.out (by simp [slices_Min_int_int.l0])
    | succ k1 =>
     have H := HA.out
     clear HA
     simp only [slices_Min_int_int.l0] at H
     by_cases c4 : x4_1 < (l0.length : Int)
     ·rw [if_pos c4] at H
      have c4b0 := decide_eq_true c4
      clear c4
      by_cases c5 : 0 ≤ x4_1
      ·rw [if_pos c5] at H
       have c5b0 := decide_eq_true c5
       clear c5
       obtain ⟨ji6, hj1⟩ : ∃ j_ : Int, (mn x3_1 (rd l0 x4_1)) = j_ := ⟨_, rfl⟩
       replace H : (slices_Min_int_int.l0 k1 l0 ji6 (wrap64 (x4_1 + 1))) = some r := by first | (rw [hj1] at H; exact H) | (simp only [hj1] at H ⊢; exact H)
       have hji6_ : (if (rd l0 x4_1) < x3_1 then (rd l0 x4_1) else x3_1) = ji6 := hj1
       have H' := am_ H
       clear H
       have p341 : 0 ≤ (x4_1 : Int) := Sh.od
       have q341 : x4_1 < (l0.length : Int) := Sh.od
       obtain ⟨ad341, e341, hx341_0⟩ := Kd.at_int HR0.out x4_1 p341 q341
       obtain rfl : ad340 = ad341 := (by injection e341)
       try replace hx341_0 := Sh.cw hx341_0
       replace p341 := eq_true p341
       replace q341 := eq_true q341
       go_wp2
       go_roundg k1
       case measure => have := HK1.out; omega
       case rel => exact ⟨(ji6), (wrap64 (x4_1 + 1)), (by first | rfl | (simp; done) | (simp only [← hj1] <;> (first | rfl | simp)) | (simp [*]; done)), (Sh.es), H', ⟨by have := HK1.out; omega⟩, ⟨Sh.bw⟩⟩
      ·rw [if_neg c5] at H
       exact absurd H (by simp)
     ·rw [if_neg c4] at H
      have c4b0 := decide_eq_false c4
      clear c4
      obtain rfl := Option.some.inj H
      go_wp2
      go_ret
      exact ⟨Sh.eR, Sh.bw⟩
  ·rw [if_neg c3] at H
   exact absurd H (by simp)
theorem TJ_b6 {w : World} {g : Nat} {t : TypeId} {a b c d e f : Value} (h : w.heap[g]? = some (.cells #[a, b, c, d, e, f] t (0, 0))) : (w.cell? ⟨g, 0, none⟩ = some a ∧ w.cell? ⟨g, 1, none⟩ = some b ∧ w.cell? ⟨g, 2, none⟩ = some c ∧ w.cell? ⟨g, 3, none⟩ = some d ∧ w.cell? ⟨g, 4, none⟩ = some e ∧ w.cell? ⟨g, 5, none⟩ = some f) ∧ w.frozen? ⟨g, 4, none⟩ = false ∧ w.frozen? ⟨g, 5, none⟩ = false :=
  ⟨⟨Sh.bc h 0 rfl, Sh.bc h 1 rfl, Sh.bc h 2 rfl, Sh.bc h 3 rfl, Sh.bc h 4 rfl, Sh.bc h 5 rfl⟩, blk_frozen h 4, blk_frozen h 5⟩
/-- The search at block g of W; its rows (found, low, part: n each; the stack) are made behind w0. -/
def IsT (nx : Value) (n : Nat) (w0 W : World) (g gF cF gL cL gP cP : Nat) (vS : Value) (F L P S : List Int) (vis : Int) : Prop :=
  W.heap[g]? = some (.cells #[nx, .slice (some ⟨gF, 0, none⟩) n cF, .slice (some ⟨gL, 0, none⟩) n cL, .slice (some ⟨gP, 0, none⟩) n cP, vS, .int .i64 vis] 62 (0, 0)) ∧ w0.heap.size ≤ g ∧ (gF ≠ gL ∧ gF ≠ gP ∧ gL ≠ gP) ∧ (some gF ≠ vS.ownBlock ∧ some gL ≠ vS.ownBlock ∧ some gP ≠ vS.ownBlock) ∧
  Kd.R (Kd.int .i64) 3 W w0.heap.size (fun _ => True) (.slice (some ⟨gF, 0, none⟩) n cF) F ∧ Kd.R (Kd.int .i64) 3 W w0.heap.size (fun _ => True) (.slice (some ⟨gL, 0, none⟩) n cL) L ∧ Kd.R (Kd.int .i64) 3 W w0.heap.size (fun _ => True) (.slice (some ⟨gP, 0, none⟩) n cP) P ∧ Kd.R (Kd.int .i64) 3 W w0.heap.size (fun _ => True) vS S
section
variable {nx : Value} {n : Nat} {w0 W W1 : World} {g gF cF gL cL gP cP : Nat} {vS : Value} {F L P S : List Int} {vis : Int}
theorem TJ_own (g n c : Nat) : (Value.slice (some ⟨g, 0, none⟩) n c).ownBlock = some g := rfl
theorem TJ_far {e base a : Nat} {v u : Value} {xs : List Int} {j : Nat} (h : Kd.R (Kd.int .i64) e W base (fun _ => True) v xs) (hne : some a ≠ v.ownBlock) : Kd.R (Kd.int .i64) e (W.setCell ⟨a, j, none⟩ u) base (fun _ => True) v xs :=
  Kd.R_mono (Kd.R_far (p := ⟨a, j, none⟩) (Kd.R_far1 h rfl hne) (fun _ hk => hk.2) u) (fun _ _ => trivial)
theorem TJ_set {e base a t : Nat} {cells : Array Value} {v u : Value} {xs : List Int} {j : Nat} (h : Kd.R (Kd.int .i64) e W base (fun _ => True) v xs) (hb : W.heap[a]? = some (.cells cells t (0, 0))) (hne : e ≠ t) : Kd.R (Kd.int .i64) e (W.setCell ⟨a, j, none⟩ u) base (fun _ => True) v xs :=
  TJ_far h (Kd.R_ne h hb hne)
theorem IsT.below (h : IsT nx n w0 W g gF cF gL cL gP cP vS F L P S vis) (hw : Below W.heap.size W W1) : IsT nx n w0 W1 g gF cF gL cL gP cP vS F L P S vis := by
  obtain ⟨h1, h2, h3, h4, h5, h6, h7, h8⟩ := h
  exact ⟨blk_below h1 hw, h2, h3, h4, Kd.R_below h5 hw, Kd.R_below h6 hw, Kd.R_below h7 hw, Kd.R_below h8 hw⟩
theorem IsT.lens (h : IsT nx n w0 W g gF cF gL cL gP cP vS F L P S vis) : F.length = n ∧ L.length = n ∧ P.length = n := by
  obtain ⟨h1, h2, h3, h4, h5, h6, h7, h8⟩ := h
  exact ⟨(Kd.R_reads' h5).1.symm, (Kd.R_reads' h6).1.symm, (Kd.R_reads' h7).1.symm⟩
theorem IsT.setF (h : IsT nx n w0 W g gF cF gL cL gP cP vS F L P S vis) (i x : Int) : IsT nx n w0 (W.setCell ⟨gF, i.toNat, none⟩ (.int .i64 x)) g gF cF gL cL gP cP vS (F.set i.toNat x) L P S vis := by
  obtain ⟨h1, h2, ⟨h3, h4, h5⟩, ⟨k1, k2, k3⟩, h6, h7, h8, h9⟩ := h
  have hp := Kd.R_putg h6 i x
  refine ⟨blk_grown h1 hp.2 (fun e => ?_), h2, ⟨h3, h4, h5⟩, ⟨k1, k2, k3⟩, hp.1, TJ_far h7 (by rw [TJ_own]; simpa using h3), TJ_far h8 (by rw [TJ_own]; simpa using h4), TJ_far h9 k1⟩
  exact Kd.R_ne h6 h1 (by decide) (by rw [TJ_own]; exact e)
theorem IsT.setL (h : IsT nx n w0 W g gF cF gL cL gP cP vS F L P S vis) (i x : Int) : IsT nx n w0 (W.setCell ⟨gL, i.toNat, none⟩ (.int .i64 x)) g gF cF gL cL gP cP vS F (L.set i.toNat x) P S vis := by
  obtain ⟨h1, h2, ⟨h3, h4, h5⟩, ⟨k1, k2, k3⟩, h6, h7, h8, h9⟩ := h
  have hp := Kd.R_putg h7 i x
  refine ⟨blk_grown h1 hp.2 (fun e => ?_), h2, ⟨h3, h4, h5⟩, ⟨k1, k2, k3⟩, TJ_far h6 (by rw [TJ_own]; simpa using h3.symm), hp.1, TJ_far h8 (by rw [TJ_own]; simpa using h5), TJ_far h9 k2⟩
  exact Kd.R_ne h7 h1 (by decide) (by rw [TJ_own]; exact e)
theorem IsT.setP (h : IsT nx n w0 W g gF cF gL cL gP cP vS F L P S vis) (i x : Int) : IsT nx n w0 (W.setCell ⟨gP, i.toNat, none⟩ (.int .i64 x)) g gF cF gL cL gP cP vS F L (P.set i.toNat x) S vis := by
  obtain ⟨h1, h2, ⟨h3, h4, h5⟩, ⟨k1, k2, k3⟩, h6, h7, h8, h9⟩ := h
  have hp := Kd.R_putg h8 i x
  refine ⟨blk_grown h1 hp.2 (fun e => ?_), h2, ⟨h3, h4, h5⟩, ⟨k1, k2, k3⟩, TJ_far h6 (by rw [TJ_own]; simpa using h4.symm), TJ_far h7 (by rw [TJ_own]; simpa using h5.symm), hp.1, TJ_far h9 k3⟩
  exact Kd.R_ne h8 h1 (by decide) (by rw [TJ_own]; exact e)
theorem IsT.setV (h : IsT nx n w0 W g gF cF gL cL gP cP vS F L P S vis) (x : Int) : IsT nx n w0 (W.setCell ⟨g, 5, none⟩ (.int .i64 x)) g gF cF gL cL gP cP vS F L P S x := by
  obtain ⟨h1, h2, h3, h4, h6, h7, h8, h9⟩ := h
  exact ⟨blk_put h1 5 (.int .i64 x) rfl, h2, h3, h4, TJ_set h6 h1 (by decide), TJ_set h7 h1 (by decide), TJ_set h8 h1 (by decide), TJ_set h9 h1 (by decide)⟩
/-- The stack's row is another one: behind an append (W1), or cut. -/
theorem IsT.setS (h : IsT nx n w0 W g gF cF gL cL gP cP vS F L P S vis) {vT : Value} {S' : List Int} (hg : W.grownBy W1 vS.ownBlock) (hat : vT.ownBlock = vS.ownBlock ∨ ∃ b, vT.ownBlock = some b ∧ W.heap.size ≤ b) (hT : Kd.R (Kd.int .i64) 3 W1 w0.heap.size (fun _ => True) vT S') :
    IsT nx n w0 (W1.setCell ⟨g, 4, none⟩ vT) g gF cF gL cL gP cP vT F L P S' vis := by
  obtain ⟨h1, h2, h3, ⟨k1, k2, k3⟩, h6, h7, h8, h9⟩ := h
  have hb := blk_grown h1 hg (Kd.R_ne h9 h1 (by decide))
  have key : ∀ {x : Nat} {v : Value} {xs : List Int}, v.ownBlock = some x → some x ≠ vS.ownBlock → Kd.R (Kd.int .i64) 3 W w0.heap.size (fun _ => True) v xs → some x ≠ vT.ownBlock := by
    intro x v xs hv hne hr
    rcases hat with hat | ⟨b, hb', hle⟩
    · rw [hat]; exact hne
    · rw [hb']
      intro e
      injection e with e
      have := Kd.R_lt hr x hv
      omega
  have mv : ∀ {v : Value} {x : Nat} {xs : List Int}, v.ownBlock = some x → some x ≠ vS.ownBlock → Kd.R (Kd.int .i64) 3 W w0.heap.size (fun _ => True) v xs → Kd.R (Kd.int .i64) 3 (W1.setCell ⟨g, 4, none⟩ vT) w0.heap.size (fun _ => True) v xs := by
    intro v x xs hv hne hr
    exact TJ_set (Kd.R_mono (Kd.R_grown1 hr rfl hg (by rw [hv]; exact fun e => hne e.symm)) (fun _ _ => trivial)) hb (by decide)
  exact ⟨blk_put hb 4 vT rfl, h2, h3, ⟨key (TJ_own _ _ _) k1 h6, key (TJ_own _ _ _) k2 h7, key (TJ_own _ _ _) k3 h8⟩, mv (TJ_own _ _ _) k1 h6, mv (TJ_own _ _ _) k2 h7, mv (TJ_own _ _ _) k3 h8, TJ_set hT hb (by decide)⟩
end
theorem TJ_store {P : Program} {ops : Array Oper} {oi : Oper} {a : Act} {W w1 : World} {Kc : Act → World → Prop} {Q' : Exit → Act → World → Prop} (hw : Region.wanted oi (yielded ops a.tmps) = true) (hN : oi.dst = none) (hrun : (execOp a.eval oi).run P W = .ok .skip w1) (h : ∀ w', w' = w1 → Kc a w') :
    if Region.wanted oi (yielded ops a.tmps) = true then Oper.wp P oi a W Kc Q' else Kc (a.put none undef) W := by
  rw [if_pos hw]
  unfold Oper.wp
  rw [hrun]
  show Kc (a.put oi.dst undef) w1
  rw [hN]
  exact h _ rfl
theorem IsT.rl {nx : Value} {n : Nat} {w0 W W1 : World} {g gF cF gL cL gP cP : Nat} {vS : Value} {F L P S : List Int} {vis : Int} (h : IsT nx n w0 W g gF cF gL cL gP cP vS F L P S vis) (hs : Below W.heap.size W W1 := by (repeat (with_reducible first | apply below_alloc | apply pw_below_drewN | apply below_drew1)); exact Below.refl _ _) : IsT nx n w0 W1 g gF cF gL cL gP cP vS F L P S vis := h.below hs
theorem IsT.am {nx : Value} {n : Nat} {w0 W W1 : World} {g gF cF gL cL gP cP : Nat} {vS : Value} {F L P S : List Int} {vis : Int} (h : Aside0 (IsT nx n w0 W g gF cF gL cL gP cP vS F L P S vis)) (hs : Below W.heap.size W W1 := by (repeat (with_reducible first | apply below_alloc | apply pw_below_drewN | apply below_drew1)); exact Below.refl _ _) : Aside0 (IsT nx n w0 W1 g gF cF gL cL gP cP vS F L P S vis) := ⟨h.out.below hs⟩
theorem IsT.stackC {nx : Value} {n c : Nat} {w0 W W1 : World} {g gF cF gL cL gP cP : Nat} {A : Option Addr} {F L P S : List Int} {vis : Int} (h : IsT nx n w0 W g gF cF gL cL gP cP (.slice A S.length c) F L P S vis) (hs : Below W.heap.size W W1 := by (repeat (with_reducible first | apply below_alloc | apply pw_below_drewN | apply below_drew1)); exact Below.refl _ _) : Kd.C (Kd.int .i64) W1 A S.length S := (Kd.R_reads' (h.below hs).2.2.2.2.2.2.2).2.2
theorem IsT.cutC {nx : Value} {n c : Nat} {w0 W W1 : World} {g gF cF gL cL gP cP : Nat} {A A5 : Option Addr} {F L P S yD : List Int} {vis : Int} (h : IsT nx n w0 W g gF cF gL cL gP cP (.slice A S.length c) F L P S vis) (hA : ∀ w : World, ReadsOf (Value.int .i64) (0 : Int) w A S.length S → ReadsOf (Value.int .i64) (0 : Int) w A5 yD.length yD) (hs : Below W.heap.size W W1 := by (repeat (with_reducible first | apply below_alloc | apply pw_below_drewN | apply below_drew1)); exact Below.refl _ _) : Kd.C (Kd.int .i64) W1 A5 yD.length yD :=
  Kd.C_of_reads (enc := Value.int .i64) (d := (0 : Int)) (h1 := fun _ => rfl) (hA _ (Kd.reads_of_C (enc := Value.int .i64) (d := (0 : Int)) (h1 := fun _ => rfl) (h.stackC hs)))
theorem IsT.cutS {nx : Value} {n c k : Nat} {w0 W : World} {g gF cF gL cL gP cP : Nat} {A : Option Addr} {F L P S yT : List Int} {vis : Int} (h : IsT nx n w0 W g gF cF gL cL gP cP (.slice A S.length c) F L P S vis) (hk : k ≤ S.length) (hT : yT = S.take k) : IsT nx n w0 (W.setCell ⟨g, 4, none⟩ (.slice A yT.length c)) g gF cF gL cL gP cP (.slice A yT.length c) F L P yT vis := by
  refine IsT.setS h (World.grownBy.refl _ _) (.inl (by cases A <;> rfl)) ?_
  subst hT
  have := Kd.R_take h.2.2.2.2.2.2.2 hk
  rwa [List.length_take, Nat.min_eq_left hk]

def impl_visit.l1 : Nat → List Int → List Int → List Int → Int → List Int → Int → List Int → Int → Option (List Int × List Int × List Int × List Int × Int)
 | 0, _, _, _, _, _, _, _, _ => none
 | k + 1, F, L, S, vis, cut, m, P, i => if i < (cut.length : Int) then (if 0 ≤ i ∧ 0 ≤ rd cut i ∧ rd cut i < (P.length : Int) then impl_visit.l1 k F L S vis cut m (P.set (rd cut i).toNat m) (wrap64 (i + 1)) else none) else some (F, L, P, S, vis)
def impl_visit.e (k : Nat) (v : Int) (F L P S : List Int) (vis : Int) : Option (List Int × List Int × List Int × List Int × Int) :=
  if rd L v < rd F v then some (F, L, P, S, vis) else (slices_Index_int_int.f k S v).bind fun j => if 0 ≤ j ∧ j ≤ (S.length : Int) then (slices_Min_int_int.f k (S.drop j.toNat)).bind fun m => impl_visit.l1 k F L (S.take j.toNat) vis (S.drop j.toNat) m P 0 else none
mutual
def impl_visit.l0 : Nat → List (List Int) → Int → List Int → Int → List Int → List Int → List Int → List Int → Int → Option (List Int × List Int × List Int × List Int × Int)
 | 0, _, _, _, _, _, _, _, _, _ => none
 | k + 1, N, v, row, i, F, L, P, S, vis => if i < (row.length : Int) then (if 0 ≤ i ∧ 0 ≤ rd row i ∧ rd row i < (N.length : Int) then (if rd F (rd row i) = 0 then ((impl_visit.f k N (rd row i) F L P S vis).bind fun t => impl_visit.l0 k N v row (wrap64 (i + 1)) t.1 (t.2.1.set v.toNat (mn (rd t.2.1 v) (rd t.2.1 (rd row i)))) t.2.2.1 t.2.2.2.1 t.2.2.2.2) else (if rd P (rd row i) < 0 then impl_visit.l0 k N v row (wrap64 (i + 1)) F (L.set v.toNat (mn (rd L v) (rd F (rd row i)))) P S vis else impl_visit.l0 k N v row (wrap64 (i + 1)) F L P S vis)) else none) else impl_visit.e k v F L P S vis
def impl_visit.f : Nat → List (List Int) → Int → List Int → List Int → List Int → List Int → Int → Option (List Int × List Int × List Int × List Int × Int)
 | 0, _, _, _, _, _, _, _ => none
 | k + 1, N, v, F, L, P, S, vis => if 0 ≤ v ∧ v < (N.length : Int) ∧ S.length < 17592186044416 then impl_visit.l0 k N v (rd_L1 N v) 0 (F.set v.toNat (wrap64 (vis + 1))) (L.set v.toNat (wrap64 (vis + 1))) P (S ++ [v]) (wrap64 (vis + 1)) else none
end

def impl_visit.T1 : Bool × List (List Nat × List Nat) := (true, [([], []), ([0], [0]), ([1], [1]), ([2], [2]), ([], []), ([], []), ([5], [5]), ([6], [6]), ([7], [7]), ([], []), ([], []), ([10], [10]), ([11], [11]), ([12], [12]), ([], []), ([14], [14]), ([15], [15]), ([16], [16]), ([3, 4, 0, 1, 2, 3, 4, 8, 10, 11, 12, 13, 17], [3, 4]), ([18, 13, 0, 1, 2, 3, 4, 8, 10, 11, 12, 13, 17], [13, 18]), ([8, 9, 0, 1, 2, 3, 4, 5, 6, 7, 8, 9, 10, 11, 12, 13, 14, 15, 16, 17, 18, 19], [8, 9]), ([20, 17, 19, 0, 1, 2, 3, 4, 5, 6, 7, 8, 9, 10, 11, 12, 13, 14, 15, 16, 17, 18, 19], [17, 20])])
def impl_visit.B1 : List Nat := [0, 1, 3, 7, 0, 0, 32, 96, 224, 0, 0, 1024, 3072, 7168, 0, 16384, 49152, 114688, 261631, 523775, 1048575, 2097151]
theorem impl_visit.tab1 : rtab .any (opsOf Try.f47 1) = impl_visit.T1 := by kernel_rfl
theorem impl_visit.bits1 : waitsOk impl_visit.T1.2 impl_visit.B1 = true := by kernel_rfl
def impl_visit.T8 : Bool × List (List Nat × List Nat) := (true, [([], []), ([0], [0]), ([1], [1]), ([2], [2]), ([], []), ([], []), ([5], [5]), ([6], [6]), ([7], [7]), ([], []), ([8, 9], [8, 9]), ([10], [10]), ([], []), ([12], [12]), ([13], [13]), ([14], [14]), ([], []), ([15, 16], [15, 16]), ([17], [17]), ([11, 18], [11, 18]), ([3, 4, 0, 1, 2, 3, 4, 5, 6, 7, 8, 9, 10, 11, 12, 13, 14, 15, 16, 17, 18, 19], [3, 4]), ([20, 19, 0, 1, 2, 3, 4, 5, 6, 7, 8, 9, 10, 11, 12, 13, 14, 15, 16, 17, 18, 19], [19, 20])])
def impl_visit.B8 : List Nat := [0, 1, 3, 7, 0, 0, 32, 96, 224, 0, 992, 2016, 0, 4096, 12288, 28672, 0, 126976, 258048, 524256, 1048575, 2097151]
theorem impl_visit.tab8 : rtab .any (opsOf Try.f47 8) = impl_visit.T8 := by kernel_rfl
theorem impl_visit.bits8 : waitsOk impl_visit.T8.2 impl_visit.B8 = true := by kernel_rfl
def impl_visit.T10 : Bool × List (List Nat × List Nat) := (true, [([], []), ([0], [0]), ([1], [1]), ([2], [2]), ([], []), ([], []), ([5], [5]), ([6], [6]), ([7], [7]), ([], []), ([8, 9], [8, 9]), ([10], [10]), ([], []), ([12], [12]), ([13], [13]), ([14], [14]), ([], []), ([15, 16], [15, 16]), ([17], [17]), ([11, 18], [11, 18]), ([3, 4, 0, 1, 2, 3, 4, 5, 6, 7, 8, 9, 10, 11, 12, 13, 14, 15, 16, 17, 18, 19], [3, 4]), ([20, 19, 0, 1, 2, 3, 4, 5, 6, 7, 8, 9, 10, 11, 12, 13, 14, 15, 16, 17, 18, 19], [19, 20])])
def impl_visit.B10 : List Nat := [0, 1, 3, 7, 0, 0, 32, 96, 224, 0, 992, 2016, 0, 4096, 12288, 28672, 0, 126976, 258048, 524256, 1048575, 2097151]
theorem impl_visit.tab10 : rtab .any (opsOf Try.f47 10) = impl_visit.T10 := by kernel_rfl
theorem impl_visit.bits10 : waitsOk impl_visit.T10.2 impl_visit.B10 = true := by kernel_rfl
def impl_visit.T12 : Bool × List (List Nat × List Nat) := (true, [([], []), ([0], [0]), ([1], [1]), ([2], [2]), ([], []), ([3, 4], [3, 4]), ([5], [5]), ([], []), ([7], [7]), ([8], [8]), ([9], [9]), ([], []), ([10, 11], [10, 11]), ([12], [12]), ([6, 13], [6, 13])])
def impl_visit.B12 : List Nat := [0, 1, 3, 7, 0, 31, 63, 0, 128, 384, 896, 0, 3968, 8064, 16383]
theorem impl_visit.tab12 : rtab .any (opsOf Try.f47 12) = impl_visit.T12 := by kernel_rfl
theorem impl_visit.bits12 : waitsOk impl_visit.T12.2 impl_visit.B12 = true := by kernel_rfl

theorem impl_visit.calls (k : Nat) : ∀ (An : Option Addr) (cn : Nat) (N : List (List Int)) (g gF cF gL cL gP cP : Nat) (vS : Value) (F L P S : List Int) (vis v : Int) (r : List Int × List Int × List Int × List Int × Int) (w0 w : World) (hN : Kd.C (Kd.slice 3 (Kd.int .i64)) w0 An N.length N) (hc : N.length ≤ cn) (hI : IsT (.slice An N.length cn) N.length w0 w g gF cF gL cL gP cP vS F L P S vis) (hB : Below w0.heap.size w0 w) (h : impl_visit.f k N v F L P S vis = some r),
  Calls Try.prog 47 #[.pointer (some ⟨g, 0, none⟩), .int .i64 v] w fun e w' => e = .returned (.tuple #[]) ∧ ∃ vS', IsT (.slice An N.length cn) N.length w0 w' g gF cF gL cL gP cP vS' r.1 r.2.1 r.2.2.1 r.2.2.2.1 r.2.2.2.2 ∧ Below w0.heap.size w0 w' := by
 induction k using Nat.strongRecOn with
 | _ k ih =>
 intro An cn N g gF cF gL cL gP cP vS F L P S vis v r w0 w hN hc hI hB h
 cases k with
 | zero => exact absurd h (by simp [impl_visit.f])
 | succ k =>
 simp only [impl_visit.f] at h
 have hu62 := Try.underlying62
 have HN := am_ hN
 have HC := am_ hc
 have HI := am_ hI
 have HB := am_ hB
 have IH := am_ ih
 clear ih hN hc hI hB
 by_cases c1 : 0 ≤ v ∧ v < (N.length : Int) ∧ S.length < 17592186044416
 ·rw [if_pos c1] at h
  obtain ⟨p1, q1, s1⟩ := c1
  have LM := am_ s1
  clear s1
  have H' := am_ h
  clear h
  go_enter Try.func47, Try.ntmps47
  obtain ⟨⟨hcz_0, hcz_1, hcz_2, hcz_3, hcz_4, hcz_5⟩, hfz_4, hfz_5⟩ := TJ_b6 HI.out.1
  have p1b := decide_eq_true p1
  have q1b := decide_eq_true q1
  have p1t := eq_true p1
  have q1t := eq_true q1
  go_wp2_with (first | ((with_reducible refine gate_store (t := 3) (p := 16) rfl ?_); refine store_event (t := 3) (p := 16) (v := ?vo_w4) (w1 := (w.setCell ⟨g, 5, none⟩ (.int .i64 (wrap64 (vis + 1))))) ?hg ?ho ?hn ?hr ?_; (case ho => rfl); (case hg => rfl); (case hn => rfl); (case hr => first | (go_simp; done) | (go_simp; rfl)); intro w4 hw; have n1_ := am_ (show IsT _ _ w0 w4 g gF cF gL cL gP cP vS F L P S (wrap64 (vis + 1)) from (by rw [hw]; exact HI.out.setV _)); have n2_ := am_ (show Below w0.heap.size w0 w4 from (by rw [hw]; exact below_set HB.out HI.out.2.1)); clear hw HI HB hcz_0 hcz_1 hcz_2 hcz_3 hcz_4 hcz_5 hfz_4 hfz_5; have HI := n1_; have HB := n2_; clear n1_ n2_; obtain ⟨⟨hcz_0, hcz_1, hcz_2, hcz_3, hcz_4, hcz_5⟩, hfz_4, hfz_5⟩ := TJ_b6 HI.out.1))
  have z_ := HI.out.lens
  have hF0 : F.length = N.length := z_.1
  have hL0 : L.length = N.length := z_.2.1
  have hP0 : P.length = N.length := z_.2.2
  clear z_
  have hfF : w4.frozen? ⟨gF, v.toNat, none⟩ = false := (Kd.R_celln 0 HI.out.2.2.2.2.1 v p1 q1).2
  have hcF : w4.cell? ⟨gF, v.toNat, none⟩ = some (.int .i64 (rd F v)) := (Kd.R_celln 0 HI.out.2.2.2.2.1 v p1 q1).1
  refine start_ (n := 22) (S := fun w' => w'.cell? ⟨g, 1, none⟩ = some (.slice (some ⟨gF, 0, none⟩) N.length cF) ∧ w'.cell? ⟨g, 2, none⟩ = some (.slice (some ⟨gL, 0, none⟩) N.length cL) ∧ w'.cell? ⟨g, 5, none⟩ = some (.int .i64 (wrap64 (vis + 1)))) (ds := []) (Sh.nm 22 0) (by kernel_rfl) rfl rfl ⟨hcz_1, hcz_2, hcz_5⟩ (fun hHeld => ?_)
  refine with_tabW impl_visit.tab1 impl_visit.bits1 (fun HT_ HW_ => ?_)
  refine Sh.qA 0 ?_; refine Sh.qA 1 ?_; refine Sh.qA 2 ?_; refine Sh.qT 3 hHeld ?_; refine Sh.qA 4 ?_; refine Sh.qA 5 ?_; refine Sh.qA 6 ?_; refine Sh.qA 7 ?_; refine Sh.qT 8 hHeld ?_; refine Sh.qA 9 ?_
  refine Sh.qA 10 ?_; refine Sh.qA 11 ?_; refine Sh.qA 12 ?_; refine Sh.qT 13 hHeld ?_; refine Sh.qA 14 ?_; refine Sh.qA 15 ?_; refine Sh.qA 16 ?_; refine Sh.qT 17 hHeld ?_
  refine Sh.qA 18 ?_ (v := .pointer (some ⟨gF, v.toNat, none⟩)) (hy := by intro w'; go_simp; first | done | (intro h_; omega))
  refine one_ (i := 19) (N := none) (Sh.nm 22 1048575) rfl rfl (one_of HT_.out (by kernel_rfl)) (by decide) fun K hK => ?_
  refine TJ_store (w1 := (w4.drew.setCell ⟨gF, v.toNat, none⟩ (.int .i64 (wrap64 (vis + 1))))) (by rfl) rfl (by first | (go_simp; done) | (go_simp; rfl)) ?_
  intro w5 hw
  have n1_ := am_ (show IsT (.slice An N.length cn) N.length w0 w5 g gF cF gL cL gP cP vS (F.set v.toNat (wrap64 (vis + 1))) L P S (wrap64 (vis + 1)) from (by rw [hw]; exact IsT.setF (HI.out.below (below_drew1 (Below.refl _ _))) v _))
  have n2_ := am_ (show Below w0.heap.size w0 w5 from (by rw [hw]; exact below_set (below_drew1 HB.out) (Kd.R_base HI.out.2.2.2.2.1 gF rfl)))
  clear hw HI HB hcz_0 hcz_1 hcz_2 hcz_3 hcz_4 hcz_5 hfz_4 hfz_5 hfF hcF
  have HI := n1_
  have HB := n2_
  clear n1_ n2_
  obtain ⟨⟨hcz_0, hcz_1, hcz_2, hcz_3, hcz_4, hcz_5⟩, hfz_4, hfz_5⟩ := TJ_b6 HI.out.1
  refine hK.out _ _ ⟨hcz_1, hcz_2, hcz_5⟩ fun hHeld => ?_
  clear hK K
  have hfL : w5.frozen? ⟨gL, v.toNat, none⟩ = false := (Kd.R_celln 0 HI.out.2.2.2.2.2.1 v p1 q1).2
  have hcL : w5.cell? ⟨gL, v.toNat, none⟩ = some (.int .i64 (rd L v)) := (Kd.R_celln 0 HI.out.2.2.2.2.2.1 v p1 q1).1
  refine Sh.qA 20 ?_ (v := .pointer (some ⟨gL, v.toNat, none⟩)) (hy := by intro w'; go_simp; first | done | (intro h_; omega))
  refine one_ (i := 21) (N := none) (Sh.nm 22 4194303) rfl rfl (one_of HT_.out (by kernel_rfl)) (by decide) fun K hK => ?_
  refine TJ_store (w1 := (w5.setCell ⟨gL, v.toNat, none⟩ (.int .i64 (wrap64 (vis + 1))))) (by rfl) rfl (by first | (go_simp; done) | (go_simp; rfl)) ?_
  intro w6 hw
  have n1_ := am_ (show IsT (.slice An N.length cn) N.length w0 w6 g gF cF gL cL gP cP vS (F.set v.toNat (wrap64 (vis + 1))) (L.set v.toNat (wrap64 (vis + 1))) P S (wrap64 (vis + 1)) from (by rw [hw]; exact IsT.setL HI.out v _))
  have n2_ := am_ (show Below w0.heap.size w0 w6 from (by rw [hw]; exact below_set HB.out (Kd.R_base HI.out.2.2.2.2.2.1 gL rfl)))
  clear hw HI HB hcz_0 hcz_1 hcz_2 hcz_3 hcz_4 hcz_5 hfz_4 hfz_5 hfL hcL
  have HI := n1_
  have HB := n2_
  clear n1_ n2_
  obtain ⟨⟨hcz_0, hcz_1, hcz_2, hcz_3, hcz_4, hcz_5⟩, hfz_4, hfz_5⟩ := TJ_b6 HI.out.1
  refine hK.out _ _ ⟨hcz_1, hcz_2, hcz_5⟩ fun hHeld => ?_
  clear hK K
  refine done_ (done_of HT_.out (by kernel_rfl)) ?_
  clear hHeld HT_ HW_
  obtain ⟨y1, hy1⟩ : ∃ y_ : List Int, y_ = F.set v.toNat (wrap64 (vis + 1)) := ⟨_, rfl⟩
  obtain ⟨y2, hy2⟩ : ∃ y_ : List Int, y_ = L.set v.toNat (wrap64 (vis + 1)) := ⟨_, rfl⟩
  obtain ⟨y3, hy3⟩ : ∃ y_ : Int, y_ = wrap64 (vis + 1) := ⟨_, rfl⟩
  rw [← hy1, ← hy2, ← hy3] at HI H'
  rw [← hy3] at hcz_5 ⊢
  obtain ⟨AS, cS, eS⟩ := Kd.R_slice HI.out.2.2.2.2.2.2.2
  subst eS
  clear hy1 hy2 hy3 hF0 hL0 hP0
  obtain ⟨ad, A1, c1, e1, hx1, hl1, hi1⟩ := at_L1 HN.out v p1 q1
  subst e1
  have HX := am_ hx1
  have HR := am_ hi1
  have HL := am_ hl1
  clear hx1 hi1 hl1
  go_wp2_with (first | ((with_reducible refine gate_builtin (b := .append) (xs := #[.tmp 41, .tmp 43]) rfl ?_); at_builtin; refine Kd.R_append (Kd.int .i64) (w0 := w0) w0.heap.size rfl (.tmp 41) (.tmp 43) 26 3 (.int .i64 0) 8 rfl Try.underlying26 info3 rfl (by decide) (by omega) (.slice AS S.length cS) S v [.int .i64 v] (fun _ => True) (fun _ => False) rfl rfl ?aP (fun _ hk => hk.elim) ?aF ?aO ?aB ?aS ?aL ?_; (case aP => exact rfl); (case aF => exact (fun _ _ => trivial)); (case aO => exact (Sh.rl HI.out.2.2.2.2.2.2.2)); (case aB => exact Sh.bw); (case aS => exact (below_size Sh.bw)); (case aL => have := LM.out; omega); intro v7 w7 ho hb hg hat; obtain ⟨Ao, co, eo⟩ := Kd.R_slice ho; subst eo; have n1_ : Aside0 (∀ W_, W_ = w7.setCell ⟨g, 4, none⟩ (.slice Ao (S ++ [v]).length co) → IsT (.slice (some ad) N.length cn) N.length w0 W_ g gF cF gL cL gP cP (.slice Ao (S ++ [v]).length co) y1 y2 P (S ++ [v]) y3) := ⟨fun W_ e_ => (by rw [e_]; exact IsT.setS (IsT.rl HI.out) hg hat ho)⟩; have n2_ := am_ hb; have n3_ := am_ (blk_grown (IsT.rl HI.out).1 hg (Kd.R_ne HI.out.2.2.2.2.2.2.2 HI.out.1 (by decide))); have n4_ := am_ HI.out.2.1; clear HI HB hb hg hat ho hcz_0 hcz_1 hcz_2 hcz_3 hcz_4 hcz_5 hfz_4 hfz_5; have HI := n1_; have HB := n2_; have BK := n3_; have GE := n4_; clear n1_ n2_ n3_ n4_; obtain ⟨⟨hcz_0, hcz_1, hcz_2, hcz_3, hcz_4, hcz_5⟩, hfz_4, hfz_5⟩ := TJ_b6 BK.out) | ((with_reducible refine gate_store (t := 26) (p := 46) rfl ?_); refine store_event (t := 26) (p := 46) (v := ?vo_w8) (w1 := (w7.setCell ⟨g, 4, none⟩ (.slice Ao (S ++ [v]).length co))) ?hg ?ho ?hn ?hr ?_; (case ho => rfl); (case hg => rfl); (case hn => rfl); (case hr => first | (go_simp; done) | (go_simp; rfl)); intro w8 hw; have n1_ := am_ (HI.out w8 hw); have n2_ := am_ (show Below w0.heap.size w0 w8 from (by rw [hw]; exact below_set HB.out GE.out)); clear hw HI HB BK GE hcz_0 hcz_1 hcz_2 hcz_3 hcz_4 hcz_5 hfz_4 hfz_5; have HI := n1_; have HB := n2_; clear n1_ n2_; have hx1 := Sh.cw HX.out HB.out; obtain ⟨⟨hcz_0, hcz_1, hcz_2, hcz_3, hcz_4, hcz_5⟩, hfz_4, hfz_5⟩ := TJ_b6 HI.out.1))
  go_loopg [55] k (fun kq v55 w' => ∃ (i : Int) (vT : Value) (xF xL xP xS : List Int) (xv : Int), v55 = .int .i64 i ∧ Aside0 (impl_visit.l0 kq N v (rd_L1 N v) i xF xL xP xS xv = some r) ∧ Aside0 (kq ≤ k) ∧ Aside0 (IsT (.slice (some ad) N.length cn) N.length w0 w' g gF cF gL cL gP cP vT xF xL xP xS xv) ∧ Aside0 (Below w0.heap.size w0 w'))
  case atStart => exact ⟨0, _, _, _, _, _, _, rfl, H', ⟨Nat.le_refl _⟩, HI, HB⟩
  case round =>
   clear H' HI HB hcz_0 hcz_1 hcz_2 hcz_3 hcz_4 hcz_5 hfz_4 hfz_5 hx1
   obtain ⟨i, vT, xF, xL, xP, xS, xv, rfl, HA, HK1, HI, HB⟩ := hrel
   cases gk with
   | zero => exact absurd HA.out (by simp [impl_visit.l0])
   | succ k1 =>
    have H := HA.out
    clear HA
    simp only [impl_visit.l0] at H
    by_cases c2 : i < ((rd_L1 N v).length : Int)
    ·rw [if_pos c2] at H
     by_cases c3 : 0 ≤ i ∧ 0 ≤ rd (rd_L1 N v) i ∧ rd (rd_L1 N v) i < (N.length : Int)
     ·rw [if_pos c3] at H
      obtain ⟨p3, p4, q4⟩ := c3
      obtain ⟨ad2, e2, hx2⟩ := Kd.at_int HR.out i p3 c2
      subst e2
      have hxi := Sh.cw hx2 HB.out
      clear hx2
      obtain ⟨ww, hww⟩ : ∃ ww, ww = rd (rd_L1 N v) i := ⟨_, rfl⟩
      rw [← hww] at H p4 q4 hxi
      clear hww
      obtain ⟨⟨hcz_0, hcz_1, hcz_2, hcz_3, hcz_4, hcz_5⟩, hfz_4, hfz_5⟩ := TJ_b6 HI.out.1
      have hcF : wr.cell? ⟨gF, ww.toNat, none⟩ = some (.int .i64 (rd xF ww)) := (Kd.R_celln 0 HI.out.2.2.2.2.1 ww p4 q4).1
      have hcP : wr.cell? ⟨gP, ww.toNat, none⟩ = some (.int .i64 (rd xP ww)) := (Kd.R_celln 0 HI.out.2.2.2.2.2.2.1 ww p4 q4).1
      have c2b := decide_eq_true c2
      have c2t := eq_true c2
      have p3t := eq_true p3
      have p3b := decide_eq_true p3
      have p4t := eq_true p4
      have p4b := decide_eq_true p4
      have q4t := eq_true q4
      have q4b := decide_eq_true q4
      by_cases c5 : rd xF ww = 0
      ·rw [if_pos c5] at H
       have c5b : (rd xF ww == 0) = true := beq_iff_eq.mpr c5
       obtain ⟨t, A_, H⟩ := Sh.ba H
       have H' := am_ H
       clear H
       go_wp2_with (first | (go_at_call 47; (with_reducible refine (IH.out k1 (by have := HK1.out; omega) _ _ N g gF cF gL cL gP cP vT xF xL xP xS xv ww t w0 _ HN.out HC.out (IsT.rl HI.out) Sh.bw A_.out).mono ?_); rintro e w9 ⟨rfl, vU, hI, hb⟩; have n1_ := am_ hI; have n2_ := am_ hb; clear hI hb HI HB hxi hcF hcP hcz_0 hcz_1 hcz_2 hcz_3 hcz_4 hcz_5 hfz_4 hfz_5; have HI := n1_; have HB := n2_; clear n1_ n2_; obtain ⟨⟨hcz_0, hcz_1, hcz_2, hcz_3, hcz_4, hcz_5⟩, hfz_4, hfz_5⟩ := TJ_b6 HI.out.1))
       have hcV : w9.cell? ⟨gL, v.toNat, none⟩ = some (.int .i64 (rd t.2.1 v)) := (Kd.R_celln 0 HI.out.2.2.2.2.2.1 v p1 q1).1
       have hfV : w9.frozen? ⟨gL, v.toNat, none⟩ = false := (Kd.R_celln 0 HI.out.2.2.2.2.2.1 v p1 q1).2
       have hcW : w9.cell? ⟨gL, ww.toNat, none⟩ = some (.int .i64 (rd t.2.1 ww)) := (Kd.R_celln 0 HI.out.2.2.2.2.2.1 ww p4 q4).1
       refine start_ (n := 22) (S := fun w' => w'.cell? ⟨g, 2, none⟩ = some (.slice (some ⟨gL, 0, none⟩) N.length cL) ∧ w'.cell? ⟨g, 1, none⟩ = some (.slice (some ⟨gF, 0, none⟩) N.length cF) ∧ w'.cell? ⟨gL, v.toNat, none⟩ = some (.int .i64 (rd t.2.1 v)) ∧ w'.cell? ⟨gL, ww.toNat, none⟩ = some (.int .i64 (rd t.2.1 ww))) (ds := [21]) (Sh.nm 22 0) (by kernel_rfl) rfl rfl ⟨hcz_2, hcz_1, hcV, hcW⟩ (fun hHeld => ?_)
       refine with_tabW impl_visit.tab8 impl_visit.bits8 (fun HT_ HW_ => ?_)
       refine Sh.qA 0 ?_; refine Sh.qA 1 ?_; refine Sh.qA 2 ?_; refine Sh.qT 3 hHeld ?_; refine Sh.qA 4 ?_; refine Sh.qA 5 ?_; refine Sh.qA 6 ?_; refine Sh.qA 7 ?_; refine Sh.qT 8 hHeld ?_; refine Sh.qA 9 ?_
       refine Sh.qA 10 ?_ (v := .pointer (some ⟨gL, v.toNat, none⟩)) (hy := by intro w'; go_simp; first | done | (intro h_; omega))
       refine Sh.qT 11 hHeld ?_; refine Sh.qA 12 ?_; refine Sh.qA 13 ?_; refine Sh.qA 14 ?_; refine Sh.qT 15 hHeld ?_; refine Sh.qA 16 ?_
       refine Sh.qA 17 ?_ (v := .pointer (some ⟨gL, ww.toNat, none⟩)) (hy := by intro w'; go_simp; first | done | (intro h_; omega))
       refine Sh.qT 18 hHeld ?_
       refine Sh.qA 19 ?_ (v := .int .i64 (mn (rd t.2.1 v) (rd t.2.1 ww))) (hy := by intro w'; go_simp; first | done | rfl)
       refine Sh.qA 20 ?_ (v := .pointer (some ⟨gL, v.toNat, none⟩)) (hy := by intro w'; go_simp; first | done | (intro h_; omega))
       refine last_ (i := 21) (N := none) (Sh.nm 22 4194303) rfl rfl (one_of HT_.out (by kernel_rfl)) (by decide) (fun K hK => ?_)
       refine TJ_store (w1 := (w9.drew.setCell ⟨gL, v.toNat, none⟩ (.int .i64 (mn (rd t.2.1 v) (rd t.2.1 ww))))) (by rfl) rfl (by first | (go_simp; done) | (go_simp; rfl)) ?_
       intro w10 hw
       have n1_ := am_ (show IsT (.slice (some ad) N.length cn) N.length w0 w10 g gF cF gL cL gP cP vU t.1 (t.2.1.set v.toNat (mn (rd t.2.1 v) (rd t.2.1 ww))) t.2.2.1 t.2.2.2.1 t.2.2.2.2 from (by rw [hw]; exact IsT.setL (IsT.rl HI.out) v _))
       have n2_ := am_ (show Below w0.heap.size w0 w10 from (by rw [hw]; exact below_set (below_drew1 HB.out) (Kd.R_base HI.out.2.2.2.2.2.1 gL rfl)))
       clear hw HI HB hcz_0 hcz_1 hcz_2 hcz_3 hcz_4 hcz_5 hfz_4 hfz_5 hcV hfV hcW
       have HI := n1_
       have HB := n2_
       clear n1_ n2_
       refine hK.out _ _ ?_
       clear hK K
       refine done_ (done_of HT_.out (by kernel_rfl)) ?_
       clear hHeld HT_ HW_
       go_wp2
       go_roundg k1
       case measure => have := HK1.out; omega
       case rel => exact ⟨_, _, _, _, _, _, _, rfl, H', ⟨by have := HK1.out; omega⟩, HI, HB⟩
      ·rw [if_neg c5] at H
       have c5b : (rd xF ww == 0) = false := beq_eq_false_iff_ne.mpr c5
       by_cases c6 : rd xP ww < 0
       ·rw [if_pos c6] at H
        have c6b := decide_eq_true c6
        have H' := am_ H
        clear H
        go_wp2
        have hcV : wr.cell? ⟨gL, v.toNat, none⟩ = some (.int .i64 (rd xL v)) := (Kd.R_celln 0 HI.out.2.2.2.2.2.1 v p1 q1).1
        have hfV : wr.frozen? ⟨gL, v.toNat, none⟩ = false := (Kd.R_celln 0 HI.out.2.2.2.2.2.1 v p1 q1).2
        have hcW : wr.cell? ⟨gF, ww.toNat, none⟩ = some (.int .i64 (rd xF ww)) := (Kd.R_celln 0 HI.out.2.2.2.2.1 ww p4 q4).1
        refine start_ (n := 22) (S := fun w' => w'.cell? ⟨g, 2, none⟩ = some (.slice (some ⟨gL, 0, none⟩) N.length cL) ∧ w'.cell? ⟨g, 1, none⟩ = some (.slice (some ⟨gF, 0, none⟩) N.length cF) ∧ w'.cell? ⟨gL, v.toNat, none⟩ = some (.int .i64 (rd xL v)) ∧ w'.cell? ⟨gF, ww.toNat, none⟩ = some (.int .i64 (rd xF ww))) (ds := [21]) (Sh.nm 22 0) (by kernel_rfl) rfl rfl ⟨hcz_2, hcz_1, hcV, hcW⟩ (fun hHeld => ?_)
        refine with_tabW impl_visit.tab10 impl_visit.bits10 (fun HT_ HW_ => ?_)
        refine Sh.qA 0 ?_; refine Sh.qA 1 ?_; refine Sh.qA 2 ?_; refine Sh.qT 3 hHeld ?_; refine Sh.qA 4 ?_; refine Sh.qA 5 ?_; refine Sh.qA 6 ?_; refine Sh.qA 7 ?_; refine Sh.qT 8 hHeld ?_; refine Sh.qA 9 ?_
        refine Sh.qA 10 ?_ (v := .pointer (some ⟨gL, v.toNat, none⟩)) (hy := by intro w'; go_simp; first | done | (intro h_; omega))
        refine Sh.qT 11 hHeld ?_; refine Sh.qA 12 ?_; refine Sh.qA 13 ?_; refine Sh.qA 14 ?_; refine Sh.qT 15 hHeld ?_; refine Sh.qA 16 ?_
        refine Sh.qA 17 ?_ (v := .pointer (some ⟨gF, ww.toNat, none⟩)) (hy := by intro w'; go_simp; first | done | (intro h_; omega))
        refine Sh.qT 18 hHeld ?_
        refine Sh.qA 19 ?_ (v := .int .i64 (mn (rd xL v) (rd xF ww))) (hy := by intro w'; go_simp; first | done | rfl)
        refine Sh.qA 20 ?_ (v := .pointer (some ⟨gL, v.toNat, none⟩)) (hy := by intro w'; go_simp; first | done | (intro h_; omega))
        refine last_ (i := 21) (N := none) (Sh.nm 22 4194303) rfl rfl (one_of HT_.out (by kernel_rfl)) (by decide) (fun K hK => ?_)
        refine TJ_store (w1 := (wr.drew.setCell ⟨gL, v.toNat, none⟩ (.int .i64 (mn (rd xL v) (rd xF ww))))) (by rfl) rfl (by first | (go_simp; done) | (go_simp; rfl)) ?_
        intro w10 hw
        have n1_ := am_ (show IsT (.slice (some ad) N.length cn) N.length w0 w10 g gF cF gL cL gP cP vT xF (xL.set v.toNat (mn (rd xL v) (rd xF ww))) xP xS xv from (by rw [hw]; exact IsT.setL (IsT.rl HI.out) v _))
        have n2_ := am_ (show Below w0.heap.size w0 w10 from (by rw [hw]; exact below_set (below_drew1 HB.out) (Kd.R_base HI.out.2.2.2.2.2.1 gL rfl)))
        clear hw HI HB hcz_0 hcz_1 hcz_2 hcz_3 hcz_4 hcz_5 hfz_4 hfz_5 hcV hfV hcW
        have HI := n1_
        have HB := n2_
        clear n1_ n2_
        refine hK.out _ _ ?_
        clear hK K
        refine done_ (done_of HT_.out (by kernel_rfl)) ?_
        clear hHeld HT_ HW_
        go_wp2
        go_roundg k1
        case measure => have := HK1.out; omega
        case rel => exact ⟨_, _, _, _, _, _, _, rfl, H', ⟨by have := HK1.out; omega⟩, HI, HB⟩
       ·rw [if_neg c6] at H
        have c6b := decide_eq_false c6
        have H' := am_ H
        clear H
        go_wp2
        go_roundg k1
        case measure => have := HK1.out; omega
        case rel => exact ⟨_, _, _, _, _, _, _, rfl, H', ⟨by have := HK1.out; omega⟩, IsT.am HI, ⟨Sh.bw⟩⟩
     ·rw [if_neg c3] at H
      exact absurd H (by simp)
    ·rw [if_neg c2] at H
     have c2b := decide_eq_false c2
     obtain ⟨⟨hcz_0, hcz_1, hcz_2, hcz_3, hcz_4, hcz_5⟩, hfz_4, hfz_5⟩ := TJ_b6 HI.out.1
     have H2 := H
     clear H
     unfold impl_visit.e at H2
     have hcV : wr.cell? ⟨gL, v.toNat, none⟩ = some (.int .i64 (rd xL v)) := (Kd.R_celln 0 HI.out.2.2.2.2.2.1 v p1 q1).1
     have hcW : wr.cell? ⟨gF, v.toNat, none⟩ = some (.int .i64 (rd xF v)) := (Kd.R_celln 0 HI.out.2.2.2.2.1 v p1 q1).1
     by_cases d1 : rd xL v < rd xF v
     ·rw [if_pos d1] at H2
      have d1b := decide_eq_true d1
      injection H2 with H2
      subst H2
      go_wp2
      refine start_ (n := 15) (S := fun w' => w'.cell? ⟨g, 2, none⟩ = some (.slice (some ⟨gL, 0, none⟩) N.length cL) ∧ w'.cell? ⟨g, 1, none⟩ = some (.slice (some ⟨gF, 0, none⟩) N.length cF) ∧ w'.cell? ⟨gL, v.toNat, none⟩ = some (.int .i64 (rd xL v)) ∧ w'.cell? ⟨gF, v.toNat, none⟩ = some (.int .i64 (rd xF v))) (ds := []) (Sh.nm 15 0) (by kernel_rfl) rfl rfl ⟨hcz_2, hcz_1, hcV, hcW⟩ (fun hHeld => ?_)
      refine with_tabW impl_visit.tab12 impl_visit.bits12 (fun HT_ HW_ => ?_)
      refine Sh.qA 0 ?_; refine Sh.qA 1 ?_; refine Sh.qA 2 ?_; refine Sh.qT 3 hHeld ?_; refine Sh.qA 4 ?_
      refine Sh.qA 5 ?_ (v := .pointer (some ⟨gL, v.toNat, none⟩)) (hy := by intro w'; go_simp; first | done | (intro h_; omega))
      refine Sh.qT 6 hHeld ?_; refine Sh.qA 7 ?_; refine Sh.qA 8 ?_; refine Sh.qA 9 ?_; refine Sh.qT 10 hHeld ?_; refine Sh.qA 11 ?_
      refine Sh.qA 12 ?_ (v := .pointer (some ⟨gF, v.toNat, none⟩)) (hy := by intro w'; go_simp; first | done | (intro h_; omega))
      refine Sh.qT 13 hHeld ?_
      refine Sh.qA 14 ?_ (v := .bool true) (hy := by intro w'; go_simp; first | done | rfl)
      refine done_ (done_of HT_.out (by kernel_rfl)) ?_
      clear hHeld HT_ HW_
      go_wp2
      refine bodyPost_ret (results_list (rs := []) rfl (by simp) .nil) rfl ?_
      exact ⟨rfl, ⟨_, HI.out.below (below_drew1 (Below.refl _ _))⟩, below_drew1 HB.out⟩
     ·rw [if_neg d1] at H2
      have d1b := decide_eq_false d1
      obtain ⟨AS, cS, eS⟩ := Kd.R_slice HI.out.2.2.2.2.2.2.2
      subst eS
      obtain ⟨j, A1_, H2⟩ := Sh.ba H2
      by_cases d2 : 0 ≤ j ∧ j ≤ (xS.length : Int)
      ·rw [if_pos d2] at H2
       obtain ⟨p5, q5⟩ := d2
       obtain ⟨m, A2_, H2⟩ := Sh.ba H2
       have hcS : xS.length ≤ cS := (Kd.R_reads' HI.out.2.2.2.2.2.2.2).2.1
       obtain ⟨i3, hi3, hz3a, hz3b, hz3c⟩ := info_parts info3
       obtain ⟨A5, hcut5, hA5, hC5⟩ := print_drop_of (P := Try.prog) (Value.int .i64) 0 26 3 .i64 Try.underlying26 hi3 hz3b AS cS xS j p5 q5 hcS
       obtain ⟨hcut6, _, _⟩ := print_take_of (P := Try.prog) (Value.int .i64) 0 26 3 .i64 Try.underlying26 hi3 hz3b AS cS xS j p5 q5 hcS
       obtain ⟨yD, hyD⟩ : ∃ y_ : List Int, y_ = xS.drop j.toNat := ⟨_, rfl⟩
       obtain ⟨yT, hyT⟩ : ∃ y_ : List Int, y_ = xS.take j.toNat := ⟨_, rfl⟩
       rw [← hyD] at hcut5 hA5 hC5 A2_ H2
       rw [← hyT] at hcut6 H2
       have ND := am_ hyD
       have NT := am_ hyT
       clear hyD hyT
       have H' := am_ H2
       clear H2
       go_wp2
       refine start_ (n := 15) (S := fun w' => w'.cell? ⟨g, 2, none⟩ = some (.slice (some ⟨gL, 0, none⟩) N.length cL) ∧ w'.cell? ⟨g, 1, none⟩ = some (.slice (some ⟨gF, 0, none⟩) N.length cF) ∧ w'.cell? ⟨gL, v.toNat, none⟩ = some (.int .i64 (rd xL v)) ∧ w'.cell? ⟨gF, v.toNat, none⟩ = some (.int .i64 (rd xF v))) (ds := []) (Sh.nm 15 0) (by kernel_rfl) rfl rfl ⟨hcz_2, hcz_1, hcV, hcW⟩ (fun hHeld => ?_)
       refine with_tabW impl_visit.tab12 impl_visit.bits12 (fun HT_ HW_ => ?_)
       refine Sh.qA 0 ?_; refine Sh.qA 1 ?_; refine Sh.qA 2 ?_; refine Sh.qT 3 hHeld ?_; refine Sh.qA 4 ?_
       refine Sh.qA 5 ?_ (v := .pointer (some ⟨gL, v.toNat, none⟩)) (hy := by intro w'; go_simp; first | done | (intro h_; omega))
       refine Sh.qT 6 hHeld ?_; refine Sh.qA 7 ?_; refine Sh.qA 8 ?_; refine Sh.qA 9 ?_; refine Sh.qT 10 hHeld ?_; refine Sh.qA 11 ?_
       refine Sh.qA 12 ?_ (v := .pointer (some ⟨gF, v.toNat, none⟩)) (hy := by intro w'; go_simp; first | done | (intro h_; omega))
       refine Sh.qT 13 hHeld ?_
       refine Sh.qA 14 ?_ (v := .bool false) (hy := by intro w'; go_simp; first | done | rfl)
       refine done_ (done_of HT_.out (by kernel_rfl)) ?_
       clear hHeld HT_ HW_
       go_wp2_with (first | (go_at_call 66; (with_reducible refine (slices_Index_int_int.calls k1 _ _ xS v j _ (IsT.stackC HI.out) hcS A1_.out).mono ?_); rintro e w11 ⟨rfl, hd_⟩; have hb := hd_.below; have n1_ := am_ ((IsT.rl HI.out).below hb); have n2_ := Sh.hb hb; clear hb hd_ HI HB hcV hcW hcz_0 hcz_1 hcz_2 hcz_3 hcz_4 hcz_5 hfz_4 hfz_5; have HI := n1_; have HB := n2_; clear n1_ n2_; obtain ⟨⟨hcz_0, hcz_1, hcz_2, hcz_3, hcz_4, hcz_5⟩, hfz_4, hfz_5⟩ := TJ_b6 HI.out.1) | (go_at_call 67; (with_reducible refine (slices_Min_int_int.calls k1 _ _ yD m _ (IsT.cutC HI.out hA5) hC5 A2_.out).mono ?_); rintro e w12 ⟨rfl, hb⟩; have n1_ := am_ ((IsT.rl HI.out).below hb); have n2_ := Sh.hb hb; clear hb HI HB hcz_0 hcz_1 hcz_2 hcz_3 hcz_4 hcz_5 hfz_4 hfz_5; have HI := n1_; have HB := n2_; clear n1_ n2_; obtain ⟨⟨hcz_0, hcz_1, hcz_2, hcz_3, hcz_4, hcz_5⟩, hfz_4, hfz_5⟩ := TJ_b6 HI.out.1))
       go_loopg [156] k1 (fun kq v156 w' => ∃ (i : Int) (xP' : List Int), v156 = .int .i64 i ∧ Aside0 (impl_visit.l1 kq xF xL yT xv yD m xP' i = some r) ∧ Aside0 (kq ≤ k1) ∧ Aside0 (IsT (.slice (some ad) N.length cn) N.length w0 w' g gF cF gL cL gP cP (.slice AS xS.length cS) xF xL xP' xS xv) ∧ Aside0 (Below w0.heap.size w0 w'))
       case atStart => exact ⟨0, _, rfl, H', ⟨Nat.le_refl _⟩, HI, HB⟩
       case round =>
        clear H' HI HB hcz_0 hcz_1 hcz_2 hcz_3 hcz_4 hcz_5 hfz_4 hfz_5
        obtain ⟨i2, xP', rfl, HA, HK2, HI, HB⟩ := hrel
        cases gk with
        | zero => exact absurd HA.out (by simp [impl_visit.l1])
        | succ k2 =>
         have H := HA.out
         clear HA
         simp only [impl_visit.l1] at H
         obtain ⟨⟨hcz_0, hcz_1, hcz_2, hcz_3, hcz_4, hcz_5⟩, hfz_4, hfz_5⟩ := TJ_b6 HI.out.1
         by_cases c12 : i2 < (yD.length : Int)
         ·rw [if_pos c12] at H
          by_cases c13 : 0 ≤ i2 ∧ 0 ≤ rd yD i2 ∧ rd yD i2 < (xP'.length : Int)
          ·rw [if_pos c13] at H
           obtain ⟨p13, p14, q14⟩ := c13
           have hP9 : xP'.length = N.length := HI.out.lens.2.2
           rw [hP9] at q14
           have H' := am_ H
           clear H
           obtain ⟨ad3, e3, hxi⟩ := Kd.at_int (IsT.cutC HI.out hA5 (W1 := wr)) i2 p13 c12
           subst e3
           have c12b := decide_eq_true c12
           have c12t := eq_true c12
           have p13t := eq_true p13
           have p13b := decide_eq_true p13
           obtain ⟨ww, hww⟩ : ∃ ww, ww = rd yD i2 := ⟨_, rfl⟩
           rw [← hww] at H' p14 q14 hxi
           clear hww
           have p14t := eq_true p14
           have p14b := decide_eq_true p14
           have q14t := eq_true q14
           have q14b := decide_eq_true q14
           have hcP : wr.cell? ⟨gP, ww.toNat, none⟩ = some (.int .i64 (rd xP' ww)) := (Kd.R_celln 0 HI.out.2.2.2.2.2.2.1 ww p14 q14).1
           have hfP : wr.frozen? ⟨gP, ww.toNat, none⟩ = false := (Kd.R_celln 0 HI.out.2.2.2.2.2.2.1 ww p14 q14).2
           go_wp2_with (first | ((with_reducible refine gate_store (t := 3) (p := 166) rfl ?_); refine store_event (t := 3) (p := 166) (v := ?vo_w19) (w1 := (wr.setCell ⟨gP, ww.toNat, none⟩ (.int .i64 m))) ?hg ?ho ?hn ?hr ?_; (case ho => rfl); (case hg => rfl); (case hn => rfl); (case hr => first | (go_simp; done) | (go_simp; rfl)); intro w19 hw; have n1_ := am_ (show IsT _ _ w0 w19 g gF cF gL cL gP cP (.slice AS xS.length cS) xF xL (xP'.set ww.toNat m) xS xv from (by rw [hw]; exact IsT.setP HI.out ww m)); have n2_ := am_ (show Below w0.heap.size w0 w19 from (by rw [hw]; exact below_set HB.out (Kd.R_base HI.out.2.2.2.2.2.2.1 gP rfl))); clear hw HI HB hcP hfP hxi hcz_0 hcz_1 hcz_2 hcz_3 hcz_4 hcz_5 hfz_4 hfz_5; have HI := n1_; have HB := n2_; clear n1_ n2_; obtain ⟨⟨hcz_0, hcz_1, hcz_2, hcz_3, hcz_4, hcz_5⟩, hfz_4, hfz_5⟩ := TJ_b6 HI.out.1))
           go_roundg k2
           case measure => have := HK2.out; omega
           case rel => exact ⟨_, _, rfl, H', ⟨by have := HK2.out; omega⟩, HI, HB⟩
          ·rw [if_neg c13] at H
           exact absurd H (by simp)
         ·rw [if_neg c12] at H
          have c12b := decide_eq_false c12
          injection H with H
          subst H
          have hj : j.toNat ≤ xS.length := by omega
          go_wp2_with (first | ((with_reducible refine gate_store (t := 26) (p := 176) rfl ?_); refine store_event (t := 26) (p := 176) (v := ?vo_w20) (w1 := (wr.setCell ⟨g, 4, none⟩ (.slice AS yT.length cS))) ?hg ?ho ?hn ?hr ?_; (case ho => rfl); (case hg => rfl); (case hn => rfl); (case hr => first | (go_simp; done) | (go_simp; rfl)); intro w20 hw; have n1_ := am_ (show IsT _ _ w0 w20 g gF cF gL cL gP cP (.slice AS yT.length cS) xF xL xP' yT xv from (by rw [hw]; exact IsT.cutS HI.out hj NT.out)); have n2_ := am_ (show Below w0.heap.size w0 w20 from (by rw [hw]; exact below_set HB.out HI.out.2.1)); clear hw HI HB hcz_0 hcz_1 hcz_2 hcz_3 hcz_4 hcz_5 hfz_4 hfz_5; have HI := n1_; have HB := n2_; clear n1_ n2_; obtain ⟨⟨hcz_0, hcz_1, hcz_2, hcz_3, hcz_4, hcz_5⟩, hfz_4, hfz_5⟩ := TJ_b6 HI.out.1))
          exact bodyPost_end (results_list (rs := []) rfl (by simp) .nil) rfl ⟨rfl, ⟨_, HI.out⟩, HB.out⟩
      ·rw [if_neg d2] at H2
       exact absurd H2 (by simp)
 ·rw [if_neg c1] at h
  exact absurd h (by simp)

/-- What impl.parts has made so far, in whatever order: two rows of zeros, a row of one -1, a row of -1s. -/
def MKs (n : Nat) (w0 w : World) (a b c d : Bool) (va vb vc vd : Value) : Prop :=
  Below w0.heap.size w0 w ∧ (a = true → (∃ k, va.ownBlock = some k) ∧ Kd.R (Kd.int .i64) 3 w w0.heap.size (fun _ => True) va (List.replicate n 0)) ∧ (b = true → (∃ k, vb.ownBlock = some k) ∧ Kd.R (Kd.int .i64) 3 w w0.heap.size (fun _ => True) vb (List.replicate n 0)) ∧
  (c = true → Kd.R (Kd.int .i64) 3 w w0.heap.size (fun _ => True) vc [-1]) ∧ (d = true → Kd.R (Kd.int .i64) 3 w w0.heap.size (fun _ => True) vd (List.replicate n (-1))) ∧
  (a = true → b = true → va.ownBlock ≠ vb.ownBlock) ∧ (a = true → d = true → va.ownBlock ≠ vd.ownBlock) ∧ (b = true → d = true → vb.ownBlock ≠ vd.ownBlock)
section
variable {n : Nat} {w0 w w1 : World} {a b c d : Bool} {va vb vc vd v : Value} {xs ys : List Int} {e : Nat}
theorem TJ_ne (h : Kd.R (Kd.int .i64) e w1 w.heap.size (fun _ => True) v xs) (k : Kd.R (Kd.int .i64) e w w0.heap.size (fun _ => True) va ys) (hv : ∃ b, v.ownBlock = some b) : v.ownBlock ≠ va.ownBlock := by
  obtain ⟨b, hb⟩ := hv
  intro h2
  have h3 := Kd.R_base h b hb
  have h4 := Kd.R_lt k b (by rw [← h2]; exact hb)
  omega
theorem TJ_ne2 (h : Kd.R (Kd.int .i64) e w1 w.heap.size (fun _ => True) v xs) (k : Kd.R (Kd.int .i64) e w w0.heap.size (fun _ => True) va ys) (hv : ∃ b, va.ownBlock = some b) : va.ownBlock ≠ v.ownBlock := by
  obtain ⟨b, hb⟩ := hv
  intro h2
  have h3 := Kd.R_base h b (by rw [← h2]; exact hb)
  have h4 := Kd.R_lt k b hb
  omega
theorem MKs.step (h : MKs n w0 w a b c d va vb vc vd) (hw : Below w.heap.size w w1) : MKs n w0 w1 a b c d va vb vc vd := by
  obtain ⟨h1, h2, h3, h4, h5, h6⟩ := h
  exact ⟨below_step h1 hw, fun k => ⟨(h2 k).1, Kd.R_below (h2 k).2 hw⟩, fun k => ⟨(h3 k).1, Kd.R_below (h3 k).2 hw⟩, fun k => Kd.R_below (h4 k) hw, fun k => Kd.R_below (h5 k) hw, h6⟩
theorem MKs.pa (h : MKs n w0 w false b c d va vb vc vd) (hw : Below w.heap.size w w1) (ho : Kd.R (Kd.int .i64) 3 w1 w.heap.size (fun _ => True) v (List.replicate n 0)) (hat : ∃ k, v.ownBlock = some k) : MKs n w0 w1 true b c d v vb vc vd := by
  have hs := h.step hw
  exact ⟨hs.1, fun _ => ⟨hat, Kd.R_lower ho (below_size h.1)⟩, hs.2.2.1, hs.2.2.2.1, hs.2.2.2.2.1, fun _ k => TJ_ne ho (h.2.2.1 k).2 hat, fun _ k => TJ_ne ho (h.2.2.2.2.1 k) hat, hs.2.2.2.2.2.2.2⟩
theorem MKs.pb (h : MKs n w0 w a false c d va vb vc vd) (hw : Below w.heap.size w w1) (ho : Kd.R (Kd.int .i64) 3 w1 w.heap.size (fun _ => True) v (List.replicate n 0)) (hat : ∃ k, v.ownBlock = some k) : MKs n w0 w1 a true c d va v vc vd := by
  have hs := h.step hw
  exact ⟨hs.1, hs.2.1, fun _ => ⟨hat, Kd.R_lower ho (below_size h.1)⟩, hs.2.2.2.1, hs.2.2.2.2.1, fun k _ => TJ_ne2 ho (h.2.1 k).2 (h.2.1 k).1, hs.2.2.2.2.2.2.1, fun _ k => TJ_ne ho (h.2.2.2.2.1 k) hat⟩
theorem MKs.pc (h : MKs n w0 w a b false d va vb vc vd) (hw : Below w.heap.size w w1) (ho : Kd.R (Kd.int .i64) 3 w1 w.heap.size (fun _ => True) v [-1]) : MKs n w0 w1 a b true d va vb v vd := by
  have hs := h.step hw
  exact ⟨hs.1, hs.2.1, hs.2.2.1, fun _ => Kd.R_lower ho (below_size h.1), hs.2.2.2.2⟩
theorem MKs.pd (h : MKs n w0 w a b c false va vb vc vd) (hw : Below w.heap.size w w1) (ho : Kd.R (Kd.int .i64) 3 w1 w.heap.size (fun _ => True) v (List.replicate n (-1))) : MKs n w0 w1 a b c true va vb vc v := by
  have hs := h.step hw
  exact ⟨hs.1, hs.2.1, hs.2.2.1, hs.2.2.2.1, fun _ => Kd.R_lower ho (below_size h.1), hs.2.2.2.2.2.1, fun k _ => TJ_ne2 ho (h.2.1 k).2 (h.2.1 k).1, fun k _ => TJ_ne2 ho (h.2.2.1 k).2 (h.2.2.1 k).1⟩
theorem TJ_at (h : Kd.R (Kd.int .i64) 3 w w0.heap.size (fun _ => True) v xs) (hv : (∃ k, v.ownBlock = some k) ∨ 0 < xs.length) : ∃ g c, v = .slice (some ⟨g, 0, none⟩) xs.length c := by
  obtain ⟨h1, ⟨e1, e2⟩ | ⟨g, cap, cur, e1, _⟩⟩ := Kd.own_of_R h
  · rcases hv with ⟨k, hk⟩ | hk
    · subst e1; simp [Value.ownBlock] at hk
    · omega
  · exact ⟨g, cap, e1⟩
theorem TJ_len1 {α : Type} (N : List α) : ((N.length : Int)).toNat = N.length := rfl
end
theorem TJ_sl {n e : Nat} {w w0 : World} {v : Value} {z : Int} (h : Kd.R (Kd.int .i64) e w w0.heap.size (fun _ => True) v (List.replicate n z)) : ∃ A c, v = .slice A n c := by
  obtain ⟨A, c, e⟩ := Kd.R_slice h
  rw [List.length_replicate] at e
  exact ⟨A, c, e⟩
theorem MKs.isT {n g : Nat} {w0 w : World} {nx vc : Value} {Aa Ab Ad : Option Addr} {ca cb cd : Nat} (h : MKs n w0 w true true true true (.slice Aa n ca) (.slice Ab n cb) vc (.slice Ad n cd)) (hb : w.heap[g]? = some (.cells #[nx, .slice Aa n ca, .slice Ab n cb, .slice Ad n cd, .slice none 0 0, .int .i64 0] 62 (0, 0))) (hg : w0.heap.size ≤ g) (hn : 0 < n) :
    ∃ gF gL gP, IsT nx n w0 w g gF ca gL cb gP cd (.slice none 0 0) (List.replicate n 0) (List.replicate n 0) (List.replicate n (-1)) [] 0 ∧ Aa = some ⟨gF, 0, none⟩ ∧ Ab = some ⟨gL, 0, none⟩ ∧ Ad = some ⟨gP, 0, none⟩ := by
  obtain ⟨_, h2, h3, _, h5, h6, h7, h8⟩ := h
  have ra := (h2 rfl).2
  have rb := (h3 rfl).2
  have rd := h5 rfl
  obtain ⟨gF, c1, e1⟩ := TJ_at ra (.inr (by simpa using hn))
  obtain ⟨gL, c2, e2⟩ := TJ_at rb (.inr (by simpa using hn))
  obtain ⟨gP, c3, e3⟩ := TJ_at rd (.inr (by simpa using hn))
  injection e1 with e1 _ _
  injection e2 with e2 _ _
  injection e3 with e3 _ _
  subst e1 e2 e3
  refine ⟨gF, gL, gP, ⟨hb, hg, ⟨?_, ?_, ?_⟩, ⟨by simp [Value.ownBlock], by simp [Value.ownBlock], by simp [Value.ownBlock]⟩, ra, rb, rd, Kd.R_nil _ _ _ _ _⟩, rfl, rfl, rfl⟩
  · intro e; exact h6 rfl rfl (by rw [e]; rfl)
  · intro e; exact h7 rfl rfl (by rw [e]; rfl)
  · intro e; exact h8 rfl rfl (by rw [e]; rfl)

def impl_parts.l0 : Nat → List (List Int) → Int → List Int → List Int → List Int → List Int → Int → Option (List Int)
 | 0, _, _, _, _, _, _, _ => none
 | k + 1, N, i, F, L, P, S, vis => if i < (N.length : Int) then (if 0 ≤ i then (if rd F i = 0 then (impl_visit.f k N i F L P S vis).bind fun t => impl_parts.l0 k N (wrap64 (i + 1)) t.1 t.2.1 t.2.2.1 t.2.2.2.1 t.2.2.2.2 else impl_parts.l0 k N (wrap64 (i + 1)) F L P S vis) else none) else some P
def impl_parts.f (k : Nat) (N : List (List Int)) : Option (List Int) := if N.length ≤ 1048576 then impl_parts.l0 k N 0 (List.replicate N.length 0) (List.replicate N.length 0) (List.replicate N.length (-1)) [] 0 else none
def impl_parts.T2 : Bool × List (List Nat × List Nat) := (true, [([], []), ([], []), ([1, 1], [1]), ([], []), ([3, 3], [3]), ([], []), ([], []), ([5, 6], [5, 6]), ([0, 2, 4, 7], [0, 2, 4, 7]), ([8], [8]), ([9, 7, 0, 1, 2, 3, 4, 5, 6, 7, 8, 9], [9])])
def impl_parts.B2 : List Nat := [0, 0, 2, 0, 8, 0, 0, 96, 255, 511, 1023]
theorem impl_parts.tab2 : rtab .any (opsOf Try.f30 2) = impl_parts.T2 := by kernel_rfl
theorem impl_parts.bits2 : waitsOk impl_parts.T2.2 impl_parts.B2 = true := by kernel_rfl
theorem impl_parts.calls (k : Nat) (A0 : Option Addr) (c0 : Nat) (N : List (List Int)) (r : List Int) (w : World) (hr0 : Kd.C (Kd.slice 3 (Kd.int .i64)) w A0 N.length N) (hc0 : N.length ≤ c0) (h : impl_parts.f k N = some r) :
    Calls Try.prog 30 #[.slice A0 N.length c0] w fun e w' => ∃ v0_ : Value, e = .returned (v0_) ∧ Kd.R (Kd.int .i64) 3 w' w.heap.size (fun _ => True) v0_ r ∧ Below w.heap.size w w' := by
 unfold impl_parts.f at h
 by_cases c1 : N.length ≤ 1048576
 ·skip
  rw [if_pos c1] at h
  have hu62 := Try.underlying62
  have HN := am_ hr0
  have HC := am_ hc0
  have LM := am_ c1
  have H' := am_ h
  have hrep : slices_Repeat_int_int.f ([-1] : List Int) (N.length : Int) = some (List.replicate N.length (-1)) := by
   unfold slices_Repeat_int_int.f
   rw [if_pos ⟨rfl, by omega, by omega⟩]
   rfl
  clear h c1 hr0 hc0
  go_enter Try.func30, Try.ntmps30
  go_wp2
  obtain ⟨va, ea⟩ : ∃ v : Value, v = undef := ⟨_, rfl⟩
  obtain ⟨vb, eb⟩ : ∃ v : Value, v = undef := ⟨_, rfl⟩
  obtain ⟨vc, ec⟩ : ∃ v : Value, v = undef := ⟨_, rfl⟩
  obtain ⟨vd, ed⟩ : ∃ v : Value, v = undef := ⟨_, rfl⟩
  have hM := am_ (show MKs N.length w w.drew false false false false va vb vc vd from ⟨below_drew1 (Below.refl _ _), by simp, by simp, by simp, by simp, by simp, by simp, by simp⟩)
  clear ea eb ec ed
  refine start_ (n := 11) (S := fun w' => True) (ds := []) (Sh.nm 11 0) (by kernel_rfl) rfl rfl trivial (fun hHeld => ?_)
  refine with_tabW impl_parts.tab2 impl_parts.bits2 (fun HT_ HW_ => ?_)
  refine Sh.qA 0 ?_; refine Sh.qA 1 ?_; refine Sh.qA 3 ?_; refine Sh.qA 6 ?_
  refine join_ (σ := Value × Value × Value × Value) 3 (Sh.nm 11 255) (fun s => [(10, s.1), (12, s.2.1), (13, s.2.2.1), (15, s.2.2.2)]) (fun s w' => MKs N.length w w' true true true true s.1 s.2.1 s.2.2.1 s.2.2.2) ?_ ?_
  rotate_left
  · intro hJ2_4_5_7
    refine join_ (σ := Value × Value × Value × Value) 4 (Sh.nm 11 127) (fun s => [(10, s.1), (12, s.2.1), (13, s.2.2.1)]) (fun s w' => MKs N.length w w' true true true false s.1 s.2.1 s.2.2.1 s.2.2.2) ?_ ?_
    rotate_left
    · intro hJ2_4_5
      refine join_ (σ := Value × Value × Value × Value) 4 (Sh.nm 11 239) (fun s => [(10, s.1), (13, s.2.2.1), (15, s.2.2.2)]) (fun s w' => MKs N.length w w' true false true true s.1 s.2.1 s.2.2.1 s.2.2.2) ?_ ?_
      rotate_left
      · intro hJ2_5_7
        refine join_ (σ := Value × Value × Value × Value) 4 (Sh.nm 11 251) (fun s => [(12, s.2.1), (13, s.2.2.1), (15, s.2.2.2)]) (fun s w' => MKs N.length w w' false true true true s.1 s.2.1 s.2.2.1 s.2.2.2) ?_ ?_
        rotate_left
        · intro hJ4_5_7
          refine join_ (σ := Value × Value × Value × Value) 5 (Sh.nm 11 95) (fun s => [(10, s.1), (12, s.2.1)]) (fun s w' => MKs N.length w w' true true false false s.1 s.2.1 s.2.2.1 s.2.2.2) ?_ ?_
          rotate_left
          · intro hJ2_4
            refine join_ (σ := Value × Value × Value × Value) 5 (Sh.nm 11 111) (fun s => [(10, s.1), (13, s.2.2.1)]) (fun s w' => MKs N.length w w' true false true false s.1 s.2.1 s.2.2.1 s.2.2.2) ?_ ?_
            rotate_left
            · intro hJ2_5
              refine join_ (σ := Value × Value × Value × Value) 5 (Sh.nm 11 123) (fun s => [(12, s.2.1), (13, s.2.2.1)]) (fun s w' => MKs N.length w w' false true true false s.1 s.2.1 s.2.2.1 s.2.2.2) ?_ ?_
              rotate_left
              · intro hJ4_5
                refine join_ (σ := Value × Value × Value × Value) 5 (Sh.nm 11 235) (fun s => [(13, s.2.2.1), (15, s.2.2.2)]) (fun s w' => MKs N.length w w' false false true true s.1 s.2.1 s.2.2.1 s.2.2.2) ?_ ?_
                rotate_left
                · intro hJ5_7
                  refine join_ (σ := Value × Value × Value × Value) 6 (Sh.nm 11 79) (fun s => [(10, s.1)]) (fun s w' => MKs N.length w w' true false false false s.1 s.2.1 s.2.2.1 s.2.2.2) ?_ ?_
                  rotate_left
                  · intro hJ2
                    refine join_ (σ := Value × Value × Value × Value) 6 (Sh.nm 11 91) (fun s => [(12, s.2.1)]) (fun s w' => MKs N.length w w' false true false false s.1 s.2.1 s.2.2.1 s.2.2.2) ?_ ?_
                    rotate_left
                    · intro hJ4
                      refine join_ (σ := Value × Value × Value × Value) 6 (Sh.nm 11 107) (fun s => [(13, s.2.2.1)]) (fun s w' => MKs N.length w w' false false true false s.1 s.2.1 s.2.2.1 s.2.2.2) ?_ ?_
                      rotate_left
                      · intro hJ5
                        refine three_ (i := 2) (j := 4) (k := 5) (Ni := some 10) (Nj := some 12) (Nk := some 13) (Sh.nm 11 79) (Sh.nm 11 91) (Sh.nm 11 107) rfl rfl rfl rfl rfl rfl (three_of HT_.out (by kernel_rfl)) (by decide) (by decide) (by decide) (fun K hK => ?_) (fun K hK => ?_) (fun K hK => ?_)
                        · skip
                          refine Kd.R_make_step (Kd.int .i64) _ 3 (by rfl) rfl 26 _ _ rfl (N.length : Int) (by rfl) (by rfl) Try.underlying26 (.int .i64 0) 8 info3 rfl (by decide) (by omega) 0 (ok := fun _ => True) (okp := fun _ => True) rfl (fun _ hk => hk) trivial (by omega) (by have := LM.out; omega) (Below.refl _ _) (Nat.le_refl _) ?_
                          intro v1 w1 ho hb _ hat
                          obtain ⟨b1, hat1, _⟩ := hat
                          rw [TJ_len1] at ho
                          have hM2 := am_ (MKs.pa hM.out hb ho ⟨b1, hat1⟩)
                          clear ho hb hat1 hM
                          refine hK.out _ _ trivial (fun hHeld => ?_)
                          clear hK K
                          refine norm_ (a' := ?_) ?_ ?_
                          rotate_left
                          · show Act.put _ (some 10) _ = _
                            simp only [Act.put, List.setIfInBounds_toArray, List.set_cons_zero, List.set_cons_succ, i64_w, i32_w]
                            rfl
                          exact norm_ (by first | (simp only [putAll, Act.put, List.setIfInBounds_toArray, List.set_cons_zero, List.set_cons_succ]; done) | (simp only [putAll, Act.put, List.setIfInBounds_toArray, List.set_cons_zero, List.set_cons_succ]; rfl)) (hJ2 (v1, vb, vc, vd) _ hM2.out)
                        · skip
                          refine Kd.R_make_step (Kd.int .i64) _ 3 (by rfl) rfl 26 _ _ rfl (N.length : Int) (by rfl) (by rfl) Try.underlying26 (.int .i64 0) 8 info3 rfl (by decide) (by omega) 0 (ok := fun _ => True) (okp := fun _ => True) rfl (fun _ hk => hk) trivial (by omega) (by have := LM.out; omega) (Below.refl _ _) (Nat.le_refl _) ?_
                          intro v1 w1 ho hb _ hat
                          obtain ⟨b1, hat1, _⟩ := hat
                          rw [TJ_len1] at ho
                          have hM2 := am_ (MKs.pb hM.out hb ho ⟨b1, hat1⟩)
                          clear ho hb hat1 hM
                          refine hK.out _ _ trivial (fun hHeld => ?_)
                          clear hK K
                          refine norm_ (a' := ?_) ?_ ?_
                          rotate_left
                          · show Act.put _ (some 12) _ = _
                            simp only [Act.put, List.setIfInBounds_toArray, List.set_cons_zero, List.set_cons_succ, i64_w, i32_w]
                            rfl
                          exact norm_ (by first | (simp only [putAll, Act.put, List.setIfInBounds_toArray, List.set_cons_zero, List.set_cons_succ]; done) | (simp only [putAll, Act.put, List.setIfInBounds_toArray, List.set_cons_zero, List.set_cons_succ]; rfl)) (hJ4 (va, v1, vc, vd) _ hM2.out)
                        · skip
                          refine Kd.R_lit_step (Kd.int .i64) _ 3 (by rfl) rfl (xs := ([-1] : List Int)) (inner := [.int .i64 (-1)]) (ok := fun _ => True) (okp := fun _ => True) (by first | (go_simp; done) | (go_simp; rfl)) (Reps.one (show Kd.M (Kd.int .i64) _ _ _ (-1) [.int .i64 (-1)] from rfl) (Reps.none _ _)) (fun _ hk => hk) trivial (Below.refl _ _) (Nat.le_refl _) (by simp) ?_
                          intro v1 w1 ho hb _ _
                          have hM2 := am_ (MKs.pc hM.out hb ho)
                          clear ho hb hM
                          refine hK.out _ _ trivial (fun hHeld => ?_)
                          clear hK K
                          refine norm_ (a' := ?_) ?_ ?_
                          rotate_left
                          · show Act.put _ (some 13) _ = _
                            simp only [Act.put, List.setIfInBounds_toArray, List.set_cons_zero, List.set_cons_succ, i64_w, i32_w]
                            rfl
                          exact norm_ (by first | (simp only [putAll, Act.put, List.setIfInBounds_toArray, List.set_cons_zero, List.set_cons_succ]; done) | (simp only [putAll, Act.put, List.setIfInBounds_toArray, List.set_cons_zero, List.set_cons_succ]; rfl)) (hJ5 (va, vb, v1, vd) _ hM2.out)
                      · skip
                        rintro ⟨va, vb, vc, vd⟩ w' hM
                        have hHeld : True := trivial
                        dsimp only at hM
                        replace hM := am_ hM
                        refine norm_ (a' := ?_) ?_ ?_
                        rotate_left
                        · simp only [putAll, Act.put, List.setIfInBounds_toArray, List.set_cons_zero, List.set_cons_succ]
                          rfl
                        refine three_ (i := 2) (j := 4) (k := 7) (Ni := some 10) (Nj := some 12) (Nk := some 15) (Sh.nm 11 111) (Sh.nm 11 123) (Sh.nm 11 235) rfl rfl rfl rfl rfl rfl (three_of HT_.out (by kernel_rfl)) (by decide) (by decide) (by decide) (fun K hK => ?_) (fun K hK => ?_) (fun K hK => ?_)
                        · skip
                          refine Kd.R_make_step (Kd.int .i64) _ 3 (by rfl) rfl 26 _ _ rfl (N.length : Int) (by rfl) (by rfl) Try.underlying26 (.int .i64 0) 8 info3 rfl (by decide) (by omega) 0 (ok := fun _ => True) (okp := fun _ => True) rfl (fun _ hk => hk) trivial (by omega) (by have := LM.out; omega) (Below.refl _ _) (Nat.le_refl _) ?_
                          intro v1 w1 ho hb _ hat
                          obtain ⟨b1, hat1, _⟩ := hat
                          rw [TJ_len1] at ho
                          have hM2 := am_ (MKs.pa hM.out hb ho ⟨b1, hat1⟩)
                          clear ho hb hat1 hM
                          refine hK.out _ _ trivial (fun hHeld => ?_)
                          clear hK K
                          refine norm_ (a' := ?_) ?_ ?_
                          rotate_left
                          · show Act.put _ (some 10) _ = _
                            simp only [Act.put, List.setIfInBounds_toArray, List.set_cons_zero, List.set_cons_succ, i64_w, i32_w]
                            rfl
                          exact norm_ (by first | (simp only [putAll, Act.put, List.setIfInBounds_toArray, List.set_cons_zero, List.set_cons_succ]; done) | (simp only [putAll, Act.put, List.setIfInBounds_toArray, List.set_cons_zero, List.set_cons_succ]; rfl)) (hJ2_5 (v1, vb, vc, vd) _ hM2.out)
                        · skip
                          refine Kd.R_make_step (Kd.int .i64) _ 3 (by rfl) rfl 26 _ _ rfl (N.length : Int) (by rfl) (by rfl) Try.underlying26 (.int .i64 0) 8 info3 rfl (by decide) (by omega) 0 (ok := fun _ => True) (okp := fun _ => True) rfl (fun _ hk => hk) trivial (by omega) (by have := LM.out; omega) (Below.refl _ _) (Nat.le_refl _) ?_
                          intro v1 w1 ho hb _ hat
                          obtain ⟨b1, hat1, _⟩ := hat
                          rw [TJ_len1] at ho
                          have hM2 := am_ (MKs.pb hM.out hb ho ⟨b1, hat1⟩)
                          clear ho hb hat1 hM
                          refine hK.out _ _ trivial (fun hHeld => ?_)
                          clear hK K
                          refine norm_ (a' := ?_) ?_ ?_
                          rotate_left
                          · show Act.put _ (some 12) _ = _
                            simp only [Act.put, List.setIfInBounds_toArray, List.set_cons_zero, List.set_cons_succ, i64_w, i32_w]
                            rfl
                          exact norm_ (by first | (simp only [putAll, Act.put, List.setIfInBounds_toArray, List.set_cons_zero, List.set_cons_succ]; done) | (simp only [putAll, Act.put, List.setIfInBounds_toArray, List.set_cons_zero, List.set_cons_succ]; rfl)) (hJ4_5 (va, v1, vc, vd) _ hM2.out)
                        · skip
                          have hC := hM.out.2.2.2.1 rfl
                          obtain ⟨A5, c5, e5⟩ := Kd.R_slice hC
                          subst e5
                          refine goes_ Try.func32 (by kernel_rfl) rfl #[.slice A5 ([-1] : List Int).length c5, .int .i64 (N.length : Int)] (by rfl) rfl rfl (by simp only [List.map_toArray, List.map_cons, List.map_nil]; rfl) ?_
                          with_reducible refine (slices_Repeat_int_int.calls _ _ _ _ (List.replicate N.length (-1)) _ (Kd.R_reads' hC).2.2 (Kd.R_reads' hC).2.1 hrep).mono ?_
                          rintro e w1 ⟨v1, rfl, ho, hb⟩
                          refine ⟨_, rfl, ?_⟩
                          have hM2 := am_ (MKs.pd hM.out hb ho)
                          clear ho hb hM hC
                          refine hK.out _ _ trivial (fun hHeld => ?_)
                          clear hK K
                          refine norm_ (a' := ?_) ?_ ?_
                          rotate_left
                          · show Act.put _ (some 15) _ = _
                            simp only [Act.put, List.setIfInBounds_toArray, List.set_cons_zero, List.set_cons_succ, i64_w, i32_w]
                            rfl
                          exact norm_ (by first | (simp only [putAll, Act.put, List.setIfInBounds_toArray, List.set_cons_zero, List.set_cons_succ]; done) | (simp only [putAll, Act.put, List.setIfInBounds_toArray, List.set_cons_zero, List.set_cons_succ]; rfl)) (hJ5_7 (va, vb, (.slice A5 ([-1] : List Int).length c5), v1) _ hM2.out)
                    · skip
                      rintro ⟨va, vb, vc, vd⟩ w' hM
                      have hHeld : True := trivial
                      dsimp only at hM
                      replace hM := am_ hM
                      refine norm_ (a' := ?_) ?_ ?_
                      rotate_left
                      · simp only [putAll, Act.put, List.setIfInBounds_toArray, List.set_cons_zero, List.set_cons_succ]
                        rfl
                      refine two_ (i := 2) (j := 5) (Ni := some 10) (Nj := some 13) (Sh.nm 11 95) (Sh.nm 11 123) rfl rfl rfl rfl (two_of HT_.out (by kernel_rfl)) (by decide) (by decide) (fun K hK => ?_) (fun K hK => ?_)
                      · skip
                        refine Kd.R_make_step (Kd.int .i64) _ 3 (by rfl) rfl 26 _ _ rfl (N.length : Int) (by rfl) (by rfl) Try.underlying26 (.int .i64 0) 8 info3 rfl (by decide) (by omega) 0 (ok := fun _ => True) (okp := fun _ => True) rfl (fun _ hk => hk) trivial (by omega) (by have := LM.out; omega) (Below.refl _ _) (Nat.le_refl _) ?_
                        intro v1 w1 ho hb _ hat
                        obtain ⟨b1, hat1, _⟩ := hat
                        rw [TJ_len1] at ho
                        have hM2 := am_ (MKs.pa hM.out hb ho ⟨b1, hat1⟩)
                        clear ho hb hat1 hM
                        refine hK.out _ _ trivial (fun hHeld => ?_)
                        clear hK K
                        refine norm_ (a' := ?_) ?_ ?_
                        rotate_left
                        · show Act.put _ (some 10) _ = _
                          simp only [Act.put, List.setIfInBounds_toArray, List.set_cons_zero, List.set_cons_succ, i64_w, i32_w]
                          rfl
                        exact norm_ (by first | (simp only [putAll, Act.put, List.setIfInBounds_toArray, List.set_cons_zero, List.set_cons_succ]; done) | (simp only [putAll, Act.put, List.setIfInBounds_toArray, List.set_cons_zero, List.set_cons_succ]; rfl)) (hJ2_4 (v1, vb, vc, vd) _ hM2.out)
                      · skip
                        refine Kd.R_lit_step (Kd.int .i64) _ 3 (by rfl) rfl (xs := ([-1] : List Int)) (inner := [.int .i64 (-1)]) (ok := fun _ => True) (okp := fun _ => True) (by first | (go_simp; done) | (go_simp; rfl)) (Reps.one (show Kd.M (Kd.int .i64) _ _ _ (-1) [.int .i64 (-1)] from rfl) (Reps.none _ _)) (fun _ hk => hk) trivial (Below.refl _ _) (Nat.le_refl _) (by simp) ?_
                        intro v1 w1 ho hb _ _
                        have hM2 := am_ (MKs.pc hM.out hb ho)
                        clear ho hb hM
                        refine hK.out _ _ trivial (fun hHeld => ?_)
                        clear hK K
                        refine norm_ (a' := ?_) ?_ ?_
                        rotate_left
                        · show Act.put _ (some 13) _ = _
                          simp only [Act.put, List.setIfInBounds_toArray, List.set_cons_zero, List.set_cons_succ, i64_w, i32_w]
                          rfl
                        exact norm_ (by first | (simp only [putAll, Act.put, List.setIfInBounds_toArray, List.set_cons_zero, List.set_cons_succ]; done) | (simp only [putAll, Act.put, List.setIfInBounds_toArray, List.set_cons_zero, List.set_cons_succ]; rfl)) (hJ4_5 (va, vb, v1, vd) _ hM2.out)
                  · skip
                    rintro ⟨va, vb, vc, vd⟩ w' hM
                    have hHeld : True := trivial
                    dsimp only at hM
                    replace hM := am_ hM
                    refine norm_ (a' := ?_) ?_ ?_
                    rotate_left
                    · simp only [putAll, Act.put, List.setIfInBounds_toArray, List.set_cons_zero, List.set_cons_succ]
                      rfl
                    refine two_ (i := 4) (j := 5) (Ni := some 12) (Nj := some 13) (Sh.nm 11 95) (Sh.nm 11 111) rfl rfl rfl rfl (two_of HT_.out (by kernel_rfl)) (by decide) (by decide) (fun K hK => ?_) (fun K hK => ?_)
                    · skip
                      refine Kd.R_make_step (Kd.int .i64) _ 3 (by rfl) rfl 26 _ _ rfl (N.length : Int) (by rfl) (by rfl) Try.underlying26 (.int .i64 0) 8 info3 rfl (by decide) (by omega) 0 (ok := fun _ => True) (okp := fun _ => True) rfl (fun _ hk => hk) trivial (by omega) (by have := LM.out; omega) (Below.refl _ _) (Nat.le_refl _) ?_
                      intro v1 w1 ho hb _ hat
                      obtain ⟨b1, hat1, _⟩ := hat
                      rw [TJ_len1] at ho
                      have hM2 := am_ (MKs.pb hM.out hb ho ⟨b1, hat1⟩)
                      clear ho hb hat1 hM
                      refine hK.out _ _ trivial (fun hHeld => ?_)
                      clear hK K
                      refine norm_ (a' := ?_) ?_ ?_
                      rotate_left
                      · show Act.put _ (some 12) _ = _
                        simp only [Act.put, List.setIfInBounds_toArray, List.set_cons_zero, List.set_cons_succ, i64_w, i32_w]
                        rfl
                      exact norm_ (by first | (simp only [putAll, Act.put, List.setIfInBounds_toArray, List.set_cons_zero, List.set_cons_succ]; done) | (simp only [putAll, Act.put, List.setIfInBounds_toArray, List.set_cons_zero, List.set_cons_succ]; rfl)) (hJ2_4 (va, v1, vc, vd) _ hM2.out)
                    · skip
                      refine Kd.R_lit_step (Kd.int .i64) _ 3 (by rfl) rfl (xs := ([-1] : List Int)) (inner := [.int .i64 (-1)]) (ok := fun _ => True) (okp := fun _ => True) (by first | (go_simp; done) | (go_simp; rfl)) (Reps.one (show Kd.M (Kd.int .i64) _ _ _ (-1) [.int .i64 (-1)] from rfl) (Reps.none _ _)) (fun _ hk => hk) trivial (Below.refl _ _) (Nat.le_refl _) (by simp) ?_
                      intro v1 w1 ho hb _ _
                      have hM2 := am_ (MKs.pc hM.out hb ho)
                      clear ho hb hM
                      refine hK.out _ _ trivial (fun hHeld => ?_)
                      clear hK K
                      refine norm_ (a' := ?_) ?_ ?_
                      rotate_left
                      · show Act.put _ (some 13) _ = _
                        simp only [Act.put, List.setIfInBounds_toArray, List.set_cons_zero, List.set_cons_succ, i64_w, i32_w]
                        rfl
                      exact norm_ (by first | (simp only [putAll, Act.put, List.setIfInBounds_toArray, List.set_cons_zero, List.set_cons_succ]; done) | (simp only [putAll, Act.put, List.setIfInBounds_toArray, List.set_cons_zero, List.set_cons_succ]; rfl)) (hJ2_5 (va, vb, v1, vd) _ hM2.out)
                · skip
                  rintro ⟨va, vb, vc, vd⟩ w' hM
                  have hHeld : True := trivial
                  dsimp only at hM
                  replace hM := am_ hM
                  refine norm_ (a' := ?_) ?_ ?_
                  rotate_left
                  · simp only [putAll, Act.put, List.setIfInBounds_toArray, List.set_cons_zero, List.set_cons_succ]
                    rfl
                  refine two_ (i := 2) (j := 4) (Ni := some 10) (Nj := some 12) (Sh.nm 11 239) (Sh.nm 11 251) rfl rfl rfl rfl (two_of HT_.out (by kernel_rfl)) (by decide) (by decide) (fun K hK => ?_) (fun K hK => ?_)
                  · skip
                    refine Kd.R_make_step (Kd.int .i64) _ 3 (by rfl) rfl 26 _ _ rfl (N.length : Int) (by rfl) (by rfl) Try.underlying26 (.int .i64 0) 8 info3 rfl (by decide) (by omega) 0 (ok := fun _ => True) (okp := fun _ => True) rfl (fun _ hk => hk) trivial (by omega) (by have := LM.out; omega) (Below.refl _ _) (Nat.le_refl _) ?_
                    intro v1 w1 ho hb _ hat
                    obtain ⟨b1, hat1, _⟩ := hat
                    rw [TJ_len1] at ho
                    have hM2 := am_ (MKs.pa hM.out hb ho ⟨b1, hat1⟩)
                    clear ho hb hat1 hM
                    refine hK.out _ _ trivial (fun hHeld => ?_)
                    clear hK K
                    refine norm_ (a' := ?_) ?_ ?_
                    rotate_left
                    · show Act.put _ (some 10) _ = _
                      simp only [Act.put, List.setIfInBounds_toArray, List.set_cons_zero, List.set_cons_succ, i64_w, i32_w]
                      rfl
                    exact norm_ (by first | (simp only [putAll, Act.put, List.setIfInBounds_toArray, List.set_cons_zero, List.set_cons_succ]; done) | (simp only [putAll, Act.put, List.setIfInBounds_toArray, List.set_cons_zero, List.set_cons_succ]; rfl)) (hJ2_5_7 (v1, vb, vc, vd) _ hM2.out)
                  · skip
                    refine Kd.R_make_step (Kd.int .i64) _ 3 (by rfl) rfl 26 _ _ rfl (N.length : Int) (by rfl) (by rfl) Try.underlying26 (.int .i64 0) 8 info3 rfl (by decide) (by omega) 0 (ok := fun _ => True) (okp := fun _ => True) rfl (fun _ hk => hk) trivial (by omega) (by have := LM.out; omega) (Below.refl _ _) (Nat.le_refl _) ?_
                    intro v1 w1 ho hb _ hat
                    obtain ⟨b1, hat1, _⟩ := hat
                    rw [TJ_len1] at ho
                    have hM2 := am_ (MKs.pb hM.out hb ho ⟨b1, hat1⟩)
                    clear ho hb hat1 hM
                    refine hK.out _ _ trivial (fun hHeld => ?_)
                    clear hK K
                    refine norm_ (a' := ?_) ?_ ?_
                    rotate_left
                    · show Act.put _ (some 12) _ = _
                      simp only [Act.put, List.setIfInBounds_toArray, List.set_cons_zero, List.set_cons_succ, i64_w, i32_w]
                      rfl
                    exact norm_ (by first | (simp only [putAll, Act.put, List.setIfInBounds_toArray, List.set_cons_zero, List.set_cons_succ]; done) | (simp only [putAll, Act.put, List.setIfInBounds_toArray, List.set_cons_zero, List.set_cons_succ]; rfl)) (hJ4_5_7 (va, v1, vc, vd) _ hM2.out)
              · skip
                rintro ⟨va, vb, vc, vd⟩ w' hM
                have hHeld : True := trivial
                dsimp only at hM
                replace hM := am_ hM
                refine norm_ (a' := ?_) ?_ ?_
                rotate_left
                · simp only [putAll, Act.put, List.setIfInBounds_toArray, List.set_cons_zero, List.set_cons_succ]
                  rfl
                refine two_ (i := 2) (j := 7) (Ni := some 10) (Nj := some 15) (Sh.nm 11 127) (Sh.nm 11 251) rfl rfl rfl rfl (two_of HT_.out (by kernel_rfl)) (by decide) (by decide) (fun K hK => ?_) (fun K hK => ?_)
                · skip
                  refine Kd.R_make_step (Kd.int .i64) _ 3 (by rfl) rfl 26 _ _ rfl (N.length : Int) (by rfl) (by rfl) Try.underlying26 (.int .i64 0) 8 info3 rfl (by decide) (by omega) 0 (ok := fun _ => True) (okp := fun _ => True) rfl (fun _ hk => hk) trivial (by omega) (by have := LM.out; omega) (Below.refl _ _) (Nat.le_refl _) ?_
                  intro v1 w1 ho hb _ hat
                  obtain ⟨b1, hat1, _⟩ := hat
                  rw [TJ_len1] at ho
                  have hM2 := am_ (MKs.pa hM.out hb ho ⟨b1, hat1⟩)
                  clear ho hb hat1 hM
                  refine hK.out _ _ trivial (fun hHeld => ?_)
                  clear hK K
                  refine norm_ (a' := ?_) ?_ ?_
                  rotate_left
                  · show Act.put _ (some 10) _ = _
                    simp only [Act.put, List.setIfInBounds_toArray, List.set_cons_zero, List.set_cons_succ, i64_w, i32_w]
                    rfl
                  exact norm_ (by first | (simp only [putAll, Act.put, List.setIfInBounds_toArray, List.set_cons_zero, List.set_cons_succ]; done) | (simp only [putAll, Act.put, List.setIfInBounds_toArray, List.set_cons_zero, List.set_cons_succ]; rfl)) (hJ2_4_5 (v1, vb, vc, vd) _ hM2.out)
                · skip
                  have hC := hM.out.2.2.2.1 rfl
                  obtain ⟨A5, c5, e5⟩ := Kd.R_slice hC
                  subst e5
                  refine goes_ Try.func32 (by kernel_rfl) rfl #[.slice A5 ([-1] : List Int).length c5, .int .i64 (N.length : Int)] (by rfl) rfl rfl (by simp only [List.map_toArray, List.map_cons, List.map_nil]; rfl) ?_
                  with_reducible refine (slices_Repeat_int_int.calls _ _ _ _ (List.replicate N.length (-1)) _ (Kd.R_reads' hC).2.2 (Kd.R_reads' hC).2.1 hrep).mono ?_
                  rintro e w1 ⟨v1, rfl, ho, hb⟩
                  refine ⟨_, rfl, ?_⟩
                  have hM2 := am_ (MKs.pd hM.out hb ho)
                  clear ho hb hM hC
                  refine hK.out _ _ trivial (fun hHeld => ?_)
                  clear hK K
                  refine norm_ (a' := ?_) ?_ ?_
                  rotate_left
                  · show Act.put _ (some 15) _ = _
                    simp only [Act.put, List.setIfInBounds_toArray, List.set_cons_zero, List.set_cons_succ, i64_w, i32_w]
                    rfl
                  exact norm_ (by first | (simp only [putAll, Act.put, List.setIfInBounds_toArray, List.set_cons_zero, List.set_cons_succ]; done) | (simp only [putAll, Act.put, List.setIfInBounds_toArray, List.set_cons_zero, List.set_cons_succ]; rfl)) (hJ4_5_7 (va, vb, (.slice A5 ([-1] : List Int).length c5), v1) _ hM2.out)
            · skip
              rintro ⟨va, vb, vc, vd⟩ w' hM
              have hHeld : True := trivial
              dsimp only at hM
              replace hM := am_ hM
              refine norm_ (a' := ?_) ?_ ?_
              rotate_left
              · simp only [putAll, Act.put, List.setIfInBounds_toArray, List.set_cons_zero, List.set_cons_succ]
                rfl
              refine two_ (i := 4) (j := 7) (Ni := some 12) (Nj := some 15) (Sh.nm 11 127) (Sh.nm 11 239) rfl rfl rfl rfl (two_of HT_.out (by kernel_rfl)) (by decide) (by decide) (fun K hK => ?_) (fun K hK => ?_)
              · skip
                refine Kd.R_make_step (Kd.int .i64) _ 3 (by rfl) rfl 26 _ _ rfl (N.length : Int) (by rfl) (by rfl) Try.underlying26 (.int .i64 0) 8 info3 rfl (by decide) (by omega) 0 (ok := fun _ => True) (okp := fun _ => True) rfl (fun _ hk => hk) trivial (by omega) (by have := LM.out; omega) (Below.refl _ _) (Nat.le_refl _) ?_
                intro v1 w1 ho hb _ hat
                obtain ⟨b1, hat1, _⟩ := hat
                rw [TJ_len1] at ho
                have hM2 := am_ (MKs.pb hM.out hb ho ⟨b1, hat1⟩)
                clear ho hb hat1 hM
                refine hK.out _ _ trivial (fun hHeld => ?_)
                clear hK K
                refine norm_ (a' := ?_) ?_ ?_
                rotate_left
                · show Act.put _ (some 12) _ = _
                  simp only [Act.put, List.setIfInBounds_toArray, List.set_cons_zero, List.set_cons_succ, i64_w, i32_w]
                  rfl
                exact norm_ (by first | (simp only [putAll, Act.put, List.setIfInBounds_toArray, List.set_cons_zero, List.set_cons_succ]; done) | (simp only [putAll, Act.put, List.setIfInBounds_toArray, List.set_cons_zero, List.set_cons_succ]; rfl)) (hJ2_4_5 (va, v1, vc, vd) _ hM2.out)
              · skip
                have hC := hM.out.2.2.2.1 rfl
                obtain ⟨A5, c5, e5⟩ := Kd.R_slice hC
                subst e5
                refine goes_ Try.func32 (by kernel_rfl) rfl #[.slice A5 ([-1] : List Int).length c5, .int .i64 (N.length : Int)] (by rfl) rfl rfl (by simp only [List.map_toArray, List.map_cons, List.map_nil]; rfl) ?_
                with_reducible refine (slices_Repeat_int_int.calls _ _ _ _ (List.replicate N.length (-1)) _ (Kd.R_reads' hC).2.2 (Kd.R_reads' hC).2.1 hrep).mono ?_
                rintro e w1 ⟨v1, rfl, ho, hb⟩
                refine ⟨_, rfl, ?_⟩
                have hM2 := am_ (MKs.pd hM.out hb ho)
                clear ho hb hM hC
                refine hK.out _ _ trivial (fun hHeld => ?_)
                clear hK K
                refine norm_ (a' := ?_) ?_ ?_
                rotate_left
                · show Act.put _ (some 15) _ = _
                  simp only [Act.put, List.setIfInBounds_toArray, List.set_cons_zero, List.set_cons_succ, i64_w, i32_w]
                  rfl
                exact norm_ (by first | (simp only [putAll, Act.put, List.setIfInBounds_toArray, List.set_cons_zero, List.set_cons_succ]; done) | (simp only [putAll, Act.put, List.setIfInBounds_toArray, List.set_cons_zero, List.set_cons_succ]; rfl)) (hJ2_5_7 (va, vb, (.slice A5 ([-1] : List Int).length c5), v1) _ hM2.out)
          · skip
            rintro ⟨va, vb, vc, vd⟩ w' hM
            have hHeld : True := trivial
            dsimp only at hM
            replace hM := am_ hM
            refine norm_ (a' := ?_) ?_ ?_
            rotate_left
            · simp only [putAll, Act.put, List.setIfInBounds_toArray, List.set_cons_zero, List.set_cons_succ]
              rfl
            refine one_ (i := 5) (N := some 13) (Sh.nm 11 127) rfl rfl (one_of HT_.out (by kernel_rfl)) (by decide) (fun K hK => ?_)
            refine Kd.R_lit_step (Kd.int .i64) _ 3 (by rfl) rfl (xs := ([-1] : List Int)) (inner := [.int .i64 (-1)]) (ok := fun _ => True) (okp := fun _ => True) (by first | (go_simp; done) | (go_simp; rfl)) (Reps.one (show Kd.M (Kd.int .i64) _ _ _ (-1) [.int .i64 (-1)] from rfl) (Reps.none _ _)) (fun _ hk => hk) trivial (Below.refl _ _) (Nat.le_refl _) (by simp) ?_
            intro v1 w1 ho hb _ _
            have hM2 := am_ (MKs.pc hM.out hb ho)
            clear ho hb hM
            refine hK.out _ _ trivial (fun hHeld => ?_)
            clear hK K
            refine norm_ (a' := ?_) ?_ ?_
            rotate_left
            · show Act.put _ (some 13) _ = _
              simp only [Act.put, List.setIfInBounds_toArray, List.set_cons_zero, List.set_cons_succ, i64_w, i32_w]
              rfl
            exact norm_ (by first | (simp only [putAll, Act.put, List.setIfInBounds_toArray, List.set_cons_zero, List.set_cons_succ]; done) | (simp only [putAll, Act.put, List.setIfInBounds_toArray, List.set_cons_zero, List.set_cons_succ]; rfl)) (hJ2_4_5 (va, vb, v1, vd) _ hM2.out)
        · skip
          rintro ⟨va, vb, vc, vd⟩ w' hM
          have hHeld : True := trivial
          dsimp only at hM
          replace hM := am_ hM
          refine norm_ (a' := ?_) ?_ ?_
          rotate_left
          · simp only [putAll, Act.put, List.setIfInBounds_toArray, List.set_cons_zero, List.set_cons_succ]
            rfl
          refine one_ (i := 2) (N := some 10) (Sh.nm 11 255) rfl rfl (one_of HT_.out (by kernel_rfl)) (by decide) (fun K hK => ?_)
          refine Kd.R_make_step (Kd.int .i64) _ 3 (by rfl) rfl 26 _ _ rfl (N.length : Int) (by rfl) (by rfl) Try.underlying26 (.int .i64 0) 8 info3 rfl (by decide) (by omega) 0 (ok := fun _ => True) (okp := fun _ => True) rfl (fun _ hk => hk) trivial (by omega) (by have := LM.out; omega) (Below.refl _ _) (Nat.le_refl _) ?_
          intro v1 w1 ho hb _ hat
          obtain ⟨b1, hat1, _⟩ := hat
          rw [TJ_len1] at ho
          have hM2 := am_ (MKs.pa hM.out hb ho ⟨b1, hat1⟩)
          clear ho hb hat1 hM
          refine hK.out _ _ trivial (fun hHeld => ?_)
          clear hK K
          refine norm_ (a' := ?_) ?_ ?_
          rotate_left
          · show Act.put _ (some 10) _ = _
            simp only [Act.put, List.setIfInBounds_toArray, List.set_cons_zero, List.set_cons_succ, i64_w, i32_w]
            rfl
          exact norm_ (by first | (simp only [putAll, Act.put, List.setIfInBounds_toArray, List.set_cons_zero, List.set_cons_succ]; done) | (simp only [putAll, Act.put, List.setIfInBounds_toArray, List.set_cons_zero, List.set_cons_succ]; rfl)) (hJ2_4_5_7 (v1, vb, vc, vd) _ hM2.out)
      · skip
        rintro ⟨va, vb, vc, vd⟩ w' hM
        have hHeld : True := trivial
        dsimp only at hM
        replace hM := am_ hM
        refine norm_ (a' := ?_) ?_ ?_
        rotate_left
        · simp only [putAll, Act.put, List.setIfInBounds_toArray, List.set_cons_zero, List.set_cons_succ]
          rfl
        refine one_ (i := 4) (N := some 12) (Sh.nm 11 255) rfl rfl (one_of HT_.out (by kernel_rfl)) (by decide) (fun K hK => ?_)
        refine Kd.R_make_step (Kd.int .i64) _ 3 (by rfl) rfl 26 _ _ rfl (N.length : Int) (by rfl) (by rfl) Try.underlying26 (.int .i64 0) 8 info3 rfl (by decide) (by omega) 0 (ok := fun _ => True) (okp := fun _ => True) rfl (fun _ hk => hk) trivial (by omega) (by have := LM.out; omega) (Below.refl _ _) (Nat.le_refl _) ?_
        intro v1 w1 ho hb _ hat
        obtain ⟨b1, hat1, _⟩ := hat
        rw [TJ_len1] at ho
        have hM2 := am_ (MKs.pb hM.out hb ho ⟨b1, hat1⟩)
        clear ho hb hat1 hM
        refine hK.out _ _ trivial (fun hHeld => ?_)
        clear hK K
        refine norm_ (a' := ?_) ?_ ?_
        rotate_left
        · show Act.put _ (some 12) _ = _
          simp only [Act.put, List.setIfInBounds_toArray, List.set_cons_zero, List.set_cons_succ, i64_w, i32_w]
          rfl
        exact norm_ (by first | (simp only [putAll, Act.put, List.setIfInBounds_toArray, List.set_cons_zero, List.set_cons_succ]; done) | (simp only [putAll, Act.put, List.setIfInBounds_toArray, List.set_cons_zero, List.set_cons_succ]; rfl)) (hJ2_4_5_7 (va, v1, vc, vd) _ hM2.out)
    · skip
      rintro ⟨va, vb, vc, vd⟩ w' hM
      have hHeld : True := trivial
      dsimp only at hM
      replace hM := am_ hM
      refine norm_ (a' := ?_) ?_ ?_
      rotate_left
      · simp only [putAll, Act.put, List.setIfInBounds_toArray, List.set_cons_zero, List.set_cons_succ]
        rfl
      refine one_ (i := 7) (N := some 15) (Sh.nm 11 255) rfl rfl (one_of HT_.out (by kernel_rfl)) (by decide) (fun K hK => ?_)
      have hC := hM.out.2.2.2.1 rfl
      obtain ⟨A5, c5, e5⟩ := Kd.R_slice hC
      subst e5
      refine goes_ Try.func32 (by kernel_rfl) rfl #[.slice A5 ([-1] : List Int).length c5, .int .i64 (N.length : Int)] (by rfl) rfl rfl (by simp only [List.map_toArray, List.map_cons, List.map_nil]; rfl) ?_
      with_reducible refine (slices_Repeat_int_int.calls _ _ _ _ (List.replicate N.length (-1)) _ (Kd.R_reads' hC).2.2 (Kd.R_reads' hC).2.1 hrep).mono ?_
      rintro e w1 ⟨v1, rfl, ho, hb⟩
      refine ⟨_, rfl, ?_⟩
      have hM2 := am_ (MKs.pd hM.out hb ho)
      clear ho hb hM hC
      refine hK.out _ _ trivial (fun hHeld => ?_)
      clear hK K
      refine norm_ (a' := ?_) ?_ ?_
      rotate_left
      · show Act.put _ (some 15) _ = _
        simp only [Act.put, List.setIfInBounds_toArray, List.set_cons_zero, List.set_cons_succ, i64_w, i32_w]
        rfl
      exact norm_ (by first | (simp only [putAll, Act.put, List.setIfInBounds_toArray, List.set_cons_zero, List.set_cons_succ]; done) | (simp only [putAll, Act.put, List.setIfInBounds_toArray, List.set_cons_zero, List.set_cons_succ]; rfl)) (hJ2_4_5_7 (va, vb, (.slice A5 ([-1] : List Int).length c5), v1) _ hM2.out)
  rintro ⟨va, vb, vc, vd⟩ w' hM
  have hHeld : True := trivial
  dsimp only at hM
  replace hM := am_ hM
  obtain ⟨Aa, ca, ea⟩ := TJ_sl (hM.out.2.1 rfl).2
  obtain ⟨Ab, cb, eb⟩ := TJ_sl (hM.out.2.2.1 rfl).2
  obtain ⟨Ad, cd, ed⟩ := TJ_sl (hM.out.2.2.2.2.1 rfl)
  subst ea eb ed
  refine norm_ (a' := ?_) ?_ ?_
  rotate_left
  · simp only [putAll, Act.put, List.setIfInBounds_toArray, List.set_cons_zero, List.set_cons_succ]
    rfl
  refine one_ (i := 8) (N := some 16) (Sh.nm 11 511) rfl rfl (one_of HT_.out (by kernel_rfl)) (by decide) (fun K hK => ?_)
  refine value_ (w1 := ?_) (v := ?_) (by rfl) rfl ?_ ?_
  rotate_left 2
  · go_simp
    constructor
    · rfl
    · rfl
  refine hK.out _ _ trivial (fun hHeld => ?_)
  clear hK K
  refine norm_ (a' := ?_) ?_ ?_
  rotate_left
  · show Act.put _ (some 16) _ = _
    simp only [Act.put, List.setIfInBounds_toArray, List.set_cons_zero, List.set_cons_succ, i64_w, i32_w]
    rfl
  refine one_ (i := 9) (N := some 17) (Sh.nm 11 1023) rfl rfl (one_of HT_.out (by kernel_rfl)) (by decide) (fun K hK => ?_)
  obtain ⟨g, hg⟩ : ∃ g, g = w'.heap.size := ⟨_, rfl⟩
  refine value_ (w1 := w'.alloc (.cells #[.slice A0 N.length c0, .slice Aa N.length ca, .slice Ab N.length cb, .slice Ad N.length cd, .slice none 0 0, .int .i64 0] 62 (0, 0))) (v := .pointer (some ⟨g, 0, none⟩)) (by rfl) rfl (by rw [hg]; first | (go_simp; done) | (go_simp; rfl)) ?_
  have hBK := am_ (heap_alloc_new w' (.cells #[.slice A0 N.length c0, .slice Aa N.length ca, .slice Ab N.length cb, .slice Ad N.length cd, .slice none 0 0, .int .i64 0] 62 (0, 0)))
  have hM3 := am_ (MKs.step hM.out (below_alloc (Below.refl _ _) (.cells #[.slice A0 N.length c0, .slice Aa N.length ca, .slice Ab N.length cb, .slice Ad N.length cd, .slice none 0 0, .int .i64 0] 62 (0, 0))))
  rw [← hg] at hBK
  have hGE := am_ (show w.heap.size ≤ g from by rw [hg]; exact below_size hM.out.1)
  clear hg hM
  generalize w'.alloc _ = w1 at hBK hM3 ⊢
  refine hK.out _ _ trivial (fun hHeld => ?_)
  clear hK K
  refine norm_ (a' := ?_) ?_ ?_
  rotate_left
  · show Act.put _ (some 17) _ = _
    simp only [Act.put, List.setIfInBounds_toArray, List.set_cons_zero, List.set_cons_succ, i64_w, i32_w]
    rfl
  refine Sh.qA 10 ?_
  refine done_ (done_of HT_.out (by kernel_rfl)) ?_
  clear hHeld
  by_cases c2 : 0 < N.length
  ·skip
   obtain ⟨gF, gL, gP, hI, e1, e2, e3⟩ := MKs.isT hM3.out hBK.out hGE.out c2
   subst e1 e2 e3
   have HI := am_ hI
   have HB := am_ hM3.out.1
   clear hI hM3 hBK hGE
   go_wp2
   go_loopg [20] k (fun kq v20 w' => ∃ (i : Int) (vS : Value) (xF xL xP xS : List Int) (xv : Int), v20 = .int .i64 i ∧ Aside0 (impl_parts.l0 kq N i xF xL xP xS xv = some r) ∧ Aside0 (kq ≤ k) ∧ Aside0 (IsT (.slice A0 N.length c0) N.length w w' g gF ca gL cb gP cd vS xF xL xP xS xv) ∧ Aside0 (Below w.heap.size w w'))
   case atStart => exact ⟨0, _, _, _, _, _, _, rfl, H', ⟨Nat.le_refl _⟩, IsT.am HI, ⟨Sh.bw⟩⟩
   case round =>
    clear H' HI HB
    obtain ⟨i, vS, xF, xL, xP, xS, xv, rfl, HA, HK1, HI, HB⟩ := hrel
    cases gk with
    | zero => exact absurd HA.out (by simp [impl_parts.l0])
    | succ k1 =>
     have H := HA.out
     clear HA
     simp only [impl_parts.l0] at H
     obtain ⟨⟨hcz_0, hcz_1, hcz_2, hcz_3, hcz_4, hcz_5⟩, hfz_4, hfz_5⟩ := TJ_b6 HI.out.1
     by_cases c3 : i < (N.length : Int)
     ·rw [if_pos c3] at H
      by_cases c4 : 0 ≤ i
      ·rw [if_pos c4] at H
       have c3b := decide_eq_true c3
       have c3t := eq_true c3
       have c4t := eq_true c4
       have c4b := decide_eq_true c4
       have hcF : wr.cell? ⟨gF, i.toNat, none⟩ = some (.int .i64 (rd xF i)) := (Kd.R_celln 0 HI.out.2.2.2.2.1 i c4 c3).1
       by_cases c5 : rd xF i = 0
       ·rw [if_pos c5] at H
        have c5b : (rd xF i == 0) = true := beq_iff_eq.mpr c5
        obtain ⟨t, A_, H⟩ := Sh.ba H
        have H' := am_ H
        clear H
        go_wp2_with (first | (go_at_call 47; (with_reducible refine (impl_visit.calls k1 _ _ N g gF ca gL cb gP cd vS xF xL xP xS xv i t w _ HN.out HC.out (IsT.rl HI.out) Sh.bw A_.out).mono ?_); rintro e w9 ⟨rfl, vU, hI, hb⟩; have n1_ := am_ hI; have n2_ := am_ hb; clear hI hb HI HB hcF hcz_0 hcz_1 hcz_2 hcz_3 hcz_4 hcz_5 hfz_4 hfz_5; have HI := n1_; have HB := n2_; clear n1_ n2_))
        go_roundg k1
        case measure => have := HK1.out; omega
        case rel => exact ⟨_, _, _, _, _, _, _, rfl, H', ⟨by have := HK1.out; omega⟩, IsT.am HI, ⟨Sh.bw⟩⟩
       ·rw [if_neg c5] at H
        have c5b : (rd xF i == 0) = false := beq_eq_false_iff_ne.mpr c5
        have H' := am_ H
        clear H
        go_wp2
        go_roundg k1
        case measure => have := HK1.out; omega
        case rel => exact ⟨_, _, _, _, _, _, _, rfl, H', ⟨by have := HK1.out; omega⟩, IsT.am HI, ⟨Sh.bw⟩⟩
      ·rw [if_neg c4] at H
       exact absurd H (by simp)
     ·rw [if_neg c3] at H
      have c3b := decide_eq_false c3
      injection H with H
      subst H
      go_wp2
      exact bodyPost_ret (results_tmp rfl _ _ _) rfl ⟨.slice (some ⟨gP, 0, none⟩) N.length cd, rfl, HI.out.2.2.2.2.2.2.1, HB.out⟩
  ·skip
   have n0 : N.length = 0 := by omega
   have hR := am_ (Kd.R_mono (hM3.out.2.2.2.2.1 rfl) (ok' := fun _ => True) (fun _ _ => trivial))
   have HB := am_ hM3.out.1
   have hcz := Sh.bc hBK.out 3 rfl
   have h0 := H'.out
   rw [n0] at h0
   cases k with
   | zero => exact absurd h0 (by simp [impl_parts.l0])
   | succ k0 =>
    simp only [impl_parts.l0, n0] at h0
    rw [if_neg (by decide)] at h0
    injection h0 with h0
    have er : List.replicate N.length (-1) = r := by rw [n0]; exact h0
    rw [er] at hR
    clear hM3 hGE H' hBK
    have NZ := am_ n0
    have n0i : (N.length : Int) = 0 := by omega
    clear n0 c2
    go_wp2
    go_loopg [20] 0 (fun kq v20 w' => v20 = .int .i64 0 ∧ Aside0 (w' = w1))
    case atStart => exact ⟨rfl, ⟨rfl⟩⟩
    case round =>
     obtain ⟨rfl, hw⟩ := hrel
     replace hw := hw.out
     subst hw
     go_wp2
     exact bodyPost_ret (results_tmp rfl _ _ _) rfl ⟨.slice Ad N.length cd, rfl, hR.out, HB.out⟩
 ·rw [if_neg c1] at h
  exact absurd h (by simp)

theorem impl_visit.mono1 : ∀ k, (∀ y0 y1 y2 y3 y4 y5 y6 y7, LeO (impl_visit.l1 k y0 y1 y2 y3 y4 y5 y6 y7) (impl_visit.l1 (k + 1) y0 y1 y2 y3 y4 y5 y6 y7))
 | 0 => fun _ _ _ _ _ _ _ _ r h => by simp [impl_visit.l1] at h
 | k + 1 => by
  have ih0 := impl_visit.mono1 k
  intros
  unfold impl_visit.l1
  repeat' with_reducible first | apply ih0 | exact LeO.refl _ | exact LeO.none _ | apply LeO.ite | refine LeO.bind ?_ fun _ => ?_
theorem impl_visit.monoe (k : Nat) (y0 : Int) (y1 y2 y3 y4 : List Int) (y5 : Int) : LeO (impl_visit.e k y0 y1 y2 y3 y4 y5) (impl_visit.e (k + 1) y0 y1 y2 y3 y4 y5) := by
  have ih0 := impl_visit.mono1 k
  unfold impl_visit.e
  repeat' with_reducible first | apply ih0 | apply slices_Index_int_int.mono | apply slices_Min_int_int.mono | exact LeO.refl _ | exact LeO.none _ | apply LeO.ite | refine LeO.bind ?_ fun _ => ?_
theorem impl_visit.mono_l : ∀ k, (∀ y0 y1 y2 y3 y4 y5 y6 y7 y8, LeO (impl_visit.l0 k y0 y1 y2 y3 y4 y5 y6 y7 y8) (impl_visit.l0 (k + 1) y0 y1 y2 y3 y4 y5 y6 y7 y8)) ∧ (∀ y0 y1 y2 y3 y4 y5 y6, LeO (impl_visit.f k y0 y1 y2 y3 y4 y5 y6) (impl_visit.f (k + 1) y0 y1 y2 y3 y4 y5 y6))
 | 0 => ⟨fun _ _ _ _ _ _ _ _ _ r h => by simp [impl_visit.l0] at h, fun _ _ _ _ _ _ _ r h => by simp [impl_visit.f] at h⟩
 | k + 1 => by
  obtain ⟨ih0, ih1⟩ := impl_visit.mono_l k
  and_intros <;> intros
  all_goals (first | unfold impl_visit.l0 | unfold impl_visit.f)
  all_goals repeat' with_reducible first | apply ih0 | apply ih1 | apply impl_visit.monoe | exact LeO.refl _ | exact LeO.none _ | apply LeO.ite | refine LeO.bind ?_ fun _ => ?_
theorem impl_parts.mono_l : ∀ k, (∀ y0 y1 y2 y3 y4 y5 y6, LeO (impl_parts.l0 k y0 y1 y2 y3 y4 y5 y6) (impl_parts.l0 (k + 1) y0 y1 y2 y3 y4 y5 y6))
 | 0 => fun _ _ _ _ _ _ _ r h => by simp [impl_parts.l0] at h
 | k + 1 => by
  have ih0 := impl_parts.mono_l k
  have ih1 := (impl_visit.mono_l k).2
  intros
  unfold impl_parts.l0
  repeat' with_reducible first | apply ih0 | apply ih1 | exact LeO.refl _ | exact LeO.none _ | apply LeO.ite | refine LeO.bind ?_ fun _ => ?_
theorem impl_parts.mono : ∀ a0 k, LeO (impl_parts.f k a0) (impl_parts.f (k + 1) a0) := by
  intro a0 k
  have ih0 := impl_parts.mono_l k
  unfold impl_parts.f
  repeat' with_reducible first | apply ih0 | exact LeO.refl _ | exact LeO.none _ | apply LeO.ite | refine LeO.bind ?_ fun _ => ?_
end Go.Proofs.Ytnfpolhpanpeiaa.P
