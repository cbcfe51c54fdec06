/- Go functions of this seat as Lean functions, and the proofs that the calls come to what these say; printed by a program of this session. No condition. -/
import Derived.Test.YtaacldndbjmekaaP0
set_option linter.unusedVariables false
set_option linter.unusedSimpArgs false
set_option maxHeartbeats 40000000
set_option maxRecDepth 100000
namespace Go.Proofs.Ytaacldndbjmekaa.P
open Go.RowKit Go.Proofs.YtaacldndbjmekaaW.PrintWords Go.Proofs.YtaacldndbjmekaaW.PrintLast Go.Proofs.YtaacldndbjmekaaW.PrintMore Go.Proofs.Ytaacldndbjmekaa.Hof
attribute [local go_sem] max2_int min2_int max_two min_two max_three min_three max_four min_four
def spec_l1In.f (a0 : Int) (a1 : Int) (a2 : Int) : Option (Bool) := if a0 ≥ a1 then (some (decide (a0 ≤ a2))) else (some false)
theorem spec_l1In.calls (a0 : Int) (a1 : Int) (a2 : Int) (r : Bool) (w : World) (h : spec_l1In.f a0 a1 a2 = some r) :
  Calls Try.prog 45 #[.int .i64 a0, .int .i64 a1, .int .i64 a2] w fun e w' => e = .returned (.bool r) ∧ Drawn0 w w' := by
 have H := h
 clear h
 unfold spec_l1In.f at H
 by_cases c4 : a0 ≥ a1
 ·rw [if_pos c4] at H
  have c4b0 : decide (a1 ≤ a0) = true := decide_eq_true c4
  clear c4
  obtain rfl := Option.some.inj H
  go_enter Try.func45, Try.ntmps45
  go_wp2
  go_ret
  exact ⟨Sh.es, Sh.dr⟩
 ·rw [if_neg c4] at H
  have c4b0 : decide (a1 ≤ a0) = false := decide_eq_false c4
  clear c4
  obtain rfl := Option.some.inj H
  go_enter Try.func45, Try.ntmps45
  go_wp2
  go_ret
  exact ⟨Sh.es, Sh.dr⟩
def laws_eqIntS.l0 : Nat → List Int → List Int → Int → Option (Bool)
 | 0, _, _, _ => none
 | k + 1, x0, x1, x5 => if x5 < (x0.length : Int) then (if 0 ≤ x5 then (if x5 < (x1.length : Int) then (if (rd x0 x5) = (rd x1 x5) then (laws_eqIntS.l0 k x0 x1 (wrap64 (x5 + 1))) else (some false)) else (none)) else (none)) else (some true)
def laws_eqIntS.f (k : Nat) (l0 : List Int) (l1 : List Int) : Option (Bool) := if (l0.length : Int) = (l1.length : Int) then (laws_eqIntS.l0 k l0 l1 0) else (some false)
theorem laws_eqIntS.mono_l : ∀ k, (∀ y0 y1 y2, LeO (laws_eqIntS.l0 k y0 y1 y2) (laws_eqIntS.l0 (k + 1) y0 y1 y2))
 | 0 => fun _ _ _ r h => by simp [laws_eqIntS.l0] at h
 | k + 1 => by
  have ih0 := laws_eqIntS.mono_l k
  ·intro y0 y1 y2
   unfold laws_eqIntS.l0
   repeat' with_reducible first | apply ih0 | exact LeO.refl _ | exact LeO.none _ | apply LeO.ite | refine LeO.bind ?_ fun _ => ?_
theorem laws_eqIntS.mono : ∀ a0 a1 k, LeO (laws_eqIntS.f k a0 a1) (laws_eqIntS.f (k + 1) a0 a1) := by
 intro a0 a1 k
 have ih0 := laws_eqIntS.mono_l k
 unfold laws_eqIntS.f
 repeat' with_reducible first | apply ih0 | exact LeO.refl _ | exact LeO.none _ | apply LeO.ite | refine LeO.bind ?_ fun _ => ?_
theorem laws_eqIntS.calls (k : Nat) (A0 : Option Addr) (c0 : Nat) (l0 : List Int) (A1 : Option Addr) (c1 : Nat) (l1 : List Int) (r : Bool) (w : World) (hr0 : Kd.C (Kd.int .i64) w A0 l0.length l0) (hc0 : l0.length ≤ c0) (hr1 : Kd.C (Kd.int .i64) w A1 l1.length l1) (hc1 : l1.length ≤ c1) (h : laws_eqIntS.f k l0 l1 = some r) :
  Calls Try.prog 14 #[.slice A0 l0.length c0, .slice A1 l1.length c1] w fun e w' => e = .returned (.bool r) ∧ Drawn0 w w' := by
 have HR0 := am_ hr0
 have HC0 := am_ hc0
 clear hr0 hc0
 have HR1 := am_ hr1
 have HC1 := am_ hc1
 clear hr1 hc1
 have H := h
 clear h
 unfold laws_eqIntS.f at H
 by_cases c3 : (l0.length : Int) = (l1.length : Int)
 ·rw [if_pos c3] at H
  have c3b0 : ((l0.length : Int) == (l1.length : Int)) = true := beq_iff_eq.mpr c3
  have c3b1 : ((l0.length : Int) != (l1.length : Int)) = false := bne_eq_false_iff_eq.mpr c3
  have c3b2 : (l0.length == l1.length) = true := by first | simpa using c3 | (simp at c3 ⊢; omega)
  clear c3
  have H' := am_ H
  clear H
  go_enter Try.func14, Try.ntmps14
  go_wp2
  repeat (go_quiet (fail); try go_wp2)
  go_loopg [5] k (fun kq v5 w' => ∃ (x5_1 : Int), v5 = .int .i64 x5_1 ∧ Aside0 (laws_eqIntS.l0 kq l0 l1 x5_1 = some r) ∧ Aside0 (kq ≤ k) ∧ Drawn0 w w')
  case atStart => exact ⟨(0), (Sh.es), H', ⟨Nat.le_refl _⟩, Sh.dr⟩
  case round =>
   clear H'
   obtain ⟨x5_1, rfl, HA, HK1, ⟨m1, rfl⟩⟩ := hrel
   cases gk with
   | zero => exact absurd HA.out (by simp [laws_eqIntS.l0])
   | succ k1 =>
    have H := HA.out
    clear HA
    simp only [laws_eqIntS.l0] at H
    by_cases c4 : x5_1 < (l0.length : Int)
    ·rw [if_pos c4] at H
     have c4b0 := decide_eq_true c4
     clear c4
     by_cases c5 : 0 ≤ x5_1
     ·rw [if_pos c5] at H
      have c5b0 := decide_eq_true c5
      clear c5
      by_cases c6 : x5_1 < (l1.length : Int)
      ·rw [if_pos c6] at H
       have c6b0 := decide_eq_true c6
       clear c6
       by_cases c7 : (rd l0 x5_1) = (rd l1 x5_1)
       ·rw [if_pos c7] at H
        have c7b0 : ((rd l0 x5_1) == (rd l1 x5_1)) = true := beq_iff_eq.mpr c7
        have c7b1 : ((rd l0 x5_1) != (rd l1 x5_1)) = false := bne_eq_false_iff_eq.mpr c7
        clear c7
        have H' := am_ H
        clear H
        have p311 : 0 ≤ (x5_1 : Int) := Sh.od
        have q311 : x5_1 < (l0.length : Int) := Sh.od
        obtain ⟨ad311, e311, hx311_0⟩ := Kd.at_int HR0.out x5_1 p311 q311
        cases e311
        replace p311 := eq_true p311
        replace q311 := eq_true q311
        have p312 : 0 ≤ (x5_1 : Int) := Sh.od
        have q312 : x5_1 < (l1.length : Int) := Sh.od
        obtain ⟨ad312, e312, hx312_0⟩ := Kd.at_int HR1.out x5_1 p312 q312
        cases e312
        replace p312 := eq_true p312
        replace q312 := eq_true q312
        go_wp2
        repeat (go_quiet (fail); try go_wp2)
        go_roundg k1
        case measure => have := HK1.out; omega
        case rel => exact ⟨(wrap64 (x5_1 + 1)), (Sh.es), H', ⟨by have := HK1.out; omega⟩, Sh.dr⟩
       ·rw [if_neg c7] at H
        have c7b0 : ((rd l0 x5_1) == (rd l1 x5_1)) = false := beq_eq_false_iff_ne.mpr c7
        have c7b1 : ((rd l0 x5_1) != (rd l1 x5_1)) = true := bne_iff_ne.mpr c7
        obtain rfl := Option.some.inj H
        have p311 : 0 ≤ (x5_1 : Int) := Sh.od
        have q311 : x5_1 < (l0.length : Int) := Sh.od
        obtain ⟨ad311, e311, hx311_0⟩ := Kd.at_int HR0.out x5_1 p311 q311
        cases e311
        replace p311 := eq_true p311
        replace q311 := eq_true q311
        have p312 : 0 ≤ (x5_1 : Int) := Sh.od
        have q312 : x5_1 < (l1.length : Int) := Sh.od
        obtain ⟨ad312, e312, hx312_0⟩ := Kd.at_int HR1.out x5_1 p312 q312
        cases e312
        replace p312 := eq_true p312
        replace q312 := eq_true q312
        go_wp2
        repeat (go_quiet (fail); try go_wp2)
        go_ret
        exact ⟨Sh.es, Sh.dr⟩
      ·rw [if_neg c6] at H
       exact absurd H (by simp)
     ·rw [if_neg c5] at H
      exact absurd H (by simp)
    ·rw [if_neg c4] at H
     have c4b0 := decide_eq_false c4
     clear c4
     obtain rfl := Option.some.inj H
     go_wp2
     repeat (go_quiet (fail); try go_wp2)
     go_ret
     exact ⟨Sh.es, Sh.dr⟩
 ·rw [if_neg c3] at H
  have c3b0 : ((l0.length : Int) == (l1.length : Int)) = false := beq_eq_false_iff_ne.mpr c3
  have c3b1 : ((l0.length : Int) != (l1.length : Int)) = true := bne_iff_ne.mpr c3
  have c3b2 : (l0.length == l1.length) = false := by first | simpa using c3 | (simp at c3 ⊢; omega)
  obtain rfl := Option.some.inj H
  go_enter Try.func14, Try.ntmps14
  go_wp2
  repeat (go_quiet (fail); try go_wp2)
  go_ret
  exact ⟨Sh.es, Sh.dr⟩
def laws_markIntS.l0 : Nat → List Int → Int → Int → Option (Int × List Int)
 | 0, _, _, _ => none
 | k + 1, x0, x1, x5 => if x5 < (x0.length : Int) then (if 0 ≤ x5 then (laws_markIntS.l0 k (x0.set (x5 : Int).toNat x1) (wrap64 (x1 + 1)) (wrap64 (x5 + 1))) else (none)) else (some (x1, x0))
def laws_markIntS.f (k : Nat) (l0 : List Int) (a1 : Int) : Option (Int × List Int) := laws_markIntS.l0 k l0 a1 0
theorem laws_markIntS.mono_l : ∀ k, (∀ y0 y1 y2, LeO (laws_markIntS.l0 k y0 y1 y2) (laws_markIntS.l0 (k + 1) y0 y1 y2))
 | 0 => fun _ _ _ r h => by simp [laws_markIntS.l0] at h
 | k + 1 => by
  have ih0 := laws_markIntS.mono_l k
  ·intro y0 y1 y2
   unfold laws_markIntS.l0
   repeat' with_reducible first | apply ih0 | exact LeO.refl _ | exact LeO.none _ | apply LeO.ite | refine LeO.bind ?_ fun _ => ?_
theorem laws_markIntS.mono : ∀ a0 a1 k, LeO (laws_markIntS.f k a0 a1) (laws_markIntS.f (k + 1) a0 a1) := by
 intro a0 a1 k
 have ih0 := laws_markIntS.mono_l k
 unfold laws_markIntS.f
 repeat' with_reducible first | apply ih0 | exact LeO.refl _ | exact LeO.none _ | apply LeO.ite | refine LeO.bind ?_ fun _ => ?_
theorem laws_markIntS.calls (k : Nat) (P0_ : Nat → Prop) (u9000_ : Value) (l0 : List Int) (a1 : Int) (r1 : Int) (r2 : List Int) (w0 w : World) (hB : Below w0.heap.size w0 w) (ho0 : Kd.R (Kd.int .i64) 3 w w0.heap.size P0_ u9000_ l0) (h : laws_markIntS.f k l0 a1 = some (r1, r2)) :
  Calls Try.prog 17 #[u9000_, .int .i64 a1] w fun e w' => e = .returned (.int .i64 r1) ∧ Kd.R (Kd.int .i64) 3 w' w0.heap.size (fun k_ => (P0_ k_ ∨ w.heap.size ≤ k_)) u9000_ r2 ∧ Below w0.heap.size w0 w' ∧ Kept w w' (fun k_ => P0_ k_) := by
 have HO0 := am_ (show Kd.R (Kd.int .i64) 3 w w0.heap.size (fun k_ => (P0_ k_ ∨ w.heap.size ≤ k_)) u9000_ l0 from Kd.R_mono ho0 (fun k_ hk => (.inl hk)))
 have HK := am_ (Kept.refl w (fun k_ => P0_ k_))
 have HW0 := am_ hB.size
 have HB := am_ hB
 clear hB
 have H := h
 clear h
 unfold laws_markIntS.f at H
 have H' := am_ H
 clear H
 go_enter Try.func17, Try.ntmps17
 go_wp2
 go_loopg [1, 5] k (fun kq v1 v5 w' => ∃ (x0_1 : List Int) (x1_1 : Int) (x5_1 : Int), v1 = .int .i64 x1_1 ∧ v5 = .int .i64 x5_1 ∧ Aside0 (laws_markIntS.l0 kq x0_1 x1_1 x5_1 = some (r1, r2)) ∧ Aside0 (kq ≤ k) ∧ Aside0 (Kd.R (Kd.int .i64) 3 w' w0.heap.size (fun k_ => (P0_ k_ ∨ w.heap.size ≤ k_)) u9000_ x0_1) ∧ Aside0 (Kept w w' (fun k_ => P0_ k_)) ∧ Aside0 (Below w0.heap.size w0 w'))
 case atStart => exact ⟨(l0), (a1), (0), (Sh.es), (Sh.es), H', ⟨Nat.le_refl _⟩, ⟨Sh.rl HO0.out⟩, ⟨by repeat (first | (with_reducible first | exact HK.out | apply Kept.alloc | apply Kept.drewN | apply Kept.drew) | exact HK.out)⟩, ⟨Sh.bw⟩⟩
 case round =>
  clear H'
  obtain ⟨x0_1, x1_1, x5_1, rfl, rfl, HA, HK1, HO_0, HK, HB⟩ := hrel
  cases gk with
  | zero => exact absurd HA.out (by simp [laws_markIntS.l0])
  | succ k1 =>
   have H := HA.out
   clear HA
   simp only [laws_markIntS.l0] at H
   by_cases c3 : x5_1 < (x0_1.length : Int)
   ·rw [if_pos c3] at H
    have c3b0 := decide_eq_true c3
    clear c3
    by_cases c4 : 0 ≤ x5_1
    ·rw [if_pos c4] at H
     have c4b0 := decide_eq_true c4
     clear c4
     obtain ⟨y320, hy320⟩ : ∃ y_ : List Int, y_ = (x0_1.set (x5_1 : Int).toNat x1_1) := ⟨_, rfl⟩
     replace H : (laws_markIntS.l0 k1 y320 (wrap64 (x1_1 + 1)) (wrap64 (x5_1 + 1))) = some (r1, r2) := by first | (rw [hy320]; with_reducible exact H) | (have H2_ := (Option.bind_some _ _).symm.trans H; rw [hy320]; with_reducible exact H2_) | (have H2_ := (Option.bind_some _ _).symm.trans H; with_reducible exact H2_) | with_reducible exact H | (rw [hy320]; exact H) | exact H
     have Ny320 := am_ hy320
     clear hy320
     have H' := am_ H
     clear H
     obtain ⟨Ao6, co6, eo6⟩ := Kd.R_slice HO_0.out
     subst eo6
     have p5 : 0 ≤ (x5_1 : Int) := Sh.od
     have q5 : (x5_1 : Int) < ((x0_1.length : Int) : Int) := Sh.od
     obtain ⟨go5, co5, eo5, gb5, gl5, cl5, HG5⟩ := Kd.R_form HO_0.out (by omega)
     (first | cases eo5 | (injection eo5 with ea_ en_ ec_; (first | subst ea_ | (injection ea_ with ea_; subst ea_)); subst ec_; clear en_))
     have GB5 := am_ gb5
     have GG5 := am_ HG5
     clear gb5 gl5 HG5
     have HMgo5 := am_ (show (P0_ go5 ∨ w.heap.size ≤ go5) from (HO_0.out.1 _ rfl))
     obtain ⟨hx5_0, hf5_0⟩ := Kd.R_celln 0 HO_0.out (x5_1 : Int) p5 q5
     replace p5 := eq_true p5
     replace q5 := eq_true q5
     have HP7 := Kd.R_putg HO_0.out (x5_1 : Int) x1_1
     go_wp2_with (first | ((with_reducible refine gate_store (t := 3) (p := 15) rfl ?_); refine store_event (t := 3) (p := 15) (v := ?vo_w8) (w1 := (wr.setCell ⟨go5, (x5_1 : Int).toNat, none⟩ (.int .i64 x1_1))) ?hg ?ho ?hn ?hr ?_; (case ho => rfl); (case hg => rfl); (case hn => rfl); (case hr => first | (go_simp; done) | (go_simp; rfl)); intro w8 hw; have hg : wr.grownBy w8 (some go5) := (by rw [hw]; exact HP7.2); have hp_ : Kd.R (Kd.int .i64) 3 w8 w0.heap.size (fun k_ => (P0_ k_ ∨ w.heap.size ≤ k_)) (.slice (some ⟨go5, 0, none⟩) x0_1.length co6) y320 := (by rw [hw, Ny320.out]; exact HP7.1); clear HP7; replace HB := am_ ((by rw [hw]; exact below_set (HB.out) GB5.out : Below w0.heap.size w0 w8)); replace HK := am_ (Kept.of_grown (S := (fun k_ => P0_ k_)) hg (by repeat (first | (with_reducible first | exact HK.out | apply Kept.alloc | apply Kept.drewN | apply Kept.drew) | exact HK.out)) (fun k_ e_ => (HO_0.out.1 k_ e_))); replace HO_0 := am_ hp_; clear hg hw hp_))
     go_roundg k1
     case measure => have := HK1.out; omega
     case rel => exact ⟨(y320), (wrap64 (x1_1 + 1)), (wrap64 (x5_1 + 1)), (Sh.es), (Sh.es), H', ⟨by have := HK1.out; omega⟩, ⟨Sh.rl HO_0.out⟩, ⟨by repeat (first | (with_reducible first | exact HK.out | apply Kept.alloc | apply Kept.drewN | apply Kept.drew) | exact HK.out)⟩, ⟨Sh.bw⟩⟩
    ·rw [if_neg c4] at H
     exact absurd H (by simp)
   ·rw [if_neg c3] at H
    have c3b0 := decide_eq_false c3
    clear c3
    simp only [Option.some.injEq, Prod.mk.injEq] at H
    obtain ⟨rfl, rfl⟩ := H
    obtain ⟨Ao9, co9, eo9⟩ := Kd.R_slice HO_0.out
    subst eo9
    go_wp2
    go_ret
    exact ⟨Sh.eR, Sh.rl HO_0.out, Sh.bw, by repeat (first | (with_reducible first | exact HK.out | apply Kept.alloc | apply Kept.drewN | apply Kept.drew) | exact HK.out)⟩
def laws_heldIntS.l0 : Nat → List Int → Int → Int → Option (Int)
 | 0, _, _, _ => none
 | k + 1, x0, x1, x5 => if x5 < (x0.length : Int) then (if 0 ≤ x5 then (if (rd x0 x5) = x1 then (laws_heldIntS.l0 k x0 (wrap64 (x1 + 1)) (wrap64 (x5 + 1))) else (some (-1))) else (none)) else (some x1)
def laws_heldIntS.f (k : Nat) (l0 : List Int) (a1 : Int) : Option (Int) := laws_heldIntS.l0 k l0 a1 0
theorem laws_heldIntS.mono_l : ∀ k, (∀ y0 y1 y2, LeO (laws_heldIntS.l0 k y0 y1 y2) (laws_heldIntS.l0 (k + 1) y0 y1 y2))
 | 0 => fun _ _ _ r h => by simp [laws_heldIntS.l0] at h
 | k + 1 => by
  have ih0 := laws_heldIntS.mono_l k
  ·intro y0 y1 y2
   unfold laws_heldIntS.l0
   repeat' with_reducible first | apply ih0 | exact LeO.refl _ | exact LeO.none _ | apply LeO.ite | refine LeO.bind ?_ fun _ => ?_
theorem laws_heldIntS.mono : ∀ a0 a1 k, LeO (laws_heldIntS.f k a0 a1) (laws_heldIntS.f (k + 1) a0 a1) := by
 intro a0 a1 k
 have ih0 := laws_heldIntS.mono_l k
 unfold laws_heldIntS.f
 repeat' with_reducible first | apply ih0 | exact LeO.refl _ | exact LeO.none _ | apply LeO.ite | refine LeO.bind ?_ fun _ => ?_
theorem laws_heldIntS.calls (k : Nat) (A0 : Option Addr) (c0 : Nat) (l0 : List Int) (a1 : Int) (r : Int) (w : World) (hr0 : Kd.C (Kd.int .i64) w A0 l0.length l0) (hc0 : l0.length ≤ c0) (h : laws_heldIntS.f k l0 a1 = some r) :
  Calls Try.prog 18 #[.slice A0 l0.length c0, .int .i64 a1] w fun e w' => e = .returned (.int .i64 r) ∧ Drawn0 w w' := by
 have HR0 := am_ hr0
 have HC0 := am_ hc0
 clear hr0 hc0
 have H := h
 clear h
 unfold laws_heldIntS.f at H
 have H' := am_ H
 clear H
 go_enter Try.func18, Try.ntmps18
 go_wp2
 go_loopg [1, 5] k (fun kq v1 v5 w' => ∃ (x1_1 : Int) (x5_1 : Int), v1 = .int .i64 x1_1 ∧ v5 = .int .i64 x5_1 ∧ Aside0 (laws_heldIntS.l0 kq l0 x1_1 x5_1 = some r) ∧ Aside0 (kq ≤ k) ∧ Drawn0 w w')
 case atStart => exact ⟨(a1), (0), (Sh.es), (Sh.es), H', ⟨Nat.le_refl _⟩, Sh.dr⟩
 case round =>
  clear H'
  obtain ⟨x1_1, x5_1, rfl, rfl, HA, HK1, ⟨m1, rfl⟩⟩ := hrel
  cases gk with
  | zero => exact absurd HA.out (by simp [laws_heldIntS.l0])
  | succ k1 =>
   have H := HA.out
   clear HA
   simp only [laws_heldIntS.l0] at H
   by_cases c3 : x5_1 < (l0.length : Int)
   ·rw [if_pos c3] at H
    have c3b0 := decide_eq_true c3
    clear c3
    by_cases c4 : 0 ≤ x5_1
    ·rw [if_pos c4] at H
     have c4b0 := decide_eq_true c4
     clear c4
     by_cases c5 : (rd l0 x5_1) = x1_1
     ·rw [if_pos c5] at H
      have c5b0 : ((rd l0 x5_1) == x1_1) = true := beq_iff_eq.mpr c5
      have c5b1 : ((rd l0 x5_1) != x1_1) = false := bne_eq_false_iff_eq.mpr c5
      clear c5
      have H' := am_ H
      clear H
      have p321 : 0 ≤ (x5_1 : Int) := Sh.od
      have q321 : x5_1 < (l0.length : Int) := Sh.od
      obtain ⟨ad321, e321, hx321_0⟩ := Kd.at_int HR0.out x5_1 p321 q321
      cases e321
      replace p321 := eq_true p321
      replace q321 := eq_true q321
      go_wp2
      go_roundg k1
      case measure => have := HK1.out; omega
      case rel => exact ⟨(wrap64 (x1_1 + 1)), (wrap64 (x5_1 + 1)), (Sh.es), (Sh.es), H', ⟨by have := HK1.out; omega⟩, Sh.dr⟩
     ·rw [if_neg c5] at H
      have c5b0 : ((rd l0 x5_1) == x1_1) = false := beq_eq_false_iff_ne.mpr c5
      have c5b1 : ((rd l0 x5_1) != x1_1) = true := bne_iff_ne.mpr c5
      obtain rfl := Option.some.inj H
      have p321 : 0 ≤ (x5_1 : Int) := Sh.od
      have q321 : x5_1 < (l0.length : Int) := Sh.od
      obtain ⟨ad321, e321, hx321_0⟩ := Kd.at_int HR0.out x5_1 p321 q321
      cases e321
      replace p321 := eq_true p321
      replace q321 := eq_true q321
      go_wp2
      go_ret
      exact ⟨Sh.es, Sh.dr⟩
    ·rw [if_neg c4] at H
     exact absurd H (by simp)
   ·rw [if_neg c3] at H
    have c3b0 := decide_eq_false c3
    clear c3
    obtain rfl := Option.some.inj H
    go_wp2
    go_ret
    exact ⟨Sh.es, Sh.dr⟩
def laws_szIntS.f (l0 : List Int) (a1 : Int) : Option (Int) := if (wrap64 (a1 - (l0.length : Int))) < 0 then (some (-1)) else (some (wrap64 (a1 - (l0.length : Int))))
theorem laws_szIntS.calls (A0 : Option Addr) (c0 : Nat) (l0 : List Int) (a1 : Int) (r : Int) (w : World) (hr0 : Kd.C (Kd.int .i64) w A0 l0.length l0) (hc0 : l0.length ≤ c0) (h : laws_szIntS.f l0 a1 = some r) :
  Calls Try.prog 43 #[.slice A0 l0.length c0, .int .i64 a1] w fun e w' => e = .returned (.int .i64 r) ∧ Drawn0 w w' := by
 have HR0 := am_ hr0
 have HC0 := am_ hc0
 clear hr0 hc0
 have H := h
 clear h
 unfold laws_szIntS.f at H
 by_cases c3 : (wrap64 (a1 - (l0.length : Int))) < 0
 ·rw [if_pos c3] at H
  have c3b0 := decide_eq_true c3
  clear c3
  obtain rfl := Option.some.inj H
  go_enter Try.func43, Try.ntmps43
  go_wp2
  go_ret
  exact ⟨Sh.es, Sh.dr⟩
 ·rw [if_neg c3] at H
  have c3b0 := decide_eq_false c3
  clear c3
  obtain rfl := Option.some.inj H
  go_enter Try.func43, Try.ntmps43
  go_wp2
  go_ret
  exact ⟨Sh.es, Sh.dr⟩
def laws_szLasso.f (l0_0 : List Int) (l0_1 : List Int) (a1 : Int) : Option (Int) := (laws_szIntS.f l0_0 a1).bind fun t358 => (if t358 < 0 then (some (-1)) else ((laws_szIntS.f l0_1 t358).bind fun t359 => (if t359 < 0 then (some (-1)) else (some t359))))
theorem laws_szLasso.calls (A0_0 : Option Addr) (c0_0 : Nat) (l0_0 : List Int) (A0_1 : Option Addr) (c0_1 : Nat) (l0_1 : List Int) (a1 : Int) (r : Int) (w : World) (hr0_0 : Kd.C (Kd.int .i64) w A0_0 l0_0.length l0_0) (hc0_0 : l0_0.length ≤ c0_0) (hr0_1 : Kd.C (Kd.int .i64) w A0_1 l0_1.length l0_1) (hc0_1 : l0_1.length ≤ c0_1) (h : laws_szLasso.f l0_0 l0_1 a1 = some r) :
  Calls Try.prog 19 #[.agg #[.slice A0_0 l0_0.length c0_0, .slice A0_1 l0_1.length c0_1], .int .i64 a1] w fun e w' => e = .returned (.int .i64 r) ∧ Below w.heap.size w w' := by
 have hu35 := Try.underlying35
 have HR0_0 := am_ hr0_0
 have HC0_0 := am_ hc0_0
 clear hr0_0 hc0_0
 have HR0_1 := am_ hr0_1
 have HC0_1 := am_ hc0_1
 clear hr0_1 hc0_1
 have HB := am_ (Below.refl w.heap.size w)
 have H := h
 clear h
 unfold laws_szLasso.f at H
 obtain ⟨t358, A3, H⟩ := Sh.ba H
 by_cases c4 : t358 < 0
 ·rw [if_pos c4] at H
  have c4b0 := decide_eq_true c4
  clear c4
  obtain rfl := Option.some.inj H
  go_enter Try.func19, Try.ntmps19
  go_wp2_with (first | ((with_reducible refine Sh.d 2 ?_); refine Sh.bz w (N := 2) (cs := #[.slice A0_0 l0_0.length c0_0, .slice A0_1 l0_1.length c0_1]) (t := 35) (h := ?_); clear HB; intro gb357 w5 BK357 GE357 HB; obtain ⟨hcz6_0, hcz6_1, hfz6_0, hfz6_1⟩ := Sh.b2 BK357.out) | ((with_reducible refine Sh.k 43 ?_); refine Sh.gD (some 8) Try.func43 #[.slice A0_0 l0_0.length c0_0, .int .i64 a1] (laws_szIntS.calls _ _ l0_0 a1 t358 _ (Sh.cB HR0_0.out) HC0_0.out A3.out) fun nd => ?_))
  go_ret
  exact ⟨Sh.eR, Sh.bw⟩
 ·rw [if_neg c4] at H
  have c4b0 := decide_eq_false c4
  clear c4
  obtain ⟨t359, A7, H⟩ := Sh.ba H
  by_cases c8 : t359 < 0
  ·rw [if_pos c8] at H
   have c8b0 := decide_eq_true c8
   clear c8
   obtain rfl := Option.some.inj H
   go_enter Try.func19, Try.ntmps19
   go_wp2_with (first | ((with_reducible refine Sh.d 2 ?_); refine Sh.bz w (N := 2) (cs := #[.slice A0_0 l0_0.length c0_0, .slice A0_1 l0_1.length c0_1]) (t := 35) (h := ?_); clear HB; intro gb357 w9 BK357 GE357 HB; obtain ⟨hcz10_0, hcz10_1, hfz10_0, hfz10_1⟩ := Sh.b2 BK357.out) | ((with_reducible refine Sh.k 43 ?_); refine Sh.gD (some 8) Try.func43 #[.slice A0_0 l0_0.length c0_0, .int .i64 a1] (laws_szIntS.calls _ _ l0_0 a1 t358 _ (Sh.cB HR0_0.out) HC0_0.out A3.out) fun nd => ?_) | ((with_reducible refine Sh.k 43 ?_); refine Sh.gD (some 14) Try.func43 #[.slice A0_1 l0_1.length c0_1, .int .i64 t358] (laws_szIntS.calls _ _ l0_1 t358 t359 _ (Sh.cB HR0_1.out) HC0_1.out A7.out) fun nd => ?_))
   go_ret
   exact ⟨Sh.eR, Sh.bw⟩
  ·rw [if_neg c8] at H
   have c8b0 := decide_eq_false c8
   clear c8
   obtain rfl := Option.some.inj H
   go_enter Try.func19, Try.ntmps19
   go_wp2_with (first | ((with_reducible refine Sh.d 2 ?_); refine Sh.bz w (N := 2) (cs := #[.slice A0_0 l0_0.length c0_0, .slice A0_1 l0_1.length c0_1]) (t := 35) (h := ?_); clear HB; intro gb357 w11 BK357 GE357 HB; obtain ⟨hcz12_0, hcz12_1, hfz12_0, hfz12_1⟩ := Sh.b2 BK357.out) | ((with_reducible refine Sh.k 43 ?_); refine Sh.gD (some 8) Try.func43 #[.slice A0_0 l0_0.length c0_0, .int .i64 a1] (laws_szIntS.calls _ _ l0_0 a1 t358 _ (Sh.cB HR0_0.out) HC0_0.out A3.out) fun nd => ?_) | ((with_reducible refine Sh.k 43 ?_); refine Sh.gD (some 14) Try.func43 #[.slice A0_1 l0_1.length c0_1, .int .i64 t358] (laws_szIntS.calls _ _ l0_1 t358 t359 _ (Sh.cB HR0_1.out) HC0_1.out A7.out) fun nd => ?_))
   go_ret
   exact ⟨Sh.eR, Sh.bw⟩
def laws_toIntS.l0 : Nat → List Int → List Int → Int → Option (List Int)
 | 0, _, _, _ => none
 | k + 1, x0, x3, x4 => if x4 < (x0.length : Int) then (if 0 ≤ x4 then (if x4 < (x3.length : Int) then (laws_toIntS.l0 k x0 (x3.set (x4 : Int).toNat (rd x0 x4)) (wrap64 (x4 + 1))) else (none)) else (none)) else (some x3)
def laws_toIntS.f (k : Nat) (l0 : List Int) : Option (List Int) := if 0 ≤ (l0.length : Int) then (if ((l0.length : Int) : Int).toNat ≤ 35184372088832 then (laws_toIntS.l0 k l0 (List.replicate ((l0.length : Int) : Int).toNat 0) 0) else (none)) else (none)
theorem laws_toIntS.mono_l : ∀ k, (∀ y0 y1 y2, LeO (laws_toIntS.l0 k y0 y1 y2) (laws_toIntS.l0 (k + 1) y0 y1 y2))
 | 0 => fun _ _ _ r h => by simp [laws_toIntS.l0] at h
 | k + 1 => by
  have ih0 := laws_toIntS.mono_l k
  ·intro y0 y1 y2
   unfold laws_toIntS.l0
   repeat' with_reducible first | apply ih0 | exact LeO.refl _ | exact LeO.none _ | apply LeO.ite | refine LeO.bind ?_ fun _ => ?_
theorem laws_toIntS.mono : ∀ a0 k, LeO (laws_toIntS.f k a0) (laws_toIntS.f (k + 1) a0) := by
 intro a0 k
 have ih0 := laws_toIntS.mono_l k
 unfold laws_toIntS.f
 repeat' with_reducible first | apply ih0 | exact LeO.refl _ | exact LeO.none _ | apply LeO.ite | refine LeO.bind ?_ fun _ => ?_
theorem laws_toIntS.calls (k : Nat) (A0 : Option Addr) (c0 : Nat) (l0 : List Int) (r : List Int) (w : World) (hr0 : Kd.C (Kd.int .i64) w A0 l0.length l0) (hc0 : l0.length ≤ c0) (h : laws_toIntS.f k l0 = some r) :
  Calls Try.prog 50 #[.slice A0 l0.length c0] w fun e w' => ∃ v0_ : Value, e = .returned (v0_) ∧ Kd.R (Kd.int .i64) 3 w' w.heap.size (fun _ => True) v0_ r ∧ Below w.heap.size w w' := by
 have HR0 := am_ hr0
 have HC0 := am_ hc0
 clear hr0 hc0
 have HB := am_ (Below.refl w.heap.size w)
 have H := h
 clear h
 unfold laws_toIntS.f at H
 by_cases c2 : 0 ≤ (l0.length : Int)
 ·rw [if_pos c2] at H
  have c2b0 := eq_true c2
  have c2b1 := decide_eq_true c2
  clear c2
  by_cases c3 : ((l0.length : Int) : Int).toNat ≤ 35184372088832
  ·rw [if_pos c3] at H
   have c3b0 := eq_true c3
   have c3b1 := decide_eq_true c3
   clear c3
   obtain ⟨y360, hy360⟩ : ∃ y_ : List Int, y_ = (List.replicate ((l0.length : Int) : Int).toNat 0) := ⟨_, rfl⟩
   replace H : (laws_toIntS.l0 k l0 y360 0) = some r := by first | (rw [hy360]; with_reducible exact H) | (have H2_ := (Option.bind_some _ _).symm.trans H; rw [hy360]; with_reducible exact H2_) | (have H2_ := (Option.bind_some _ _).symm.trans H; with_reducible exact H2_) | with_reducible exact H | (rw [hy360]; exact H) | exact H
   have Ny360 := am_ hy360
   clear hy360
   have H' := am_ H
   clear H
   go_enter Try.func50, Try.ntmps50
   go_wp2_with (first | ((with_reducible refine Sh.d 7 ?_); refine Kd.R_make (Kd.int .i64) _ 3 rfl (N := 7) rfl 24 _ _ rfl (l0.length : Int) rfl rfl Try.underlying24 (.int .i64 0) 8 info3 rfl (by decide) (by omega) 0 (ok := fun _ => True) (okp := fun _ => True) rfl (fun _ hk => hk) trivial (of_decide_eq_true (by first | (with_reducible assumption) | assumption)) (Nat.le_trans (Nat.mul_le_mul_right _ (of_decide_eq_true (by first | (with_reducible assumption) | assumption) : (l0.length : Int).toNat ≤ 35184372088832)) (by omega)) (Below.refl _ _) (Nat.le_refl _) ?_; intro v361 w4 ho5 hb hg_ hnew_; clear hg_ hnew_; (first | rw [← Ny360.out] at ho5 | (simp only [Int.reduceToNat] at ho5; rw [← Ny360.out] at ho5)); have HO362 := am_ (Kd.R_lower ho5 (below_size Sh.bw)); replace HB := Sh.hb hb; clear hb ho5))
   go_loopg [4] k (fun kq v4 w' => ∃ (x3_1 : List Int) (x4_1 : Int), v4 = .int .i64 x4_1 ∧ Aside0 (laws_toIntS.l0 kq l0 x3_1 x4_1 = some r) ∧ Aside0 (kq ≤ k) ∧ Aside0 (Kd.R (Kd.int .i64) 3 w' w.heap.size (fun _ => True) v361 x3_1) ∧ Aside0 (Below w.heap.size w w'))
   case atStart => exact ⟨(y360), (0), (Sh.es), H', ⟨Nat.le_refl _⟩, ⟨Sh.rl HO362.out⟩, ⟨Sh.bw⟩⟩
   case round =>
    clear H'
    obtain ⟨x3_1, x4_1, rfl, HA, HK1, HO_3, HB⟩ := hrel
    cases gk with
    | zero => exact absurd HA.out (by simp [laws_toIntS.l0])
    | succ k1 =>
     have H := HA.out
     clear HA
     simp only [laws_toIntS.l0] at H
     by_cases c6 : x4_1 < (l0.length : Int)
     ·rw [if_pos c6] at H
      have c6b0 := decide_eq_true c6
      clear c6
      by_cases c7 : 0 ≤ x4_1
      ·rw [if_pos c7] at H
       have c7b0 := decide_eq_true c7
       clear c7
       by_cases c8 : x4_1 < (x3_1.length : Int)
       ·rw [if_pos c8] at H
        have c8b0 := decide_eq_true c8
        clear c8
        obtain ⟨y364, hy364⟩ : ∃ y_ : List Int, y_ = (x3_1.set (x4_1 : Int).toNat (rd l0 x4_1)) := ⟨_, rfl⟩
        replace H : (laws_toIntS.l0 k1 l0 y364 (wrap64 (x4_1 + 1))) = some r := by first | (rw [hy364]; with_reducible exact H) | (have H2_ := (Option.bind_some _ _).symm.trans H; rw [hy364]; with_reducible exact H2_) | (have H2_ := (Option.bind_some _ _).symm.trans H; with_reducible exact H2_) | with_reducible exact H | (rw [hy364]; exact H) | exact H
        have Ny364 := am_ hy364
        clear hy364
        have H' := am_ H
        clear H
        have p363 : 0 ≤ (x4_1 : Int) := Sh.od
        have q363 : x4_1 < (l0.length : Int) := Sh.od
        obtain ⟨ad363, e363, hx363_0⟩ := Kd.at_int HR0.out x4_1 p363 q363
        cases e363
        try replace hx363_0 := Sh.cw hx363_0
        replace p363 := eq_true p363
        replace q363 := eq_true q363
        have p9 : 0 ≤ (x4_1 : Int) := Sh.od
        have q9 : (x4_1 : Int) < ((x3_1.length : Int) : Int) := Sh.od
        obtain ⟨go9, co9, eo9, gb9, gl9, cl9, HG9⟩ := Kd.R_form HO_3.out (by omega)
        (first | cases eo9 | (injection eo9 with ea_ en_ ec_; (first | subst ea_ | (injection ea_ with ea_; subst ea_)); subst ec_; clear en_))
        have GB9 := am_ gb9
        have GG9 := am_ HG9
        clear gb9 gl9 HG9
        obtain ⟨hx9_0, hf9_0⟩ := Kd.R_celln 0 HO_3.out (x4_1 : Int) p9 q9
        replace p9 := eq_true p9
        replace q9 := eq_true q9
        have HP10 := Kd.R_putg HO_3.out (x4_1 : Int) (rd l0 x4_1)
        go_wp2_with (first | ((with_reducible refine gate_store (t := 3) (p := 20) rfl ?_); refine store_event (t := 3) (p := 20) (v := ?vo_w11) (w1 := (wr.setCell ⟨go9, (x4_1 : Int).toNat, none⟩ (.int .i64 (rd l0 x4_1)))) ?hg ?ho ?hn ?hr ?_; (case ho => rfl); (case hg => rfl); (case hn => rfl); (case hr => first | (go_simp; done) | (go_simp; rfl)); intro w11 hw; have hg : wr.grownBy w11 (some go9) := (by rw [hw]; exact HP10.2); have hp_ : Kd.R (Kd.int .i64) 3 w11 w.heap.size (fun _ => True) (.slice (some ⟨go9, 0, none⟩) x3_1.length co9) y364 := (by rw [hw, Ny364.out]; exact HP10.1); clear HP10; replace HO_3 := am_ hp_; replace HB := am_ ((by rw [hw]; exact below_set (HB.out) GB9.out : Below w.heap.size w w11)); clear hg hw hp_))
        go_roundg k1
        case measure => have := HK1.out; omega
        case rel => exact ⟨(y364), (wrap64 (x4_1 + 1)), (Sh.es), H', ⟨by have := HK1.out; omega⟩, ⟨Sh.rl HO_3.out⟩, ⟨Sh.bw⟩⟩
       ·rw [if_neg c8] at H
        exact absurd H (by simp)
      ·rw [if_neg c7] at H
       exact absurd H (by simp)
     ·rw [if_neg c6] at H
      have c6b0 := decide_eq_false c6
      clear c6
      obtain rfl := Option.some.inj H
      go_wp2
      go_ret
      exact ⟨_, Sh.eR, Sh.rl HO_3.out, Sh.bw⟩
  ·rw [if_neg c3] at H
   exact absurd H (by simp)
 ·rw [if_neg c2] at H
  exact absurd H (by simp)
def laws_toLasso.f (k : Nat) (l0_0 : List Int) (l0_1 : List Int) : Option (List Int × List Int) := (laws_toIntS.f k l0_0).bind fun t368 => ((laws_toIntS.f k l0_1).bind fun t371 => (some (t368, t371)))
theorem laws_toLasso.mono : ∀ a0 a1 k, LeO (laws_toLasso.f k a0 a1) (laws_toLasso.f (k + 1) a0 a1) := by
 intro a0 a1 k
 unfold laws_toLasso.f
 repeat' with_reducible first | apply laws_toIntS.mono | exact LeO.refl _ | exact LeO.none _ | apply LeO.ite | refine LeO.bind ?_ fun _ => ?_
theorem laws_toLasso.calls (k : Nat) (A0_0 : Option Addr) (c0_0 : Nat) (l0_0 : List Int) (A0_1 : Option Addr) (c0_1 : Nat) (l0_1 : List Int) (r1 : List Int) (r2 : List Int) (w : World) (hr0_0 : Kd.C (Kd.int .i64) w A0_0 l0_0.length l0_0) (hc0_0 : l0_0.length ≤ c0_0) (hr0_1 : Kd.C (Kd.int .i64) w A0_1 l0_1.length l0_1) (hc0_1 : l0_1.length ≤ c0_1) (h : laws_toLasso.f k l0_0 l0_1 = some (r1, r2)) :
  Calls Try.prog 21 #[.agg #[.slice A0_0 l0_0.length c0_0, .slice A0_1 l0_1.length c0_1]] w fun e w' => ∃ v0_ v1_ : Value, e = .returned (.agg #[v0_, v1_]) ∧ Kd.R (Kd.int .i64) 3 w' w.heap.size (fun k_ => some k_ ≠ (v1_ : Value).ownBlock) v0_ r1 ∧ Kd.R (Kd.int .i64) 3 w' w.heap.size (fun k_ => some k_ ≠ (v0_ : Value).ownBlock) v1_ r2 ∧ Below w.heap.size w w' := by
 have hu35 := Try.underlying35
 have hu37 := Try.underlying37
 have HR0_0 := am_ hr0_0
 have HC0_0 := am_ hc0_0
 clear hr0_0 hc0_0
 have HR0_1 := am_ hr0_1
 have HC0_1 := am_ hc0_1
 clear hr0_1 hc0_1
 have HB := am_ (Below.refl w.heap.size w)
 have H := h
 clear h
 unfold laws_toLasso.f at H
 obtain ⟨t368, A2, H⟩ := Sh.ba H
 obtain ⟨t371, A3, H⟩ := Sh.ba H
 simp only [Option.some.injEq, Prod.mk.injEq] at H
 obtain ⟨rfl, rfl⟩ := H
 go_enter Try.func21, Try.ntmps21
 go_wp2_with (first | ((with_reducible refine Sh.d 1 ?_); refine Sh.bz w (N := 1) (cs := #[.slice A0_0 l0_0.length c0_0, .slice A0_1 l0_1.length c0_1]) (t := 35) (h := ?_); clear HB; intro gb365 w4 BK365 GE365 HB) | ((with_reducible refine Sh.d 2 ?_); refine Sh.bx (N := 2) (cs := #[.slice none 0 0, .slice none 0 0]) (t := 37) (h := ?_); intro gb366 hg w5 hbox hb; have BK366 := am_ hbox; have GE366 := Sh.ag w hg; replace HB := Sh.hb hb; have NB365_366 := am_ (Sh.nl hg BK365.out); have NB366_365 := am_ (Sh.ng hg BK365.out); replace BK365 := Sh.ab BK365 hb; clear hb hbox hg) | ((with_reducible refine Sh.d 3 ?_); refine Sh.bx (N := 3) (cs := #[.slice none 0 0, .slice none 0 0]) (t := 37) (h := ?_); intro gb367 hg w6 hbox hb; have BK367 := am_ hbox; have GE367 := Sh.ag w hg; replace HB := Sh.hb hb; have NB365_367 := am_ (Sh.nl hg BK365.out); have NB367_365 := am_ (Sh.ng hg BK365.out); replace BK365 := Sh.ab BK365 hb; have NB366_367 := am_ (Sh.nl hg BK366.out); have NB367_366 := am_ (Sh.ng hg BK366.out); replace BK366 := Sh.ab BK366 hb; clear hb hbox hg; have hnb7 := NB365_366.out; have hnc7 := NB366_365.out; have hnb8 := NB365_367.out; have hnc8 := NB367_365.out; obtain ⟨hcz9_0, hcz9_1, hfz9_0, hfz9_1⟩ := Sh.b2 BK365.out) | ((with_reducible refine Sh.k 50 ?_); refine Sh.gL (some 6) Try.func50 #[.slice A0_0 l0_0.length c0_0] (h := ?_); (with_reducible refine (laws_toIntS.calls k _ _ l0_0 t368 _ (Sh.cB HR0_0.out) HC0_0.out A2.out).mono ?_); rintro e w10 ⟨v369, rfl, ho0, hb⟩; refine ⟨_, rfl, ?_⟩; have HO370 := am_ (Kd.R_lower ho0 (below_size Sh.bw)); replace BK365 := Sh.ab BK365 hb; replace BK366 := Sh.ab BK366 hb; replace BK367 := Sh.ab BK367 hb; replace HB := Sh.hb hb; (try clear hb); (try clear hb2); (try clear hk); (try clear hi); (try clear ho0); obtain ⟨Ao11, co11, eo11⟩ := Kd.R_slice HO370.out; subst eo11; have hnb12 := NB367_366.out; have hnc12 := NB366_367.out; obtain ⟨hcz13_0, hcz13_1, hfz13_0, hfz13_1⟩ := Sh.b2 BK367.out; obtain ⟨hcz14_0, hcz14_1, hfz14_0, hfz14_1⟩ := Sh.b2 BK365.out) | ((with_reducible refine Sh.k 50 ?_); refine Sh.gL (some 10) Try.func50 #[.slice A0_1 l0_1.length c0_1] (h := ?_); (with_reducible refine (laws_toIntS.calls k _ _ l0_1 t371 _ (Sh.cB HR0_1.out) HC0_1.out A3.out).mono ?_); rintro e w15 ⟨v372, rfl, ho0, hb⟩; refine ⟨_, rfl, ?_⟩; have n0_ := am_ (Kd.R_elder' (Sh.rl (Kd.R_mono (Kd.R_far (p := ⟨gb367, 0, none⟩) (Kd.R_types HO370.out BK367.out (by decide)) (fun _ hk => hk.2) (.slice Ao11 t368.length co11)) (fun _ h_ => h_.1))) (Kd.R_base ho0) hb); have n1_ := am_ (Kd.R_lower (Kd.R_new' ho0 (Kd.R_lt (Sh.rl (Kd.R_mono (Kd.R_far (p := ⟨gb367, 0, none⟩) (Kd.R_types HO370.out BK367.out (by decide)) (fun _ hk => hk.2) (.slice Ao11 t368.length co11)) (fun _ h_ => h_.1))))) (below_size Sh.bw)); have n2_ := am_ (blk_below (g := gb365) (o := .cells #[.slice A0_0 l0_0.length c0_0, .slice A0_1 l0_1.length c0_1] 35 (0, 0)) (by refine Sh.pl ?_; refine blk_far ?_ NB365_367.out _; refine Sh.pl ?_; exact BK365.out) hb); have n3_ := am_ (blk_below (g := gb366) (o := .cells #[.slice none 0 0, .slice none 0 0] 37 (0, 0)) (by refine Sh.pl ?_; refine blk_far ?_ NB366_367.out _; refine Sh.pl ?_; exact BK366.out) hb); have n4_ := am_ (blk_below (g := gb367) (o := .cells #[.slice Ao11 t368.length co11, .slice none 0 0] 37 (0, 0)) (by refine Sh.pl ?_; refine blk_put (cs := #[.slice none 0 0, .slice none 0 0]) ?_ 0 _ rfl; refine Sh.pl ?_; exact BK367.out) hb); have n5_ := am_ (below_step Sh.bw hb); clear HO370; clear BK365; clear BK366; clear BK367; clear HB; have HO370 := n0_; have HO373 := n1_; have BK365 := n2_; have BK366 := n3_; have BK367 := n4_; have HB := n5_; clear n0_ n1_ n2_ n3_ n4_ n5_; (try clear hb); (try clear hb2); (try clear hk); (try clear hi); (try clear ho0); obtain ⟨Ao16, co16, eo16⟩ := Kd.R_slice HO373.out; subst eo16; obtain ⟨hcz17_0, hcz17_1, hfz17_0, hfz17_1⟩ := Sh.b2 BK367.out; obtain ⟨hcz18_0, hcz18_1, hfz18_0, hfz18_1⟩ := Sh.b2 BK366.out))
 refine bodyPost_ret (results_cell_row rfl _ _ gb366 37 #[.slice Ao11 t368.length co11, .slice Ao16 t371.length co16] (0, 0) _ rfl (by refine Sh.pl ?_; refine blk_put (cs := #[.slice Ao11 t368.length co11, .slice none 0 0]) ?_ 1 _ rfl; refine Sh.pl ?_; refine blk_put (cs := #[.slice none 0 0, .slice none 0 0]) ?_ 0 _ rfl; refine Sh.pl ?_; refine blk_far ?_ NB366_367.out _; refine Sh.pl ?_; exact BK366.out) Try.underlying37 rfl (by kernel_rfl)) rfl ?_
 exact ⟨_, _, by first | rfl | (simp [errW_none, errW_some] <;> rfl) | (simp [*, errW_none, errW_some] <;> rfl), Sh.rl (Kd.R_mono (Kd.R_far (p := ⟨gb366, 1, none⟩) (Kd.R_far (p := ⟨gb366, 0, none⟩) (Kd.R_far (p := ⟨gb367, 1, none⟩) (Kd.R_types (Kd.R_types HO370.out BK367.out (by decide)) BK366.out (by decide)) (fun _ hk => hk.1.2) (.slice Ao16 t371.length co16)) (fun _ hk => hk.2) (.slice Ao11 t368.length co11)) (fun _ hk => hk.2) (.slice Ao16 t371.length co16)) (fun _ hk => hk.1.1.2)), Sh.rl (Kd.R_mono (Kd.R_far (p := ⟨gb366, 1, none⟩) (Kd.R_far (p := ⟨gb366, 0, none⟩) (Kd.R_far (p := ⟨gb367, 1, none⟩) (Kd.R_types (Kd.R_types HO373.out BK367.out (by decide)) BK366.out (by decide)) (fun _ hk => hk.1.2) (.slice Ao16 t371.length co16)) (fun _ hk => hk.2) (.slice Ao11 t368.length co11)) (fun _ hk => hk.2) (.slice Ao16 t371.length co16)) (fun _ hk => hk.1.1.2)), Sh.bw⟩
def laws_eqLasso.f (k : Nat) (l0_0 : List Int) (l0_1 : List Int) (l1_0 : List Int) (l1_1 : List Int) : Option (Bool) := (laws_eqIntS.f k l0_0 l1_0).bind fun t376 => (if t376 = true then ((laws_eqIntS.f k l0_1 l1_1).bind fun t377 => (if t377 = true then (some true) else (some false))) else (some false))
theorem laws_eqLasso.mono : ∀ a0 a1 a2 a3 k, LeO (laws_eqLasso.f k a0 a1 a2 a3) (laws_eqLasso.f (k + 1) a0 a1 a2 a3) := by
 intro a0 a1 a2 a3 k
 unfold laws_eqLasso.f
 repeat' with_reducible first | apply laws_eqIntS.mono | exact LeO.refl _ | exact LeO.none _ | apply LeO.ite | refine LeO.bind ?_ fun _ => ?_
theorem laws_eqLasso.calls (k : Nat) (A0_0 : Option Addr) (c0_0 : Nat) (l0_0 : List Int) (A0_1 : Option Addr) (c0_1 : Nat) (l0_1 : List Int) (A1_0 : Option Addr) (c1_0 : Nat) (l1_0 : List Int) (A1_1 : Option Addr) (c1_1 : Nat) (l1_1 : List Int) (r : Bool) (w : World) (hr0_0 : Kd.C (Kd.int .i64) w A0_0 l0_0.length l0_0) (hc0_0 : l0_0.length ≤ c0_0) (hr0_1 : Kd.C (Kd.int .i64) w A0_1 l0_1.length l0_1) (hc0_1 : l0_1.length ≤ c0_1) (hr1_0 : Kd.C (Kd.int .i64) w A1_0 l1_0.length l1_0) (hc1_0 : l1_0.length ≤ c1_0) (hr1_1 : Kd.C (Kd.int .i64) w A1_1 l1_1.length l1_1) (hc1_1 : l1_1.length ≤ c1_1) (h : laws_eqLasso.f k l0_0 l0_1 l1_0 l1_1 = some r) :
  Calls Try.prog 23 #[.agg #[.slice A0_0 l0_0.length c0_0, .slice A0_1 l0_1.length c0_1], .agg #[.slice A1_0 l1_0.length c1_0, .slice A1_1 l1_1.length c1_1]] w fun e w' => e = .returned (.bool r) ∧ Below w.heap.size w w' := by
 have hu37 := Try.underlying37
 have HR0_0 := am_ hr0_0
 have HC0_0 := am_ hc0_0
 clear hr0_0 hc0_0
 have HR0_1 := am_ hr0_1
 have HC0_1 := am_ hc0_1
 clear hr0_1 hc0_1
 have HR1_0 := am_ hr1_0
 have HC1_0 := am_ hc1_0
 clear hr1_0 hc1_0
 have HR1_1 := am_ hr1_1
 have HC1_1 := am_ hc1_1
 clear hr1_1 hc1_1
 have HB := am_ (Below.refl w.heap.size w)
 have H := h
 clear h
 unfold laws_eqLasso.f at H
 obtain ⟨t376, A3, H⟩ := Sh.ba H
 by_cases c4 : t376 = true
 ·subst c4
  rw [if_pos rfl] at H
  obtain ⟨t377, A5, H⟩ := Sh.ba H
  by_cases c6 : t377 = true
  ·subst c6
   rw [if_pos rfl] at H
   obtain rfl := Option.some.inj H
   go_enter Try.func23, Try.ntmps23
   go_wp2_with (first | ((with_reducible refine Sh.d 2 ?_); refine Sh.bz w (N := 2) (cs := #[.slice A0_0 l0_0.length c0_0, .slice A0_1 l0_1.length c0_1]) (t := 37) (h := ?_); clear HB; intro gb374 w7 BK374 GE374 HB) | ((with_reducible refine Sh.d 3 ?_); refine Sh.bx (N := 3) (cs := #[.slice A1_0 l1_0.length c1_0, .slice A1_1 l1_1.length c1_1]) (t := 37) (h := ?_); intro gb375 hg w8 hbox hb; have BK375 := am_ hbox; have GE375 := Sh.ag w hg; replace HB := Sh.hb hb; have NB374_375 := am_ (Sh.nl hg BK374.out); have NB375_374 := am_ (Sh.ng hg BK374.out); replace BK374 := Sh.ab BK374 hb; clear hb hbox hg; have hnb9 := NB374_375.out; have hnc9 := NB375_374.out; obtain ⟨hcz10_0, hcz10_1, hfz10_0, hfz10_1⟩ := Sh.b2 BK374.out; obtain ⟨hcz11_0, hcz11_1, hfz11_0, hfz11_1⟩ := Sh.b2 BK375.out) | ((with_reducible refine Sh.k 14 ?_); refine Sh.gD (some 9) Try.func14 #[.slice A0_0 l0_0.length c0_0, .slice A1_0 l1_0.length c1_0] (laws_eqIntS.calls k _ _ l0_0 _ _ l1_0 true _ (Sh.cB HR0_0.out) HC0_0.out (Sh.cB HR1_0.out) HC1_0.out A3.out) fun nd => ?_) | ((with_reducible refine Sh.k 14 ?_); refine Sh.gD (some 15) Try.func14 #[.slice A0_1 l0_1.length c0_1, .slice A1_1 l1_1.length c1_1] (laws_eqIntS.calls k _ _ l0_1 _ _ l1_1 true _ (Sh.cB HR0_1.out) HC0_1.out (Sh.cB HR1_1.out) HC1_1.out A5.out) fun nd => ?_))
   go_ret
   exact ⟨Sh.eR, Sh.bw⟩
  ·replace c6 := Bool.eq_false_iff.mpr c6
   subst c6
   rw [Sh.nf] at H
   obtain rfl := Option.some.inj H
   go_enter Try.func23, Try.ntmps23
   go_wp2_with (first | ((with_reducible refine Sh.d 2 ?_); refine Sh.bz w (N := 2) (cs := #[.slice A0_0 l0_0.length c0_0, .slice A0_1 l0_1.length c0_1]) (t := 37) (h := ?_); clear HB; intro gb374 w12 BK374 GE374 HB) | ((with_reducible refine Sh.d 3 ?_); refine Sh.bx (N := 3) (cs := #[.slice A1_0 l1_0.length c1_0, .slice A1_1 l1_1.length c1_1]) (t := 37) (h := ?_); intro gb375 hg w13 hbox hb; have BK375 := am_ hbox; have GE375 := Sh.ag w hg; replace HB := Sh.hb hb; have NB374_375 := am_ (Sh.nl hg BK374.out); have NB375_374 := am_ (Sh.ng hg BK374.out); replace BK374 := Sh.ab BK374 hb; clear hb hbox hg; have hnb14 := NB374_375.out; have hnc14 := NB375_374.out; obtain ⟨hcz15_0, hcz15_1, hfz15_0, hfz15_1⟩ := Sh.b2 BK374.out; obtain ⟨hcz16_0, hcz16_1, hfz16_0, hfz16_1⟩ := Sh.b2 BK375.out) | ((with_reducible refine Sh.k 14 ?_); refine Sh.gD (some 9) Try.func14 #[.slice A0_0 l0_0.length c0_0, .slice A1_0 l1_0.length c1_0] (laws_eqIntS.calls k _ _ l0_0 _ _ l1_0 true _ (Sh.cB HR0_0.out) HC0_0.out (Sh.cB HR1_0.out) HC1_0.out A3.out) fun nd => ?_) | ((with_reducible refine Sh.k 14 ?_); refine Sh.gD (some 15) Try.func14 #[.slice A0_1 l0_1.length c0_1, .slice A1_1 l1_1.length c1_1] (laws_eqIntS.calls k _ _ l0_1 _ _ l1_1 false _ (Sh.cB HR0_1.out) HC0_1.out (Sh.cB HR1_1.out) HC1_1.out A5.out) fun nd => ?_))
   go_ret
   exact ⟨Sh.eR, Sh.bw⟩
 ·replace c4 := Bool.eq_false_iff.mpr c4
  subst c4
  rw [Sh.nf] at H
  obtain rfl := Option.some.inj H
  go_enter Try.func23, Try.ntmps23
  go_wp2_with (first | ((with_reducible refine Sh.d 2 ?_); refine Sh.bz w (N := 2) (cs := #[.slice A0_0 l0_0.length c0_0, .slice A0_1 l0_1.length c0_1]) (t := 37) (h := ?_); clear HB; intro gb374 w17 BK374 GE374 HB) | ((with_reducible refine Sh.d 3 ?_); refine Sh.bx (N := 3) (cs := #[.slice A1_0 l1_0.length c1_0, .slice A1_1 l1_1.length c1_1]) (t := 37) (h := ?_); intro gb375 hg w18 hbox hb; have BK375 := am_ hbox; have GE375 := Sh.ag w hg; replace HB := Sh.hb hb; have NB374_375 := am_ (Sh.nl hg BK374.out); have NB375_374 := am_ (Sh.ng hg BK374.out); replace BK374 := Sh.ab BK374 hb; clear hb hbox hg; have hnb19 := NB374_375.out; have hnc19 := NB375_374.out; obtain ⟨hcz20_0, hcz20_1, hfz20_0, hfz20_1⟩ := Sh.b2 BK374.out; obtain ⟨hcz21_0, hcz21_1, hfz21_0, hfz21_1⟩ := Sh.b2 BK375.out) | ((with_reducible refine Sh.k 14 ?_); refine Sh.gD (some 9) Try.func14 #[.slice A0_0 l0_0.length c0_0, .slice A1_0 l1_0.length c1_0] (laws_eqIntS.calls k _ _ l0_0 _ _ l1_0 false _ (Sh.cB HR0_0.out) HC0_0.out (Sh.cB HR1_0.out) HC1_0.out A3.out) fun nd => ?_))
  go_ret
  exact ⟨Sh.eR, Sh.bw⟩
def spec_l1All.l0 : Nat → Int → Int → List Int → Int → Int → Option (Bool)
 | 0, _, _, _, _, _ => none
 | k + 1, x1, x2, x9, x10, x11 => if x11 < x10 then (if 0 ≤ x11 then (if x11 < (x9.length : Int) then ((spec_l1In.f (rd x9 x11) x1 x2).bind fun t379 => (if t379 = true then (spec_l1All.l0 k x1 x2 x9 x10 (wrap64 (x11 + 1))) else (some false))) else (none)) else (none)) else (some true)
def spec_l1All.f (k : Nat) (l0 : List Int) (a1 : Int) (a2 : Int) : Option (Bool) := spec_l1All.l0 k a1 a2 l0 (l0.length : Int) 0
theorem spec_l1All.mono_l : ∀ k, (∀ y0 y1 y2 y3 y4, LeO (spec_l1All.l0 k y0 y1 y2 y3 y4) (spec_l1All.l0 (k + 1) y0 y1 y2 y3 y4))
 | 0 => fun _ _ _ _ _ r h => by simp [spec_l1All.l0] at h
 | k + 1 => by
  have ih0 := spec_l1All.mono_l k
  ·intro y0 y1 y2 y3 y4
   unfold spec_l1All.l0
   repeat' with_reducible first | apply ih0 | exact LeO.refl _ | exact LeO.none _ | apply LeO.ite | refine LeO.bind ?_ fun _ => ?_
theorem spec_l1All.mono : ∀ a0 a1 a2 k, LeO (spec_l1All.f k a0 a1 a2) (spec_l1All.f (k + 1) a0 a1 a2) := by
 intro a0 a1 a2 k
 have ih0 := spec_l1All.mono_l k
 unfold spec_l1All.f
 repeat' with_reducible first | apply ih0 | exact LeO.refl _ | exact LeO.none _ | apply LeO.ite | refine LeO.bind ?_ fun _ => ?_
theorem spec_l1All.calls (k : Nat) (A0 : Option Addr) (c0 : Nat) (l0 : List Int) (a1 : Int) (a2 : Int) (r : Bool) (w : World) (hr0 : Kd.C (Kd.int .i64) w A0 l0.length l0) (hc0 : l0.length ≤ c0) (h : spec_l1All.f k l0 a1 a2 = some r) :
  Calls Try.prog 75 #[.slice A0 l0.length c0, .int .i64 a1, .int .i64 a2] w fun e w' => e = .returned (.bool r) ∧ Drawn0 w w' := by
 have HR0 := am_ hr0
 have HC0 := am_ hc0
 clear hr0 hc0
 have H := h
 clear h
 unfold spec_l1All.f at H
 have H' := am_ H
 clear H
 go_enter Try.func75, Try.ntmps75
 go_wp2
 go_loopg [11] k (fun kq v11 w' => ∃ (x11_1 : Int), v11 = .int .i64 x11_1 ∧ Aside0 (spec_l1All.l0 kq a1 a2 l0 (l0.length : Int) x11_1 = some r) ∧ Aside0 (kq ≤ k) ∧ Drawn0 w w')
 case atStart => exact ⟨(0), (Sh.es), H', ⟨Nat.le_refl _⟩, Sh.dr⟩
 case round =>
  clear H'
  obtain ⟨x11_1, rfl, HA, HK1, ⟨m1, rfl⟩⟩ := hrel
  cases gk with
  | zero => exact absurd HA.out (by simp [spec_l1All.l0])
  | succ k1 =>
   have H := HA.out
   clear HA
   simp only [spec_l1All.l0] at H
   by_cases c4 : x11_1 < (l0.length : Int)
   ·rw [if_pos c4] at H
    have c4b0 := decide_eq_true c4
    clear c4
    by_cases c5 : 0 ≤ x11_1
    ·rw [if_pos c5] at H
     have c5b0 := decide_eq_true c5
     clear c5
     by_cases c6 : x11_1 < (l0.length : Int)
     ·rw [if_pos c6] at H
      have c6b0 := decide_eq_true c6
      clear c6
      obtain ⟨t379, A7, H⟩ := Sh.ba H
      by_cases c8 : t379 = true
      ·subst c8
       rw [if_pos rfl] at H
       have H' := am_ H
       clear H
       have p378 : 0 ≤ (x11_1 : Int) := Sh.od
       have q378 : x11_1 < (l0.length : Int) := Sh.od
       obtain ⟨ad378, e378, hx378_0⟩ := Kd.at_int HR0.out x11_1 p378 q378
       cases e378
       replace p378 := eq_true p378
       replace q378 := eq_true q378
       go_wp2_with (first | ((with_reducible refine Sh.k 45 ?_); refine Sh.gD (some 18) Try.func45 #[.int .i64 (rd l0 x11_1), .int .i64 a1, .int .i64 a2] (spec_l1In.calls (rd l0 x11_1) a1 a2 true _ A7.out) fun nd => ?_))
       go_roundg k1
       case measure => have := HK1.out; omega
       case rel => exact ⟨(wrap64 (x11_1 + 1)), (Sh.es), H', ⟨by have := HK1.out; omega⟩, Sh.dr⟩
      ·replace c8 := Bool.eq_false_iff.mpr c8
       subst c8
       rw [Sh.nf] at H
       obtain rfl := Option.some.inj H
       have p378 : 0 ≤ (x11_1 : Int) := Sh.od
       have q378 : x11_1 < (l0.length : Int) := Sh.od
       obtain ⟨ad378, e378, hx378_0⟩ := Kd.at_int HR0.out x11_1 p378 q378
       cases e378
       replace p378 := eq_true p378
       replace q378 := eq_true q378
       go_wp2_with (first | ((with_reducible refine Sh.k 45 ?_); refine Sh.gD (some 18) Try.func45 #[.int .i64 (rd l0 x11_1), .int .i64 a1, .int .i64 a2] (spec_l1In.calls (rd l0 x11_1) a1 a2 false _ A7.out) fun nd => ?_))
       go_ret
       exact ⟨Sh.es, Sh.dr⟩
     ·rw [if_neg c6] at H
      exact absurd H (by simp)
    ·rw [if_neg c5] at H
     exact absurd H (by simp)
   ·rw [if_neg c4] at H
    have c4b0 := decide_eq_false c4
    clear c4
    obtain rfl := Option.some.inj H
    go_wp2
    go_ret
    exact ⟨Sh.es, Sh.dr⟩
def spec_GoodLasso.f (k : Nat) (l0_0 : List Int) (l0_1 : List Int) : Option (Bool) := if (l0_0.length : Int) ≤ 24 then ((spec_l1In.f (l0_1.length : Int) 1 24).bind fun t381 => (if t381 = true then ((spec_l1All.f k l0_0 0 7).bind fun t382 => (if t382 = true then ((spec_l1All.f k l0_1 0 7).bind fun t383 => (some t383)) else (some false))) else (some false))) else (some false)
theorem spec_GoodLasso.mono : ∀ a0 a1 k, LeO (spec_GoodLasso.f k a0 a1) (spec_GoodLasso.f (k + 1) a0 a1) := by
 intro a0 a1 k
 unfold spec_GoodLasso.f
 repeat' with_reducible first | apply spec_l1All.mono | exact LeO.refl _ | exact LeO.none _ | apply LeO.ite | refine LeO.bind ?_ fun _ => ?_
theorem spec_GoodLasso.calls (k : Nat) (A0_0 : Option Addr) (c0_0 : Nat) (l0_0 : List Int) (A0_1 : Option Addr) (c0_1 : Nat) (l0_1 : List Int) (r : Bool) (w : World) (hr0_0 : Kd.C (Kd.int .i64) w A0_0 l0_0.length l0_0) (hc0_0 : l0_0.length ≤ c0_0) (hr0_1 : Kd.C (Kd.int .i64) w A0_1 l0_1.length l0_1) (hc0_1 : l0_1.length ≤ c0_1) (h : spec_GoodLasso.f k l0_0 l0_1 = some r) :
  Calls Try.prog 44 #[.agg #[.slice A0_0 l0_0.length c0_0, .slice A0_1 l0_1.length c0_1]] w fun e w' => e = .returned (.bool r) ∧ Below w.heap.size w w' := by
 have hu37 := Try.underlying37
 have HR0_0 := am_ hr0_0
 have HC0_0 := am_ hc0_0
 clear hr0_0 hc0_0
 have HR0_1 := am_ hr0_1
 have HC0_1 := am_ hc0_1
 clear hr0_1 hc0_1
 have HB := am_ (Below.refl w.heap.size w)
 have H := h
 clear h
 unfold spec_GoodLasso.f at H
 by_cases c2 : (l0_0.length : Int) ≤ 24
 ·rw [if_pos c2] at H
  have c2b0 := decide_eq_true c2
  have c2b1 : decide (l0_0.length ≤ 24) = true := decide_eq_true (by omega)
  clear c2
  obtain ⟨t381, A3, H⟩ := Sh.ba H
  by_cases c4 : t381 = true
  ·subst c4
   rw [if_pos rfl] at H
   obtain ⟨t382, A5, H⟩ := Sh.ba H
   by_cases c6 : t382 = true
   ·subst c6
    rw [if_pos rfl] at H
    obtain ⟨t383, A7, H⟩ := Sh.ba H
    obtain rfl := Option.some.inj H
    go_enter Try.func44, Try.ntmps44
    go_wp2_with (first | ((with_reducible refine Sh.d 1 ?_); (try (refine gate_guard (by rfl) ?_; dsimp only)); refine Sh.bz w (N := 1) (cs := #[.slice A0_0 l0_0.length c0_0, .slice A0_1 l0_1.length c0_1]) (t := 37) (h := ?_); clear HB; intro gb380 w8 BK380 GE380 HB; obtain ⟨hcz9_0, hcz9_1, hfz9_0, hfz9_1⟩ := Sh.b2 BK380.out) | (go_at_call 45; (with_reducible refine (spec_l1In.calls (l0_1.length : Int) 1 24 true _ A3.out).mono ?_); rintro e w' ⟨rfl, ⟨nd, rfl⟩⟩) | (go_at_call 75; (with_reducible refine (spec_l1All.calls k _ _ l0_0 0 7 true _ (Sh.cB HR0_0.out) HC0_0.out A5.out).mono ?_); rintro e w' ⟨rfl, ⟨nd, rfl⟩⟩) | (go_at_call 75; (with_reducible refine (spec_l1All.calls k _ _ l0_1 0 7 t383 _ (Sh.cB HR0_1.out) HC0_1.out A7.out).mono ?_); rintro e w' ⟨rfl, ⟨nd, rfl⟩⟩))
    go_ret
    exact ⟨Sh.eR, Sh.bw⟩
   ·replace c6 := Bool.eq_false_iff.mpr c6
    subst c6
    rw [Sh.nf] at H
    obtain rfl := Option.some.inj H
    go_enter Try.func44, Try.ntmps44
    go_wp2_with (first | ((with_reducible refine Sh.d 1 ?_); (try (refine gate_guard (by rfl) ?_; dsimp only)); refine Sh.bz w (N := 1) (cs := #[.slice A0_0 l0_0.length c0_0, .slice A0_1 l0_1.length c0_1]) (t := 37) (h := ?_); clear HB; intro gb380 w10 BK380 GE380 HB; obtain ⟨hcz11_0, hcz11_1, hfz11_0, hfz11_1⟩ := Sh.b2 BK380.out) | (go_at_call 45; (with_reducible refine (spec_l1In.calls (l0_1.length : Int) 1 24 true _ A3.out).mono ?_); rintro e w' ⟨rfl, ⟨nd, rfl⟩⟩) | (go_at_call 75; (with_reducible refine (spec_l1All.calls k _ _ l0_0 0 7 false _ (Sh.cB HR0_0.out) HC0_0.out A5.out).mono ?_); rintro e w' ⟨rfl, ⟨nd, rfl⟩⟩))
    go_ret
    exact ⟨Sh.eR, Sh.bw⟩
  ·replace c4 := Bool.eq_false_iff.mpr c4
   subst c4
   rw [Sh.nf] at H
   obtain rfl := Option.some.inj H
   go_enter Try.func44, Try.ntmps44
   go_wp2_with (first | ((with_reducible refine Sh.d 1 ?_); (try (refine gate_guard (by rfl) ?_; dsimp only)); refine Sh.bz w (N := 1) (cs := #[.slice A0_0 l0_0.length c0_0, .slice A0_1 l0_1.length c0_1]) (t := 37) (h := ?_); clear HB; intro gb380 w12 BK380 GE380 HB; obtain ⟨hcz13_0, hcz13_1, hfz13_0, hfz13_1⟩ := Sh.b2 BK380.out) | (go_at_call 45; (with_reducible refine (spec_l1In.calls (l0_1.length : Int) 1 24 false _ A3.out).mono ?_); rintro e w' ⟨rfl, ⟨nd, rfl⟩⟩))
   go_ret
   exact ⟨Sh.eR, Sh.bw⟩
 ·rw [if_neg c2] at H
  have c2b0 := decide_eq_false c2
  have c2b1 : decide (l0_0.length ≤ 24) = false := decide_eq_false (by omega)
  clear c2
  obtain rfl := Option.some.inj H
  go_enter Try.func44, Try.ntmps44
  go_wp2_with (first | ((with_reducible refine Sh.d 1 ?_); (try (refine gate_guard (by rfl) ?_; dsimp only)); refine Sh.bz w (N := 1) (cs := #[.slice A0_0 l0_0.length c0_0, .slice A0_1 l0_1.length c0_1]) (t := 37) (h := ?_); clear HB; intro gb380 w14 BK380 GE380 HB; obtain ⟨hcz15_0, hcz15_1, hfz15_0, hfz15_1⟩ := Sh.b2 BK380.out))
  go_ret
  exact ⟨Sh.eR, Sh.bw⟩
def spec_l9At.f (l0_0 : List Int) (l0_1 : List Int) (a1 : Int) : Option (Int) := if a1 < (l0_0.length : Int) then (if 0 ≤ a1 then (some (rd l0_0 a1)) else (none)) else (if (l0_1.length : Int) = 0 then (none) else (if 0 ≤ (Int.tmod (wrap64 (a1 - (l0_0.length : Int))) (l0_1.length : Int)) then (if (Int.tmod (wrap64 (a1 - (l0_0.length : Int))) (l0_1.length : Int)) < (l0_1.length : Int) then (some (rd l0_1 (Int.tmod (wrap64 (a1 - (l0_0.length : Int))) (l0_1.length : Int)))) else (none)) else (none)))
theorem spec_l9At.calls (A0_0 : Option Addr) (c0_0 : Nat) (l0_0 : List Int) (A0_1 : Option Addr) (c0_1 : Nat) (l0_1 : List Int) (a1 : Int) (r : Int) (w : World) (hr0_0 : Kd.C (Kd.int .i64) w A0_0 l0_0.length l0_0) (hc0_0 : l0_0.length ≤ c0_0) (hr0_1 : Kd.C (Kd.int .i64) w A0_1 l0_1.length l0_1) (hc0_1 : l0_1.length ≤ c0_1) (h : spec_l9At.f l0_0 l0_1 a1 = some r) :
  Calls Try.prog 47 #[.agg #[.slice A0_0 l0_0.length c0_0, .slice A0_1 l0_1.length c0_1], .int .i64 a1] w fun e w' => e = .returned (.int .i64 r) ∧ Below w.heap.size w w' := by
 have hu37 := Try.underlying37
 have HR0_0 := am_ hr0_0
 have HC0_0 := am_ hc0_0
 clear hr0_0 hc0_0
 have HR0_1 := am_ hr0_1
 have HC0_1 := am_ hc0_1
 clear hr0_1 hc0_1
 have HB := am_ (Below.refl w.heap.size w)
 have H := h
 clear h
 unfold spec_l9At.f at H
 by_cases c3 : a1 < (l0_0.length : Int)
 ·rw [if_pos c3] at H
  have c3b0 := decide_eq_true c3
  clear c3
  by_cases c4 : 0 ≤ a1
  ·rw [if_pos c4] at H
   have c4b0 := decide_eq_true c4
   clear c4
   obtain rfl := Option.some.inj H
   go_enter Try.func47, Try.ntmps47
   go_wp2_with (first | ((with_reducible refine Sh.d 2 ?_); refine Sh.bz w (N := 2) (cs := #[.slice A0_0 l0_0.length c0_0, .slice A0_1 l0_1.length c0_1]) (t := 37) (h := ?_); clear HB; intro gb384 w5 BK384 GE384 HB; obtain ⟨hcz6_0, hcz6_1, hfz6_0, hfz6_1⟩ := Sh.b2 BK384.out; have p385 : 0 ≤ (a1 : Int) := Sh.od; have q385 : a1 < (l0_0.length : Int) := Sh.od; obtain ⟨ad385, e385, hx385_0⟩ := Kd.at_int HR0_0.out a1 p385 q385; cases e385; replace hx385_0 := (HB.out.cell (World.block_lt_of_cell? w _ hx385_0)).trans hx385_0; replace p385 := eq_true p385; replace q385 := eq_true q385))
   repeat (go_quiet (first | ((with_reducible refine Sh.d 2 ?_); refine Sh.bz w (N := 2) (cs := #[.slice A0_0 l0_0.length c0_0, .slice A0_1 l0_1.length c0_1]) (t := 37) (h := ?_); clear HB; intro gb384 w5 BK384 GE384 HB; obtain ⟨hcz6_0, hcz6_1, hfz6_0, hfz6_1⟩ := Sh.b2 BK384.out; have p385 : 0 ≤ (a1 : Int) := Sh.od; have q385 : a1 < (l0_0.length : Int) := Sh.od; obtain ⟨ad385, e385, hx385_0⟩ := Kd.at_int HR0_0.out a1 p385 q385; cases e385; replace hx385_0 := (HB.out.cell (World.block_lt_of_cell? w _ hx385_0)).trans hx385_0; replace p385 := eq_true p385; replace q385 := eq_true q385)); try go_wp2_with (first | ((with_reducible refine Sh.d 2 ?_); refine Sh.bz w (N := 2) (cs := #[.slice A0_0 l0_0.length c0_0, .slice A0_1 l0_1.length c0_1]) (t := 37) (h := ?_); clear HB; intro gb384 w5 BK384 GE384 HB; obtain ⟨hcz6_0, hcz6_1, hfz6_0, hfz6_1⟩ := Sh.b2 BK384.out; have p385 : 0 ≤ (a1 : Int) := Sh.od; have q385 : a1 < (l0_0.length : Int) := Sh.od; obtain ⟨ad385, e385, hx385_0⟩ := Kd.at_int HR0_0.out a1 p385 q385; cases e385; replace hx385_0 := (HB.out.cell (World.block_lt_of_cell? w _ hx385_0)).trans hx385_0; replace p385 := eq_true p385; replace q385 := eq_true q385)))
   go_ret
   exact ⟨Sh.eR, Sh.bw⟩
  ·rw [if_neg c4] at H
   exact absurd H (by simp)
 ·rw [if_neg c3] at H
  have c3b0 := decide_eq_false c3
  clear c3
  by_cases c7 : (l0_1.length : Int) = 0
  ·rw [if_pos c7] at H
   exact absurd H (by simp)
  ·rw [if_neg c7] at H
   have c7b0 : ((l0_1.length : Int) == 0) = false := beq_eq_false_iff_ne.mpr c7
   have c7b1 : ((l0_1.length : Int) != 0) = true := bne_iff_ne.mpr c7
   have c7b2 : ¬ (l0_1 = []) := fun h_ => c7 (by rw [h_]; rfl)
   obtain ⟨ji8, hj1⟩ : ∃ j_ : Int, (Int.tmod (wrap64 (a1 - (l0_0.length : Int))) (l0_1.length : Int)) = j_ := ⟨_, rfl⟩
   replace H : (if 0 ≤ (ji8) then (if (ji8) < (l0_1.length : Int) then (some (rd l0_1 (ji8))) else (none)) else (none)) = some r := by first | (rw [hj1] at H; exact H) | (simp only [hj1] at H ⊢; exact H)
   by_cases c9 : 0 ≤ (ji8)
   ·rw [if_pos c9] at H
    have c9b0 := decide_eq_true c9
    clear c9
    by_cases c10 : (ji8) < (l0_1.length : Int)
    ·rw [if_pos c10] at H
     have c10b0 := decide_eq_true c10
     clear c10
     obtain rfl := Option.some.inj H
     go_enter Try.func47, Try.ntmps47
     go_wp2_with (first | ((with_reducible refine Sh.d 2 ?_); refine Sh.bz w (N := 2) (cs := #[.slice A0_0 l0_0.length c0_0, .slice A0_1 l0_1.length c0_1]) (t := 37) (h := ?_); clear HB; intro gb384 w11 BK384 GE384 HB; obtain ⟨hcz12_0, hcz12_1, hfz12_0, hfz12_1⟩ := Sh.b2 BK384.out; have p386 : 0 ≤ ((ji8) : Int) := Sh.od; have q386 : (ji8) < (l0_1.length : Int) := Sh.od; obtain ⟨ad386, e386, hx386_0⟩ := Kd.at_int HR0_1.out (ji8) p386 q386; cases e386; replace hx386_0 := (HB.out.cell (World.block_lt_of_cell? w _ hx386_0)).trans hx386_0; replace p386 := eq_true p386; replace q386 := eq_true q386))
     repeat (go_quiet (first | ((with_reducible refine Sh.d 2 ?_); refine Sh.bz w (N := 2) (cs := #[.slice A0_0 l0_0.length c0_0, .slice A0_1 l0_1.length c0_1]) (t := 37) (h := ?_); clear HB; intro gb384 w11 BK384 GE384 HB; obtain ⟨hcz12_0, hcz12_1, hfz12_0, hfz12_1⟩ := Sh.b2 BK384.out; have p386 : 0 ≤ ((ji8) : Int) := Sh.od; have q386 : (ji8) < (l0_1.length : Int) := Sh.od; obtain ⟨ad386, e386, hx386_0⟩ := Kd.at_int HR0_1.out (ji8) p386 q386; cases e386; replace hx386_0 := (HB.out.cell (World.block_lt_of_cell? w _ hx386_0)).trans hx386_0; replace p386 := eq_true p386; replace q386 := eq_true q386)); try go_wp2_with (first | ((with_reducible refine Sh.d 2 ?_); refine Sh.bz w (N := 2) (cs := #[.slice A0_0 l0_0.length c0_0, .slice A0_1 l0_1.length c0_1]) (t := 37) (h := ?_); clear HB; intro gb384 w11 BK384 GE384 HB; obtain ⟨hcz12_0, hcz12_1, hfz12_0, hfz12_1⟩ := Sh.b2 BK384.out; have p386 : 0 ≤ ((ji8) : Int) := Sh.od; have q386 : (ji8) < (l0_1.length : Int) := Sh.od; obtain ⟨ad386, e386, hx386_0⟩ := Kd.at_int HR0_1.out (ji8) p386 q386; cases e386; replace hx386_0 := (HB.out.cell (World.block_lt_of_cell? w _ hx386_0)).trans hx386_0; replace p386 := eq_true p386; replace q386 := eq_true q386)))
     go_ret
     exact ⟨by first | rfl | (simp [errW_none, errW_some] <;> rfl) | (simp only [← hj1]; first | rfl | (simp [errW_none, errW_some] <;> rfl)) | (simp [*, errW_none, errW_some] <;> rfl), Sh.bw⟩
    ·rw [if_neg c10] at H
     exact absurd H (by simp)
   ·rw [if_neg c9] at H
    exact absurd H (by simp)
theorem slices_IndexFunc_int_int.gen (g : Nat) (lb : Array Value) (eg : ∀ args w, (callFunc g args).run Try.prog w = .ok (.enter g args) w) (q : Int → Option Bool) (A0 : Option Addr) (c0 : Nat) (l0 : List (Int)) (r : Int) (w : World) (hr0 : Kd.C (Kd.int .i64) w A0 l0.length l0) (hc0 : l0.length ≤ c0)
  (hp : ∀ (W : World) (x : Int) (b : Bool), Below w.heap.size w W → x ∈ l0 → q x = some b → Calls Try.prog g (#[.int .i64 x] ++ lb) W fun e w' => e = .returned (.bool b) ∧ Below W.heap.size W w')
  (h : idxO q l0 0 = some r) : Calls Try.prog 119 #[.slice A0 l0.length c0, .func (.func g) #[] lb] w fun e w' => e = .returned (.int .i64 r) ∧ Below w.heap.size w w' := by
 have HR := am_ hr0
 have HP := am_ hp
 have HH := am_ h
 have hn : l0.length ≤ 9223372036854775807 := hr0.2.1
 clear hr0 hp h
 go_enter Try.func119, Try.ntmps119
 go_wp2
 go_loopg [5, 8] l0.length (fun gg _ s8 wr => ∃ kk : Nat, kk ≤ l0.length ∧ l0.length - kk ≤ gg ∧ s8 = .int .i64 kk ∧ Aside0 (idxO q (l0.drop kk) kk = some r) ∧ Aside0 (Below w.heap.size w wr))
 case atStart => exact ⟨0, Nat.zero_le _, by omega, rfl, HH, ⟨Below.refl _ _⟩⟩
 case round =>
  obtain ⟨kk, hkk, hg, rfl, HA, HB⟩ := hrel
  clear HH
  by_cases hlt : kk < l0.length
  ·have hltz : (kk : Int) < (l0.length : Int) := by omega
   have h0z : 0 ≤ (kk : Int) := by omega
   obtain ⟨ad, e, hx⟩ := Kd.at_int HR.out (kk : Int) h0z hltz
   have er : rd l0 (kk : Int) = l0.getD kk 0 := by simp [rd]
   rw [er] at hx
   have hA := HA.out
   rw [drop_getD hlt 0] at hA
   obtain ⟨b, hb, hA2⟩ := Option.bind_eq_some_iff.mp hA
   have HA2 := am_ hA2
   have hin := getD_in hlt (0 : Int)
   have hcall := HP.out wr _ b HB.out hin hb
   generalize l0.getD kk 0 = y at hx hcall
   clear HA hA hA2 hb er hin
   skip
   cases e
   simp only [Int.toNat_natCast] at hx
   replace hx := (HB.out.cell (World.block_lt_of_cell? w _ hx)).trans hx
   cases b with
   | true =>
    go_wp2_with (go_at_fn g; refine hcall.mono ?_; rintro e w' ⟨rfl, hb2⟩)
    go_ret
    have h3 := HA2.out
    simp only [if_true] at h3
    exact ⟨by rw [← Option.some.inj h3]; rfl, below_step HB.out hb2⟩
   | false =>
    go_wp2_with (go_at_fn g; refine hcall.mono ?_; rintro e w' ⟨rfl, hb2⟩)
    go_roundg (l0.length - (kk + 1))
    case measure => omega
    case rel =>
     refine ⟨kk + 1, by omega, by omega, by go_num, ⟨by have h3 := HA2.out; simpa using h3⟩, ⟨below_step HB.out hb2⟩⟩
  ·have hltz : ¬ (kk : Int) < (l0.length : Int) := by omega
   have hA := HA.out
   rw [List.drop_of_length_le (by omega)] at hA
   have h4 : (-1 : Int) = r := Option.some.inj hA
   subst h4
   clear HA hA
   have : kk = l0.length := by omega
   subst this
   go_wp2
   go_ret
   exact ⟨rfl, HB.out⟩
theorem slices_ContainsFunc_int_int.gen (g : Nat) (lb : Array Value) (eg : ∀ args w, (callFunc g args).run Try.prog w = .ok (.enter g args) w) (q : Int → Option Bool) (A0 : Option Addr) (c0 : Nat) (l0 : List (Int)) (r : Bool) (w : World) (hr0 : Kd.C (Kd.int .i64) w A0 l0.length l0) (hc0 : l0.length ≤ c0)
  (hp : ∀ (W : World) (x : Int) (b : Bool), Below w.heap.size w W → x ∈ l0 → q x = some b → Calls Try.prog g (#[.int .i64 x] ++ lb) W fun e w' => e = .returned (.bool b) ∧ Below W.heap.size W w')
  (h : anyO q l0 = some r) : Calls Try.prog 95 #[.slice A0 l0.length c0, .func (.func g) #[] lb] w fun e w' => e = .returned (.bool r) ∧ Below w.heap.size w w' := by
 obtain ⟨i, hi, hd⟩ := idxO_of_anyO l0 r 0 (Int.le_refl 0) h
 have HC := am_ (slices_IndexFunc_int_int.gen g lb eg q A0 c0 l0 i w hr0 hc0 hp hi)
 have HD := am_ hd
 clear hr0 hp h hi hd
 go_enter Try.func95, Try.ntmps95
 go_wp2_with (go_at_call 119; refine HC.out.mono ?_; rintro e w' ⟨rfl, hb2⟩)
 go_ret
 exact ⟨by rw [← HD.out]; rfl, hb2⟩
def impl_areLetters_1.f (a0 : Int) : Option (Bool) := if a0 < 0 then (some true) else (some (decide (a0 ≥ 8)))
theorem impl_areLetters_1.calls (a0 : Int) (r : Bool) (w : World) (h : impl_areLetters_1.f a0 = some r) :
  Calls Try.prog 96 #[.int .i64 a0] w fun e w' => e = .returned (.bool r) ∧ Drawn0 w w' := by
 have H := h
 clear h
 unfold impl_areLetters_1.f at H
 by_cases c2 : a0 < 0
 ·rw [if_pos c2] at H
  have c2b0 := decide_eq_true c2
  clear c2
  obtain rfl := Option.some.inj H
  go_enter Try.func96, Try.ntmps96
  go_wp2
  go_ret
  exact ⟨Sh.es, Sh.dr⟩
 ·rw [if_neg c2] at H
  have c2b0 := decide_eq_false c2
  clear c2
  obtain rfl := Option.some.inj H
  go_enter Try.func96, Try.ntmps96
  go_wp2
  go_ret
  exact ⟨Sh.es, Sh.dr⟩
def slices_ContainsFunc_int_int_by_impl_areLetters_1.f (l0 : List Int)  : Option (Bool) := anyO (fun x_ => impl_areLetters_1.f x_ ) l0
theorem slices_ContainsFunc_int_int_by_impl_areLetters_1.calls (A0 : Option Addr) (c0 : Nat) (l0 : List Int) (r : Bool) (w : World) (hr0 : Kd.C (Kd.int .i64) w A0 l0.length l0) (hc0 : l0.length ≤ c0) (h : slices_ContainsFunc_int_int_by_impl_areLetters_1.f l0  = some r) :
  Calls Try.prog 95 #[.slice A0 l0.length c0, .func (.func 96) #[] #[]] w fun e w' => e = .returned (.bool r) ∧ Below w.heap.size w w' := by
 refine slices_ContainsFunc_int_int.gen 96 #[] (enters_of Try.func96 (by kernel_rfl) rfl) _ A0 c0 l0 r w hr0 hc0 ?_ h
 intro W x b hB_ hin_ hq_
 refine (impl_areLetters_1.calls x  b W  hq_).mono ?_
 rintro e w' ⟨rfl, hd_⟩
 exact ⟨rfl, hd_.below⟩
def impl_areLetters.f (l0 : List Int) : Option (Bool) := (slices_ContainsFunc_int_int_by_impl_areLetters_1.f l0).bind fun t432 => (some (!t432))
theorem impl_areLetters.calls (A0 : Option Addr) (c0 : Nat) (l0 : List Int) (r : Bool) (w : World) (hr0 : Kd.C (Kd.int .i64) w A0 l0.length l0) (hc0 : l0.length ≤ c0) (h : impl_areLetters.f l0 = some r) :
  Calls Try.prog 76 #[.slice A0 l0.length c0] w fun e w' => e = .returned (.bool r) ∧ Below w.heap.size w w' := by
 have HR0 := am_ hr0
 have HC0 := am_ hc0
 clear hr0 hc0
 have HB := am_ (Below.refl w.heap.size w)
 have H := h
 clear h
 unfold impl_areLetters.f at H
 obtain ⟨t432, A2, H⟩ := Sh.ba H
 obtain rfl := Option.some.inj H
 go_enter Try.func76, Try.ntmps76
 go_wp2_with (first | ((with_reducible refine Sh.k 95 ?_); refine Sh.gL (some 4) Try.func95 #[.slice A0 l0.length c0, .func (.func 96) #[] #[]] (h := ?_); (with_reducible refine (slices_ContainsFunc_int_int_by_impl_areLetters_1.calls _ _ l0  t432 _ ?side1 ?side2 A2.out).mono ?_); (case side1 => repeat (first | exact HR0.out | (with_reducible first | refine Kd.C_alloc ?_ _ | refine Kd.C_drewN ?_ _ | refine Kd.C_drew ?_))); (case side2 => exact HC0.out); rintro e w3 ⟨rfl, hb⟩; refine ⟨_, rfl, ?_⟩; replace HB := Sh.hb hb; (try clear hb); (try clear hb2); (try clear hk); (try clear hi)))
 go_ret
 exact ⟨Sh.eR, Sh.bw⟩
def impl_GoodLasso.f (l0_0 : List Int) (l0_1 : List Int) : Option (Bool) := if (l0_0.length : Int) ≤ 24 then (if (l0_1.length : Int) ≥ 1 then (if (l0_1.length : Int) ≤ 24 then ((impl_areLetters.f l0_0).bind fun t434 => (if t434 = true then ((impl_areLetters.f l0_1).bind fun t435 => (some t435)) else (some false))) else (some false)) else (some false)) else (some false)
theorem impl_GoodLasso.calls (A0_0 : Option Addr) (c0_0 : Nat) (l0_0 : List Int) (A0_1 : Option Addr) (c0_1 : Nat) (l0_1 : List Int) (r : Bool) (w : World) (hr0_0 : Kd.C (Kd.int .i64) w A0_0 l0_0.length l0_0) (hc0_0 : l0_0.length ≤ c0_0) (hr0_1 : Kd.C (Kd.int .i64) w A0_1 l0_1.length l0_1) (hc0_1 : l0_1.length ≤ c0_1) (h : impl_GoodLasso.f l0_0 l0_1 = some r) :
  Calls Try.prog 51 #[.agg #[.slice A0_0 l0_0.length c0_0, .slice A0_1 l0_1.length c0_1]] w fun e w' => e = .returned (.bool r) ∧ Below w.heap.size w w' := by
 have hu37 := Try.underlying37
 have HR0_0 := am_ hr0_0
 have HC0_0 := am_ hc0_0
 clear hr0_0 hc0_0
 have HR0_1 := am_ hr0_1
 have HC0_1 := am_ hc0_1
 clear hr0_1 hc0_1
 have HB := am_ (Below.refl w.heap.size w)
 have H := h
 clear h
 unfold impl_GoodLasso.f at H
 by_cases c2 : (l0_0.length : Int) ≤ 24
 ·rw [if_pos c2] at H
  have c2b0 := decide_eq_true c2
  have c2b1 : decide (l0_0.length ≤ 24) = true := decide_eq_true (by omega)
  clear c2
  by_cases c3 : (l0_1.length : Int) ≥ 1
  ·rw [if_pos c3] at H
   have c3b0 : decide (1 ≤ (l0_1.length : Int)) = true := decide_eq_true c3
   have c3b1 : decide (1 ≤ l0_1.length) = true := decide_eq_true (by omega)
   clear c3
   by_cases c4 : (l0_1.length : Int) ≤ 24
   ·rw [if_pos c4] at H
    have c4b0 := decide_eq_true c4
    have c4b1 : decide (l0_1.length ≤ 24) = true := decide_eq_true (by omega)
    clear c4
    obtain ⟨t434, A5, H⟩ := Sh.ba H
    by_cases c6 : t434 = true
    ·subst c6
     rw [if_pos rfl] at H
     obtain ⟨t435, A7, H⟩ := Sh.ba H
     obtain rfl := Option.some.inj H
     go_enter Try.func51, Try.ntmps51
     go_wp2_with (first | ((with_reducible refine Sh.d 1 ?_); (try (refine gate_guard (by rfl) ?_; dsimp only)); refine Sh.bz w (N := 1) (cs := #[.slice A0_0 l0_0.length c0_0, .slice A0_1 l0_1.length c0_1]) (t := 37) (h := ?_); clear HB; intro gb433 w8 BK433 GE433 HB; obtain ⟨hcz9_0, hcz9_1, hfz9_0, hfz9_1⟩ := Sh.b2 BK433.out) | (go_at_call 76; (with_reducible refine (impl_areLetters.calls _ _ l0_0 true _ (Sh.cB HR0_0.out) HC0_0.out A5.out).mono ?_); rintro e w10 ⟨rfl, hb⟩; replace BK433 := Sh.ab BK433 hb; replace HB := Sh.hb hb; (try clear hb); (try clear hb2); (try clear hk); (try clear hi); obtain ⟨hcz11_0, hcz11_1, hfz11_0, hfz11_1⟩ := Sh.b2 BK433.out) | (go_at_call 76; (with_reducible refine (impl_areLetters.calls _ _ l0_1 t435 _ (Sh.cB HR0_1.out) HC0_1.out A7.out).mono ?_); rintro e w12 ⟨rfl, hb⟩; replace BK433 := Sh.ab BK433 hb; replace HB := Sh.hb hb; (try clear hb); (try clear hb2); (try clear hk); (try clear hi)))
     go_ret
     exact ⟨Sh.eR, Sh.bw⟩
    ·replace c6 := Bool.eq_false_iff.mpr c6
     subst c6
     rw [Sh.nf] at H
     obtain rfl := Option.some.inj H
     go_enter Try.func51, Try.ntmps51
     go_wp2_with (first | ((with_reducible refine Sh.d 1 ?_); (try (refine gate_guard (by rfl) ?_; dsimp only)); refine Sh.bz w (N := 1) (cs := #[.slice A0_0 l0_0.length c0_0, .slice A0_1 l0_1.length c0_1]) (t := 37) (h := ?_); clear HB; intro gb433 w13 BK433 GE433 HB; obtain ⟨hcz14_0, hcz14_1, hfz14_0, hfz14_1⟩ := Sh.b2 BK433.out) | (go_at_call 76; (with_reducible refine (impl_areLetters.calls _ _ l0_0 false _ (Sh.cB HR0_0.out) HC0_0.out A5.out).mono ?_); rintro e w15 ⟨rfl, hb⟩; replace BK433 := Sh.ab BK433 hb; replace HB := Sh.hb hb; (try clear hb); (try clear hb2); (try clear hk); (try clear hi)))
     go_ret
     exact ⟨Sh.eR, Sh.bw⟩
   ·rw [if_neg c4] at H
    have c4b0 := decide_eq_false c4
    have c4b1 : decide (l0_1.length ≤ 24) = false := decide_eq_false (by omega)
    clear c4
    obtain rfl := Option.some.inj H
    go_enter Try.func51, Try.ntmps51
    go_wp2_with (first | ((with_reducible refine Sh.d 1 ?_); (try (refine gate_guard (by rfl) ?_; dsimp only)); refine Sh.bz w (N := 1) (cs := #[.slice A0_0 l0_0.length c0_0, .slice A0_1 l0_1.length c0_1]) (t := 37) (h := ?_); clear HB; intro gb433 w16 BK433 GE433 HB; obtain ⟨hcz17_0, hcz17_1, hfz17_0, hfz17_1⟩ := Sh.b2 BK433.out))
    go_ret
    exact ⟨Sh.eR, Sh.bw⟩
  ·rw [if_neg c3] at H
   have c3b0 : decide (1 ≤ (l0_1.length : Int)) = false := decide_eq_false c3
   have c3b1 : decide (1 ≤ l0_1.length) = false := decide_eq_false (by omega)
   clear c3
   obtain rfl := Option.some.inj H
   go_enter Try.func51, Try.ntmps51
   go_wp2_with (first | ((with_reducible refine Sh.d 1 ?_); (try (refine gate_guard (by rfl) ?_; dsimp only)); refine Sh.bz w (N := 1) (cs := #[.slice A0_0 l0_0.length c0_0, .slice A0_1 l0_1.length c0_1]) (t := 37) (h := ?_); clear HB; intro gb433 w18 BK433 GE433 HB; obtain ⟨hcz19_0, hcz19_1, hfz19_0, hfz19_1⟩ := Sh.b2 BK433.out))
   go_ret
   exact ⟨Sh.eR, Sh.bw⟩
 ·rw [if_neg c2] at H
  have c2b0 := decide_eq_false c2
  have c2b1 : decide (l0_0.length ≤ 24) = false := decide_eq_false (by omega)
  clear c2
  obtain rfl := Option.some.inj H
  go_enter Try.func51, Try.ntmps51
  go_wp2_with (first | ((with_reducible refine Sh.d 1 ?_); (try (refine gate_guard (by rfl) ?_; dsimp only)); refine Sh.bz w (N := 1) (cs := #[.slice A0_0 l0_0.length c0_0, .slice A0_1 l0_1.length c0_1]) (t := 37) (h := ?_); clear HB; intro gb433 w20 BK433 GE433 HB; obtain ⟨hcz21_0, hcz21_1, hfz21_0, hfz21_1⟩ := Sh.b2 BK433.out))
  go_ret
  exact ⟨Sh.eR, Sh.bw⟩
def impl_isIndex.f (a0 : Int) : Option (Bool) := if a0 ≥ 0 then (some (decide (a0 ≤ 1000))) else (some false)
theorem impl_isIndex.calls (a0 : Int) (r : Bool) (w : World) (h : impl_isIndex.f a0 = some r) :
  Calls Try.prog 52 #[.int .i64 a0] w fun e w' => e = .returned (.bool r) ∧ Drawn0 w w' := by
 have H := h
 clear h
 unfold impl_isIndex.f at H
 by_cases c2 : a0 ≥ 0
 ·rw [if_pos c2] at H
  have c2b0 : decide (0 ≤ a0) = true := decide_eq_true c2
  clear c2
  obtain rfl := Option.some.inj H
  go_enter Try.func52, Try.ntmps52
  go_wp2
  go_ret
  exact ⟨Sh.es, Sh.dr⟩
 ·rw [if_neg c2] at H
  have c2b0 : decide (0 ≤ a0) = false := decide_eq_false c2
  clear c2
  obtain rfl := Option.some.inj H
  go_enter Try.func52, Try.ntmps52
  go_wp2
  go_ret
  exact ⟨Sh.es, Sh.dr⟩
def impl_Lasso_letterAt.f (l0_0 : List Int) (l0_1 : List Int) (a1 : Int) : Option (Int) := if a1 < (l0_0.length : Int) then (if 0 ≤ a1 then (some (rd l0_0 a1)) else (none)) else (if (l0_1.length : Int) = 0 then (none) else (if 0 ≤ (Int.tmod (wrap64 (a1 - (l0_0.length : Int))) (l0_1.length : Int)) then (if (Int.tmod (wrap64 (a1 - (l0_0.length : Int))) (l0_1.length : Int)) < (l0_1.length : Int) then (some (rd l0_1 (Int.tmod (wrap64 (a1 - (l0_0.length : Int))) (l0_1.length : Int)))) else (none)) else (none)))
theorem impl_Lasso_letterAt.calls (A0_0 : Option Addr) (c0_0 : Nat) (l0_0 : List Int) (A0_1 : Option Addr) (c0_1 : Nat) (l0_1 : List Int) (a1 : Int) (r : Int) (w : World) (hr0_0 : Kd.C (Kd.int .i64) w A0_0 l0_0.length l0_0) (hc0_0 : l0_0.length ≤ c0_0) (hr0_1 : Kd.C (Kd.int .i64) w A0_1 l0_1.length l0_1) (hc0_1 : l0_1.length ≤ c0_1) (h : impl_Lasso_letterAt.f l0_0 l0_1 a1 = some r) :
  Calls Try.prog 79 #[.agg #[.slice A0_0 l0_0.length c0_0, .slice A0_1 l0_1.length c0_1], .int .i64 a1] w fun e w' => e = .returned (.int .i64 r) ∧ Below w.heap.size w w' := by
 have hu37 := Try.underlying37
 have HR0_0 := am_ hr0_0
 have HC0_0 := am_ hc0_0
 clear hr0_0 hc0_0
 have HR0_1 := am_ hr0_1
 have HC0_1 := am_ hc0_1
 clear hr0_1 hc0_1
 have HB := am_ (Below.refl w.heap.size w)
 have H := h
 clear h
 unfold impl_Lasso_letterAt.f at H
 by_cases c3 : a1 < (l0_0.length : Int)
 ·rw [if_pos c3] at H
  have c3b0 := decide_eq_true c3
  clear c3
  by_cases c4 : 0 ≤ a1
  ·rw [if_pos c4] at H
   have c4b0 := decide_eq_true c4
   clear c4
   obtain rfl := Option.some.inj H
   go_enter Try.func79, Try.ntmps79
   go_wp2_with (first | ((with_reducible refine Sh.d 2 ?_); refine Sh.bz w (N := 2) (cs := #[.slice A0_0 l0_0.length c0_0, .slice A0_1 l0_1.length c0_1]) (t := 37) (h := ?_); clear HB; intro gb436 w5 BK436 GE436 HB; obtain ⟨hcz6_0, hcz6_1, hfz6_0, hfz6_1⟩ := Sh.b2 BK436.out; have p437 : 0 ≤ (a1 : Int) := Sh.od; have q437 : a1 < (l0_0.length : Int) := Sh.od; obtain ⟨ad437, e437, hx437_0⟩ := Kd.at_int HR0_0.out a1 p437 q437; cases e437; replace hx437_0 := (HB.out.cell (World.block_lt_of_cell? w _ hx437_0)).trans hx437_0; replace p437 := eq_true p437; replace q437 := eq_true q437))
   repeat (go_quiet (first | ((with_reducible refine Sh.d 2 ?_); refine Sh.bz w (N := 2) (cs := #[.slice A0_0 l0_0.length c0_0, .slice A0_1 l0_1.length c0_1]) (t := 37) (h := ?_); clear HB; intro gb436 w5 BK436 GE436 HB; obtain ⟨hcz6_0, hcz6_1, hfz6_0, hfz6_1⟩ := Sh.b2 BK436.out; have p437 : 0 ≤ (a1 : Int) := Sh.od; have q437 : a1 < (l0_0.length : Int) := Sh.od; obtain ⟨ad437, e437, hx437_0⟩ := Kd.at_int HR0_0.out a1 p437 q437; cases e437; replace hx437_0 := (HB.out.cell (World.block_lt_of_cell? w _ hx437_0)).trans hx437_0; replace p437 := eq_true p437; replace q437 := eq_true q437)); try go_wp2_with (first | ((with_reducible refine Sh.d 2 ?_); refine Sh.bz w (N := 2) (cs := #[.slice A0_0 l0_0.length c0_0, .slice A0_1 l0_1.length c0_1]) (t := 37) (h := ?_); clear HB; intro gb436 w5 BK436 GE436 HB; obtain ⟨hcz6_0, hcz6_1, hfz6_0, hfz6_1⟩ := Sh.b2 BK436.out; have p437 : 0 ≤ (a1 : Int) := Sh.od; have q437 : a1 < (l0_0.length : Int) := Sh.od; obtain ⟨ad437, e437, hx437_0⟩ := Kd.at_int HR0_0.out a1 p437 q437; cases e437; replace hx437_0 := (HB.out.cell (World.block_lt_of_cell? w _ hx437_0)).trans hx437_0; replace p437 := eq_true p437; replace q437 := eq_true q437)))
   go_ret
   exact ⟨Sh.eR, Sh.bw⟩
  ·rw [if_neg c4] at H
   exact absurd H (by simp)
 ·rw [if_neg c3] at H
  have c3b0 := decide_eq_false c3
  clear c3
  by_cases c7 : (l0_1.length : Int) = 0
  ·rw [if_pos c7] at H
   exact absurd H (by simp)
  ·rw [if_neg c7] at H
   have c7b0 : ((l0_1.length : Int) == 0) = false := beq_eq_false_iff_ne.mpr c7
   have c7b1 : ((l0_1.length : Int) != 0) = true := bne_iff_ne.mpr c7
   have c7b2 : ¬ (l0_1 = []) := fun h_ => c7 (by rw [h_]; rfl)
   obtain ⟨ji8, hj1⟩ : ∃ j_ : Int, (Int.tmod (wrap64 (a1 - (l0_0.length : Int))) (l0_1.length : Int)) = j_ := ⟨_, rfl⟩
   replace H : (if 0 ≤ (ji8) then (if (ji8) < (l0_1.length : Int) then (some (rd l0_1 (ji8))) else (none)) else (none)) = some r := by first | (rw [hj1] at H; exact H) | (simp only [hj1] at H ⊢; exact H)
   by_cases c9 : 0 ≤ (ji8)
   ·rw [if_pos c9] at H
    have c9b0 := decide_eq_true c9
    clear c9
    by_cases c10 : (ji8) < (l0_1.length : Int)
    ·rw [if_pos c10] at H
     have c10b0 := decide_eq_true c10
     clear c10
     obtain rfl := Option.some.inj H
     go_enter Try.func79, Try.ntmps79
     go_wp2_with (first | ((with_reducible refine Sh.d 2 ?_); refine Sh.bz w (N := 2) (cs := #[.slice A0_0 l0_0.length c0_0, .slice A0_1 l0_1.length c0_1]) (t := 37) (h := ?_); clear HB; intro gb436 w11 BK436 GE436 HB; obtain ⟨hcz12_0, hcz12_1, hfz12_0, hfz12_1⟩ := Sh.b2 BK436.out; have p438 : 0 ≤ ((ji8) : Int) := Sh.od; have q438 : (ji8) < (l0_1.length : Int) := Sh.od; obtain ⟨ad438, e438, hx438_0⟩ := Kd.at_int HR0_1.out (ji8) p438 q438; cases e438; replace hx438_0 := (HB.out.cell (World.block_lt_of_cell? w _ hx438_0)).trans hx438_0; replace p438 := eq_true p438; replace q438 := eq_true q438))
     repeat (go_quiet (first | ((with_reducible refine Sh.d 2 ?_); refine Sh.bz w (N := 2) (cs := #[.slice A0_0 l0_0.length c0_0, .slice A0_1 l0_1.length c0_1]) (t := 37) (h := ?_); clear HB; intro gb436 w11 BK436 GE436 HB; obtain ⟨hcz12_0, hcz12_1, hfz12_0, hfz12_1⟩ := Sh.b2 BK436.out; have p438 : 0 ≤ ((ji8) : Int) := Sh.od; have q438 : (ji8) < (l0_1.length : Int) := Sh.od; obtain ⟨ad438, e438, hx438_0⟩ := Kd.at_int HR0_1.out (ji8) p438 q438; cases e438; replace hx438_0 := (HB.out.cell (World.block_lt_of_cell? w _ hx438_0)).trans hx438_0; replace p438 := eq_true p438; replace q438 := eq_true q438)); try go_wp2_with (first | ((with_reducible refine Sh.d 2 ?_); refine Sh.bz w (N := 2) (cs := #[.slice A0_0 l0_0.length c0_0, .slice A0_1 l0_1.length c0_1]) (t := 37) (h := ?_); clear HB; intro gb436 w11 BK436 GE436 HB; obtain ⟨hcz12_0, hcz12_1, hfz12_0, hfz12_1⟩ := Sh.b2 BK436.out; have p438 : 0 ≤ ((ji8) : Int) := Sh.od; have q438 : (ji8) < (l0_1.length : Int) := Sh.od; obtain ⟨ad438, e438, hx438_0⟩ := Kd.at_int HR0_1.out (ji8) p438 q438; cases e438; replace hx438_0 := (HB.out.cell (World.block_lt_of_cell? w _ hx438_0)).trans hx438_0; replace p438 := eq_true p438; replace q438 := eq_true q438)))
     go_ret
     exact ⟨by first | rfl | (simp [errW_none, errW_some] <;> rfl) | (simp only [← hj1]; first | rfl | (simp [errW_none, errW_some] <;> rfl)) | (simp [*, errW_none, errW_some] <;> rfl), Sh.bw⟩
    ·rw [if_neg c10] at H
     exact absurd H (by simp)
   ·rw [if_neg c9] at H
    exact absurd H (by simp)
def laws_markLasso.f (k : Nat) (l0_0 : List Int) (l0_1 : List Int) (a1 : Int) : Option (Int × List Int × List Int) := (laws_markIntS.f k l0_0 a1).bind fun bt492 => ((laws_markIntS.f k l0_1 bt492.1).bind fun bt494 => (some (bt494.1, bt492.2, bt494.2)))
theorem laws_markLasso.mono : ∀ a0 a1 a2 k, LeO (laws_markLasso.f k a0 a1 a2) (laws_markLasso.f (k + 1) a0 a1 a2) := by
 intro a0 a1 a2 k
 unfold laws_markLasso.f
 repeat' with_reducible first | apply laws_markIntS.mono | exact LeO.refl _ | exact LeO.none _ | apply LeO.ite | refine LeO.bind ?_ fun _ => ?_
theorem laws_markLasso.calls (k : Nat) (P0_0_ : Nat → Prop) (u9000_ : Value) (l0_0 : List Int) (P0_1_ : Nat → Prop) (u9001_ : Value) (l0_1 : List Int) (a1 : Int) (r1 : Int) (r2 : List Int) (r3 : List Int) (w0 w : World) (hB : Below w0.heap.size w0 w) (ho0_0 : Kd.R (Kd.int .i64) 3 w w0.heap.size P0_0_ u9000_ l0_0) (hp0_0_0_1 : ∀ k_, P0_0_ k_ → ¬ P0_1_ k_) (ho0_1 : Kd.R (Kd.int .i64) 3 w w0.heap.size P0_1_ u9001_ l0_1) (hp0_1_0_0 : ∀ k_, P0_1_ k_ → ¬ P0_0_ k_) (h : laws_markLasso.f k l0_0 l0_1 a1 = some (r1, r2, r3)) :
  Calls Try.prog 24 #[.agg #[u9000_, u9001_], .int .i64 a1] w fun e w' => e = .returned (.int .i64 r1) ∧ Kd.R (Kd.int .i64) 3 w' w0.heap.size (fun k_ => ((P0_0_ k_ ∨ P0_1_ k_) ∨ w.heap.size ≤ k_)) u9000_ r2 ∧ Kd.R (Kd.int .i64) 3 w' w0.heap.size (fun k_ => ((P0_0_ k_ ∨ P0_1_ k_) ∨ w.heap.size ≤ k_)) u9001_ r3 ∧ Below w0.heap.size w0 w' ∧ Kept w w' (fun k_ => P0_0_ k_ ∨ P0_1_ k_) := by
 have hu37 := Try.underlying37
 have HO0_0 := am_ (show Kd.R (Kd.int .i64) 3 w w0.heap.size (fun k_ => ((P0_0_ k_ ∨ P0_1_ k_) ∨ w.heap.size ≤ k_) ∧ some k_ ≠ (u9001_ : Value).ownBlock) u9000_ l0_0 from Kd.R_mono ho0_0 (fun k_ hk => ⟨(.inl (.inl hk)), fun e_ => hp0_0_0_1 k_ hk (ho0_1.1 k_ e_.symm)⟩))
 have HO0_1 := am_ (show Kd.R (Kd.int .i64) 3 w w0.heap.size (fun k_ => ((P0_0_ k_ ∨ P0_1_ k_) ∨ w.heap.size ≤ k_) ∧ some k_ ≠ (u9000_ : Value).ownBlock) u9001_ l0_1 from Kd.R_mono ho0_1 (fun k_ hk => ⟨(.inl (.inr hk)), fun e_ => hp0_1_0_0 k_ hk (ho0_0.1 k_ e_.symm)⟩))
 have HK := am_ (Kept.refl w (fun k_ => P0_0_ k_ ∨ P0_1_ k_))
 have HW0 := am_ hB.size
 have HB := am_ hB
 clear hB
 have H := h
 clear h
 unfold laws_markLasso.f at H
 obtain ⟨⟨t492, t493⟩, A30, H⟩ := Sh.bd H
 have A3 := am_ A30
 clear A30
 obtain ⟨⟨t494, t495⟩, A40, H⟩ := Sh.bd H
 have A4 := am_ A40
 clear A40
 simp only [Option.some.injEq, Prod.mk.injEq] at H
 obtain ⟨rfl, rfl, rfl⟩ := H
 obtain ⟨Ao5, co5, eo5⟩ := Kd.R_slice HO0_0.out
 subst eo5
 obtain ⟨Ao6, co6, eo6⟩ := Kd.R_slice HO0_1.out
 subst eo6
 go_enter Try.func24, Try.ntmps24
 go_wp2_with (first | ((with_reducible refine Sh.d 2 ?_); refine Sh.bx (N := 2) (cs := #[.slice Ao5 l0_0.length co5, .slice Ao6 l0_1.length co6]) (t := 37) (h := ?_); intro gb491 hg w7 hbox hb; replace HO0_0 := am_ (Kd.R_below (Sh.rl HO0_0.out) hb); replace HO0_1 := am_ (Kd.R_below (Sh.rl HO0_1.out) hb); have BK491 := am_ hbox; have GW491 := am_ ((by rw [hg]; exact (by first | exact HK.out.1 | exact (show Kept w _ (fun k_ => P0_0_ k_ ∨ P0_1_ k_) from by repeat (first | (with_reducible first | exact HK.out | apply Kept.alloc | apply Kept.drewN | apply Kept.drew) | exact HK.out)).1) : w.heap.size ≤ gb491)); replace HK := am_ (Kept.below (S := (fun k_ => P0_0_ k_ ∨ P0_1_ k_)) (by repeat (first | (with_reducible first | exact HK.out | apply Kept.alloc | apply Kept.drewN | apply Kept.drew) | exact HK.out)) hb); have GE491 := am_ ((by rw [hg]; exact (below_size Sh.bw) : w0.heap.size ≤ gb491)); replace HB := Sh.hb hb; clear hb hbox hg; obtain ⟨hcz8_0, hcz8_1, hfz8_0, hfz8_1⟩ := Sh.b2 BK491.out) | ((with_reducible refine Sh.k 17 ?_); refine Sh.gL (some 8) Try.func17 #[.slice Ao5 l0_0.length co5, .int .i64 a1] (h := ?_); (with_reducible refine (laws_markIntS.calls k (fun k_ => some k_ = (.slice Ao5 l0_0.length co5 : Value).ownBlock) (.slice Ao5 l0_0.length co5) l0_0 a1 t492 t493 w0 _ ?side1 ?side2 A3.out).mono ?_); (case side1 => repeat (first | (with_reducible first | exact HB.out | apply below_alloc | apply pw_below_drewN | apply below_drew1 | refine below_set ?_ GE491.out) | exact HB.out)); (case side2 => exact Kd.R_tight rfl HO0_0.out); rintro e w9 ⟨rfl, hy0, hb, hkp⟩; refine ⟨_, rfl, ?_⟩; replace HO0_1 := am_ (Kd.R_mono (ok' := fun k_ => ((P0_0_ k_ ∨ P0_1_ k_) ∨ w.heap.size ≤ k_) ∧ some k_ ≠ (.slice Ao5 l0_0.length co5 : Value).ownBlock) (Kd.R_keptB (HO0_1.out) hkp (fun k_ hk_ hs_ => (hk_.2) hs_)) (fun k_ h => ⟨h.1.1, h.1.2⟩)); replace BK491 := am_ (blk_kept (Sh.pl BK491.out) hkp (fun hs_ => (fun e_ => (Kd.R_ne HO0_0.out BK491.out (by decide)) e_) hs_)); replace HK := am_ (Kept.then_ (S := (fun k_ => P0_0_ k_ ∨ P0_1_ k_)) (by repeat (first | (with_reducible first | exact HK.out | apply Kept.alloc | apply Kept.drewN | apply Kept.drew | refine Kept.setCell ?_ (.inr GW491.out) _) | exact HK.out)) hkp (fun k_ hs_ => (fun e_ => (HO0_0.out.1 k_ e_.symm).1) hs_)); replace HO0_0 := am_ (Kd.R_reok rfl hy0 (fun k_ e_ => HO0_0.out.1 k_ e_)); replace HB := am_ hb; (try clear hb); (try clear hkp); (try clear hy0); obtain ⟨hcz10_0, hcz10_1, hfz10_0, hfz10_1⟩ := Sh.b2 BK491.out) | ((with_reducible refine Sh.k 17 ?_); refine Sh.gL (some 12) Try.func17 #[.slice Ao6 l0_1.length co6, .int .i64 t492] (h := ?_); (with_reducible refine (laws_markIntS.calls k (fun k_ => some k_ = (.slice Ao6 l0_1.length co6 : Value).ownBlock) (.slice Ao6 l0_1.length co6) l0_1 t492 t494 t495 w0 _ ?side1 ?side2 A4.out).mono ?_); (case side1 => repeat (first | (with_reducible first | exact HB.out | apply below_alloc | apply pw_below_drewN | apply below_drew1 | refine below_set ?_ GE491.out) | exact HB.out)); (case side2 => exact Kd.R_tight rfl HO0_1.out); rintro e w11 ⟨rfl, hy0, hb, hkp⟩; refine ⟨_, rfl, ?_⟩; replace HO0_0 := am_ (Kd.R_mono (ok' := fun k_ => ((P0_0_ k_ ∨ P0_1_ k_) ∨ w.heap.size ≤ k_) ∧ some k_ ≠ (.slice Ao6 l0_1.length co6 : Value).ownBlock) (Kd.R_keptB (HO0_0.out) hkp (fun k_ hk_ hs_ => (hk_.2) hs_)) (fun k_ h => ⟨h.1.1, h.1.2⟩)); replace BK491 := am_ (blk_kept (Sh.pl BK491.out) hkp (fun hs_ => (fun e_ => (Kd.R_ne HO0_1.out BK491.out (by decide)) e_) hs_)); replace HK := am_ (Kept.then_ (S := (fun k_ => P0_0_ k_ ∨ P0_1_ k_)) (by repeat (first | (with_reducible first | exact HK.out | apply Kept.alloc | apply Kept.drewN | apply Kept.drew | refine Kept.setCell ?_ (.inr GW491.out) _) | exact HK.out)) hkp (fun k_ hs_ => (fun e_ => (HO0_1.out.1 k_ e_.symm).1) hs_)); replace HO0_1 := am_ (Kd.R_reok rfl hy0 (fun k_ e_ => HO0_1.out.1 k_ e_)); replace HB := am_ hb; (try clear hb); (try clear hkp); (try clear hy0)))
 go_ret
 exact ⟨Sh.eR, Sh.rl (Kd.R_mono HO0_0.out (fun _ hk => hk.1)), Sh.rl (Kd.R_mono HO0_1.out (fun _ hk => hk.1)), Sh.bw, by repeat (first | (with_reducible first | exact HK.out | apply Kept.alloc | apply Kept.drewN | apply Kept.drew | refine Kept.setCell ?_ (.inr GW491.out) _) | exact HK.out)⟩
def laws_heldLasso.f (k : Nat) (l0_0 : List Int) (l0_1 : List Int) (a1 : Int) : Option (Int) := (laws_heldIntS.f k l0_0 a1).bind fun t497 => (if t497 < 0 then (some (-1)) else ((laws_heldIntS.f k l0_1 t497).bind fun t498 => (if t498 < 0 then (some (-1)) else (some t498))))
theorem laws_heldLasso.mono : ∀ a0 a1 a2 k, LeO (laws_heldLasso.f k a0 a1 a2) (laws_heldLasso.f (k + 1) a0 a1 a2) := by
 intro a0 a1 a2 k
 unfold laws_heldLasso.f
 repeat' with_reducible first | apply laws_heldIntS.mono | exact LeO.refl _ | exact LeO.none _ | apply LeO.ite | refine LeO.bind ?_ fun _ => ?_
theorem laws_heldLasso.calls (k : Nat) (A0_0 : Option Addr) (c0_0 : Nat) (l0_0 : List Int) (A0_1 : Option Addr) (c0_1 : Nat) (l0_1 : List Int) (a1 : Int) (r : Int) (w : World) (hr0_0 : Kd.C (Kd.int .i64) w A0_0 l0_0.length l0_0) (hc0_0 : l0_0.length ≤ c0_0) (hr0_1 : Kd.C (Kd.int .i64) w A0_1 l0_1.length l0_1) (hc0_1 : l0_1.length ≤ c0_1) (h : laws_heldLasso.f k l0_0 l0_1 a1 = some r) :
  Calls Try.prog 25 #[.agg #[.slice A0_0 l0_0.length c0_0, .slice A0_1 l0_1.length c0_1], .int .i64 a1] w fun e w' => e = .returned (.int .i64 r) ∧ Below w.heap.size w w' := by
 have hu37 := Try.underlying37
 have HR0_0 := am_ hr0_0
 have HC0_0 := am_ hc0_0
 clear hr0_0 hc0_0
 have HR0_1 := am_ hr0_1
 have HC0_1 := am_ hc0_1
 clear hr0_1 hc0_1
 have HB := am_ (Below.refl w.heap.size w)
 have H := h
 clear h
 unfold laws_heldLasso.f at H
 obtain ⟨t497, A3, H⟩ := Sh.ba H
 by_cases c4 : t497 < 0
 ·rw [if_pos c4] at H
  have c4b0 := decide_eq_true c4
  clear c4
  obtain rfl := Option.some.inj H
  go_enter Try.func25, Try.ntmps25
  go_wp2_with (first | ((with_reducible refine Sh.d 2 ?_); refine Sh.bz w (N := 2) (cs := #[.slice A0_0 l0_0.length c0_0, .slice A0_1 l0_1.length c0_1]) (t := 37) (h := ?_); clear HB; intro gb496 w5 BK496 GE496 HB; obtain ⟨hcz6_0, hcz6_1, hfz6_0, hfz6_1⟩ := Sh.b2 BK496.out) | ((with_reducible refine Sh.k 18 ?_); refine Sh.gD (some 8) Try.func18 #[.slice A0_0 l0_0.length c0_0, .int .i64 a1] (laws_heldIntS.calls k _ _ l0_0 a1 t497 _ (Sh.cB HR0_0.out) HC0_0.out A3.out) fun nd => ?_))
  go_ret
  exact ⟨Sh.eR, Sh.bw⟩
 ·rw [if_neg c4] at H
  have c4b0 := decide_eq_false c4
  clear c4
  obtain ⟨t498, A7, H⟩ := Sh.ba H
  by_cases c8 : t498 < 0
  ·rw [if_pos c8] at H
   have c8b0 := decide_eq_true c8
   clear c8
   obtain rfl := Option.some.inj H
   go_enter Try.func25, Try.ntmps25
   go_wp2_with (first | ((with_reducible refine Sh.d 2 ?_); refine Sh.bz w (N := 2) (cs := #[.slice A0_0 l0_0.length c0_0, .slice A0_1 l0_1.length c0_1]) (t := 37) (h := ?_); clear HB; intro gb496 w9 BK496 GE496 HB; obtain ⟨hcz10_0, hcz10_1, hfz10_0, hfz10_1⟩ := Sh.b2 BK496.out) | ((with_reducible refine Sh.k 18 ?_); refine Sh.gD (some 8) Try.func18 #[.slice A0_0 l0_0.length c0_0, .int .i64 a1] (laws_heldIntS.calls k _ _ l0_0 a1 t497 _ (Sh.cB HR0_0.out) HC0_0.out A3.out) fun nd => ?_) | ((with_reducible refine Sh.k 18 ?_); refine Sh.gD (some 14) Try.func18 #[.slice A0_1 l0_1.length c0_1, .int .i64 t497] (laws_heldIntS.calls k _ _ l0_1 t497 t498 _ (Sh.cB HR0_1.out) HC0_1.out A7.out) fun nd => ?_))
   go_ret
   exact ⟨Sh.eR, Sh.bw⟩
  ·rw [if_neg c8] at H
   have c8b0 := decide_eq_false c8
   clear c8
   obtain rfl := Option.some.inj H
   go_enter Try.func25, Try.ntmps25
   go_wp2_with (first | ((with_reducible refine Sh.d 2 ?_); refine Sh.bz w (N := 2) (cs := #[.slice A0_0 l0_0.length c0_0, .slice A0_1 l0_1.length c0_1]) (t := 37) (h := ?_); clear HB; intro gb496 w11 BK496 GE496 HB; obtain ⟨hcz12_0, hcz12_1, hfz12_0, hfz12_1⟩ := Sh.b2 BK496.out) | ((with_reducible refine Sh.k 18 ?_); refine Sh.gD (some 8) Try.func18 #[.slice A0_0 l0_0.length c0_0, .int .i64 a1] (laws_heldIntS.calls k _ _ l0_0 a1 t497 _ (Sh.cB HR0_0.out) HC0_0.out A3.out) fun nd => ?_) | ((with_reducible refine Sh.k 18 ?_); refine Sh.gD (some 14) Try.func18 #[.slice A0_1 l0_1.length c0_1, .int .i64 t497] (laws_heldIntS.calls k _ _ l0_1 t497 t498 _ (Sh.cB HR0_1.out) HC0_1.out A7.out) fun nd => ?_))
   go_ret
   exact ⟨Sh.eR, Sh.bw⟩
def spec_l9First.l0 : Nat → Int → Int → List Int → Int → List Int → List Int → Option (List Int)
 | 0, _, _, _, _, _, _ => none
 | k + 1, x1, x2, x7, x8, x500000, x500001 => if x8 < (wrap64 (x1 + x2)) then ((spec_l9At.f x500000 x500001 x8).bind fun t500 => (if x7.length < 17592186044416 then (spec_l9First.l0 k x1 x2 (x7 ++ [t500]) (wrap64 (x8 + 1)) x500000 x500001) else (none))) else (some x7)
def spec_l9First.f (k : Nat) (l0_0 : List Int) (l0_1 : List Int) (a1 : Int) (a2 : Int) : Option (List Int) := spec_l9First.l0 k a1 a2 ([] : List Int) a1 l0_0 l0_1
theorem spec_l9First.mono_l : ∀ k, (∀ y0 y1 y2 y3 y4 y5, LeO (spec_l9First.l0 k y0 y1 y2 y3 y4 y5) (spec_l9First.l0 (k + 1) y0 y1 y2 y3 y4 y5))
 | 0 => fun _ _ _ _ _ _ r h => by simp [spec_l9First.l0] at h
 | k + 1 => by
  have ih0 := spec_l9First.mono_l k
  ·intro y0 y1 y2 y3 y4 y5
   unfold spec_l9First.l0
   repeat' with_reducible first | apply ih0 | exact LeO.refl _ | exact LeO.none _ | apply LeO.ite | refine LeO.bind ?_ fun _ => ?_
theorem spec_l9First.mono : ∀ a0 a1 a2 a3 k, LeO (spec_l9First.f k a0 a1 a2 a3) (spec_l9First.f (k + 1) a0 a1 a2 a3) := by
 intro a0 a1 a2 a3 k
 have ih0 := spec_l9First.mono_l k
 unfold spec_l9First.f
 repeat' with_reducible first | apply ih0 | exact LeO.refl _ | exact LeO.none _ | apply LeO.ite | refine LeO.bind ?_ fun _ => ?_
theorem spec_l9First.calls (k : Nat) (A0_0 : Option Addr) (c0_0 : Nat) (l0_0 : List Int) (A0_1 : Option Addr) (c0_1 : Nat) (l0_1 : List Int) (a1 : Int) (a2 : Int) (r : List Int) (w : World) (hr0_0 : Kd.C (Kd.int .i64) w A0_0 l0_0.length l0_0) (hc0_0 : l0_0.length ≤ c0_0) (hr0_1 : Kd.C (Kd.int .i64) w A0_1 l0_1.length l0_1) (hc0_1 : l0_1.length ≤ c0_1) (h : spec_l9First.f k l0_0 l0_1 a1 a2 = some r) :
  Calls Try.prog 46 #[.agg #[.slice A0_0 l0_0.length c0_0, .slice A0_1 l0_1.length c0_1], .int .i64 a1, .int .i64 a2] w fun e w' => ∃ v0_ : Value, e = .returned (v0_) ∧ Kd.R (Kd.int .i64) 3 w' w.heap.size (fun _ => True) v0_ r ∧ Below w.heap.size w w' := by
 have hu37 := Try.underlying37
 have HR0_0 := am_ hr0_0
 have HC0_0 := am_ hc0_0
 clear hr0_0 hc0_0
 have HR0_1 := am_ hr0_1
 have HC0_1 := am_ hc0_1
 clear hr0_1 hc0_1
 have HB := am_ (Below.refl w.heap.size w)
 have H := h
 clear h
 unfold spec_l9First.f at H
 have H' := am_ H
 clear H
 go_enter Try.func46, Try.ntmps46
 go_wp2_with (first | ((with_reducible refine Sh.d 3 ?_); refine Sh.bz w (N := 3) (cs := #[.slice A0_0 l0_0.length c0_0, .slice A0_1 l0_1.length c0_1]) (t := 37) (h := ?_); clear HB; intro gb499 w4 BK499 GE499 HB))
 go_loopg [7, 8] k (fun kq v7 v8 w' => ∃ (x7_1 : List Int) (x8_1 : Int), v8 = .int .i64 x8_1 ∧ Aside0 (spec_l9First.l0 kq a1 a2 x7_1 x8_1 l0_0 l0_1 = some r) ∧ Aside0 (kq ≤ k) ∧ Aside0 (Kd.R (Kd.int .i64) 3 w' w.heap.size (fun _ => True) v7 x7_1) ∧ Aside0 (w'.heap[gb499]? = some (.cells #[(.slice A0_0 l0_0.length c0_0), (.slice A0_1 l0_1.length c0_1)] 37 (0, 0))) ∧ Aside0 (Below w.heap.size w w'))
 case atStart => exact ⟨(([] : List Int)), (a1), (Sh.es), H', ⟨Nat.le_refl _⟩, ⟨by first | exact Kd.R_nil _ _ _ _ _ | exact Kd.N_nil _ _ _ _ _ | exact Kd.V_nil _ _ _ _ _ | exact Kd.Q_nil _ _ _ _ _ | exact Kd.S_nil _ _ _ _ _⟩, ⟨by refine Sh.pl ?_; exact BK499.out⟩, ⟨Sh.bw⟩⟩
 case round =>
  clear H'
  obtain ⟨x7_1, x8_1, rfl, HA, HK1, HO_7, BK499, HB⟩ := hrel
  cases gk with
  | zero => exact absurd HA.out (by simp [spec_l9First.l0])
  | succ k1 =>
   have H := HA.out
   clear HA
   simp only [spec_l9First.l0] at H
   by_cases c5 : x8_1 < (wrap64 (a1 + a2))
   ·rw [if_pos c5] at H
    have c5b0 := decide_eq_true c5
    clear c5
    obtain ⟨t500, A6, H⟩ := Sh.ba H
    by_cases c7 : x7_1.length < 17592186044416
    ·rw [if_pos c7] at H
     have LMc7 := am_ c7
     clear c7
     obtain ⟨y501, hy501⟩ : ∃ y_ : List Int, y_ = (x7_1 ++ [t500]) := ⟨_, rfl⟩
     replace H : (spec_l9First.l0 k1 a1 a2 y501 (wrap64 (x8_1 + 1)) l0_0 l0_1) = some r := by first | (rw [hy501]; with_reducible exact H) | (have H2_ := (Option.bind_some _ _).symm.trans H; rw [hy501]; with_reducible exact H2_) | (have H2_ := (Option.bind_some _ _).symm.trans H; with_reducible exact H2_) | with_reducible exact H | (rw [hy501]; exact H) | exact H
     have Ny501 := am_ hy501
     clear hy501
     have H' := am_ H
     clear H
     have hcz8_0 := Sh.bc BK499.out 0
     have hcz8_1 := Sh.bc BK499.out 1
     have hfz8_0 := blk_frozen BK499.out 0
     have hfz8_1 := blk_frozen BK499.out 1
     go_wp2_with (first | ((with_reducible refine Sh.k 47 ?_); refine Sh.gB (some 20) Try.func47 #[.agg #[.slice A0_0 l0_0.length c0_0, .slice A0_1 l0_1.length c0_1], .int .i64 x8_1] (spec_l9At.calls _ _ l0_0 _ _ l0_1 x8_1 t500 _ (Sh.cB HR0_0.out) HC0_0.out (Sh.cB HR0_1.out) HC0_1.out A6.out) fun w9 hb => ?_; replace HO_7 := am_ (Kd.R_below (Sh.rl HO_7.out) hb); replace BK499 := Sh.ab BK499 hb; replace HB := Sh.hb hb; (try clear hb); (try clear hb2); (try clear hk); (try clear hi)) | ((with_reducible refine gate_builtin (b := .append) (xs := #[.tmp 17, .tmp 21]) rfl ?_); at_builtin; refine Kd.R_append (Kd.int .i64) (w0 := w) w.heap.size rfl (.tmp 17) (.tmp 21) 24 3 (.int .i64 0) 8 rfl Try.underlying24 info3 rfl (by decide) (by omega) u7 x7_1 t500 [.int .i64 t500] (fun _ => True) (fun _ => False) rfl rfl ?aP (fun _ hk => hk.elim) ?aF ?aO ?aB ?aS ?aL ?_; (case aP => exact rfl); (case aB => exact Sh.bw); (case aF => exact (fun _ _ => trivial)); (case aO => exact (Sh.rl HO_7.out)); (case aS => exact (below_size Sh.bw)); (case aL => have := LMc7.out; omega); intro v502 w10 ho hb hg hat; rw [← Ny501.out] at ho; have n0_ := am_ (blk_grown (g := gb499) (o := .cells #[.slice A0_0 l0_0.length c0_0, .slice A0_1 l0_1.length c0_1] 37 (0, 0)) (Sh.pl BK499.out) hg (Kd.R_ne HO_7.out BK499.out (by decide))); have n1_ := am_ hb; have n2_ := am_ ho; clear BK499; clear HB; clear HO_7; have BK499 := n0_; have HB := n1_; have HO503 := n2_; clear n0_ n1_ n2_; clear ho hb hg hat))
     go_roundg k1
     case measure => have := HK1.out; omega
     case rel => exact ⟨(y501), (wrap64 (x8_1 + 1)), (Sh.es), H', ⟨by have := HK1.out; omega⟩, ⟨Sh.rl HO503.out⟩, ⟨by refine Sh.pl ?_; exact BK499.out⟩, ⟨Sh.bw⟩⟩
    ·rw [if_neg c7] at H
     exact absurd H (by simp)
   ·rw [if_neg c5] at H
    have c5b0 := decide_eq_false c5
    clear c5
    obtain rfl := Option.some.inj H
    go_wp2
    go_ret
    exact ⟨_, Sh.eR, Sh.rl HO_7.out, Sh.bw⟩
def spec_l1Own.f (l0 : List Int) : Option (List Int) := (some (([] : List Int) : List Int)).bind fun y504 => (if y504.length + l0.length < 17592186044416 then (some (y504 ++ l0)) else (none))
theorem spec_l1Own.calls (A0 : Option Addr) (c0 : Nat) (l0 : List Int) (r : List Int) (w : World) (hr0 : Kd.C (Kd.int .i64) w A0 l0.length l0) (hc0 : l0.length ≤ c0) (h : spec_l1Own.f l0 = some r) :
  Calls Try.prog 49 #[.slice A0 l0.length c0] w fun e w' => ∃ v0_ : Value, e = .returned (v0_) ∧ Kd.R (Kd.int .i64) 3 w' w.heap.size (fun _ => True) v0_ r ∧ Below w.heap.size w w' := by
 have HR0 := am_ hr0
 have HC0 := am_ hc0
 clear hr0 hc0
 have HB := am_ (Below.refl w.heap.size w)
 have H := h
 clear h
 unfold spec_l1Own.f at H
 obtain ⟨y504, hy504⟩ : ∃ y_ : List Int, y_ = (([] : List Int)) := ⟨_, rfl⟩
 replace H : (if y504.length + l0.length < 17592186044416 then (some (y504 ++ l0)) else (none)) = some r := by first | (rw [hy504]; with_reducible exact H) | (have H2_ := (Option.bind_some _ _).symm.trans H; rw [hy504]; with_reducible exact H2_) | (have H2_ := (Option.bind_some _ _).symm.trans H; with_reducible exact H2_) | with_reducible exact H | (rw [hy504]; exact H) | exact H
 have Ny504 := am_ hy504
 clear hy504
 by_cases c2 : y504.length + l0.length < 17592186044416
 ·rw [if_pos c2] at H
  have LMc2 := am_ c2
  clear c2
  obtain ⟨y507, hy507⟩ : ∃ y_ : List Int, y_ = (y504 ++ l0) := ⟨_, rfl⟩
  replace H : (some y507) = some r := by first | (rw [hy507]; with_reducible exact H) | (have H2_ := (Option.bind_some _ _).symm.trans H; rw [hy507]; with_reducible exact H2_) | (have H2_ := (Option.bind_some _ _).symm.trans H; with_reducible exact H2_) | with_reducible exact H | (rw [hy507]; exact H) | exact H
  have Ny507 := am_ hy507
  clear hy507
  obtain rfl := Option.some.inj H
  go_enter Try.func49, Try.ntmps49
  go_wp2_with (first | ((with_reducible refine Sh.d 3 ?_); refine Kd.R_lit (Kd.int .i64) _ 3 ?hg (N := 3) ?hd (xs := ([] : List Int)) (inner := []) (ok := fun _ => True) (okp := fun _ => True) ?hr ?hp (fun _ hk => hk) trivial (Below.refl _ _) (Nat.le_refl _) (by simp) ?_; (case hd => rfl); (case hg => rfl); (case hr => first | (go_simp; done) | (go_simp; rfl)); (case hp => exact (Reps.none _ _)); intro v505 w3 ho4 hb hg_ hnew_; clear hg_ hnew_; (first | rw [← Ny504.out] at ho4 | (simp only [Int.reduceToNat] at ho4; rw [← Ny504.out] at ho4)); have HO506 := am_ (Kd.R_lower ho4 (below_size Sh.bw)); replace HB := Sh.hb hb; clear hb ho4) | ((with_reducible refine gate_builtin (b := .append) (xs := #[.tmp 3, .tmp 4]) rfl ?_); at_builtin; refine Kd.R_append_rows (Kd.int .i64) (w0 := w) w.heap.size rfl (.tmp 3) (.tmp 4) 24 3 (.int .i64 0) 8 rfl Try.underlying24 info3 rfl (by decide) (by omega) v505 y504 l0 _ _ _ (fun _ => True) (fun _ => False) rfl rfl ?aO ?aR (fun _ _ h => h) (fun _ h => h.elim) ?aF ?aB ?aS ?aL ?_; (case aR => repeat (first | exact (Kd.C_below HR0.out HB.out) | (with_reducible first | refine Kd.C_alloc ?_ _ | refine Kd.C_drewN ?_ _ | refine Kd.C_drew ?_))); (case aB => exact Sh.bw); (case aF => exact (fun _ _ => trivial)); (case aO => exact (Sh.rl HO506.out)); (case aS => exact (below_size Sh.bw)); (case aL => have := LMc2.out; omega); intro v508 w5 ho hb hg hat; rw [← Ny507.out] at ho; have n0_ := am_ hb; have n1_ := am_ ho; clear HB; clear HO506; have HB := n0_; have HO509 := n1_; clear n0_ n1_; clear ho hb hg hat))
  go_ret
  exact ⟨_, Sh.eR, Sh.rl HO509.out, Sh.bw⟩
 ·rw [if_neg c2] at H
  exact absurd H (by simp)
end Go.Proofs.Ytaacldndbjmekaa.P
