/- Go functions of this seat as Lean functions, and the proofs that the calls come to what these say; printed by a program of this session. No condition. -/
import Derived.Test.YtaacldndbjmekaaP0
import Derived.Test.YtaacldndbjmekaaP10
namespace Go.Proofs.Ytaacldndbjmekaa.P
open Go.RowKit Go.Proofs.YtaacldndbjmekaaW.PrintWords Go.Proofs.YtaacldndbjmekaaW.PrintLast Go.Proofs.YtaacldndbjmekaaW.PrintMore Go.Proofs.Ytaacldndbjmekaa.Hof
attribute [local go_sem] max2_int min2_int max_two min_two max_three min_three max_four min_four   -- for this text's walks alone
set_option linter.unusedVariables false
set_option linter.unusedSimpArgs false

/-! ### impl_partsOf: function 84 -/
mutual
def impl_partsOf.l0 : Nat → List (S59) → List (List (S59)) → Int → Int → Int → Option ((List (List (S59))))
 | 0, _, _, _, _, _ => none
 | k + 1, x0, x4, x5, x18, x19 => if x19 < x18 then (impl_partsOf.l1 k x0 x4 x5 x5 1 x18 x19) else (some x4)
def impl_partsOf.l1 : Nat → List (S59) → List (List (S59)) → Int → Int → Int → Int → Int → Option ((List (List (S59))))
 | 0, _, _, _, _, _, _, _ => none
 | k + 1, x0, x4, x5, x6, x7, x18, x19 => if x7 > 0 then (if 0 ≤ (wrap64 (x6 - 1)) then (if (wrap64 (x6 - 1)) < (x0.length : Int) then ((impl_operandsOfSaid.f k ((rd_T59 x0 (wrap64 (x6 - 1))).f0)).bind fun t672 => (impl_partsOf.l1 k x0 x4 x5 (wrap64 (x6 - 1)) (wrap64 (x7 + (wrap64 (t672 - 1)))) x18 x19)) else (none)) else (none)) else (if 0 ≤ x6 then (if x6 ≤ x5 then (if x5 ≤ (x0.length : Int) then ((some (([((x0.take (x5 : Int).toNat).drop (x6 : Int).toNat)] : List (List (S59))) : List (List (S59)))).bind fun y678 => (if y678.length + x4.length < 5864062014805 then (impl_partsOf.l0 k x0 (y678 ++ x4) x6 x18 (wrap64 (x19 + 1))) else (none))) else (none)) else (none)) else (none))
end
def impl_partsOf.f (k : Nat) (l0 : List (S59)) : Option ((List (List (S59)))) := if 0 ≤ (wrap64 ((l0.length : Int) - 1)) then (if (wrap64 ((l0.length : Int) - 1)) < (l0.length : Int) then ((impl_operandsOfSaid.f k ((rd_T59 l0 (wrap64 ((l0.length : Int) - 1))).f0)).bind fun t670 => (impl_partsOf.l0 k l0 (([] : List (List (S59)))) (wrap64 ((l0.length : Int) - 1)) t670 0)) else (none)) else (none)
theorem impl_partsOf.mono_l : ∀ k, (∀ y0 y1 y2 y3 y4, LeO (impl_partsOf.l0 k y0 y1 y2 y3 y4) (impl_partsOf.l0 (k + 1) y0 y1 y2 y3 y4)) ∧ (∀ y0 y1 y2 y3 y4 y5 y6, LeO (impl_partsOf.l1 k y0 y1 y2 y3 y4 y5 y6) (impl_partsOf.l1 (k + 1) y0 y1 y2 y3 y4 y5 y6))
 | 0 => ⟨fun _ _ _ _ _ r h => by simp [impl_partsOf.l0] at h, fun _ _ _ _ _ _ _ r h => by simp [impl_partsOf.l1] at h⟩
 | k + 1 => by
  obtain ⟨ih0, ih1⟩ := impl_partsOf.mono_l k
  and_intros <;> intros
  all_goals (first | unfold impl_partsOf.l0 | unfold impl_partsOf.l1)
  all_goals repeat' with_reducible first | apply ih0 | apply ih1 | apply impl_operandsOfSaid.mono | exact LeO.refl _ | exact LeO.none _ | apply LeO.ite | refine LeO.bind ?_ fun _ => ?_
theorem impl_partsOf.mono : ∀ a0 k, LeO (impl_partsOf.f k a0) (impl_partsOf.f (k + 1) a0) := by
 intro a0 k
 obtain ⟨ih0, ih1⟩ := impl_partsOf.mono_l k
 unfold impl_partsOf.f
 repeat' with_reducible first | apply ih0 | apply ih1 | apply impl_operandsOfSaid.mono | exact LeO.refl _ | exact LeO.none _ | apply LeO.ite | refine LeO.bind ?_ fun _ => ?_
set_option maxHeartbeats 8000000 in
set_option maxRecDepth 100000 in
theorem impl_partsOf.calls (k : Nat) (P0_ : Nat → Prop) (A0 : Option Addr) (c0 : Nat) (l0 : List (S59)) (r : List (List (S59))) (w : World) (hs0 : Kd.V k59 59 w w.heap.size (fun k_ => P0_ k_) (.slice A0 l0.length c0) l0) (h : impl_partsOf.f k l0 = some r) :
  Calls Try.prog 84 #[.slice A0 l0.length c0] w fun e w' => ∃ v0_ : Value, e = .returned (v0_) ∧ Kd.N (Kd.slice 59 k59) 27 w' w.heap.size (fun k_ => (P0_ k_ ∨ w.heap.size ≤ k_)) v0_ r ∧ Below w.heap.size w w' := by
 have HO0 := am_ (show Kd.V k59 59 w w.heap.size (fun k_ => (P0_ k_ ∨ w.heap.size ≤ k_)) (.slice A0 l0.length c0) l0 from Kd.V_mono hs0 (fun k_ hk => .inl hk))
 have HB := am_ (Below.refl w.heap.size w)
 have H := h
 clear h
 unfold impl_partsOf.f at H
 obtain ⟨y666, hy666⟩ : ∃ y_ : List (List (S59)), y_ = (([] : List (List (S59)))) := ⟨_, rfl⟩
 replace H : (if 0 ≤ (wrap64 ((l0.length : Int) - 1)) then (if (wrap64 ((l0.length : Int) - 1)) < (l0.length : Int) then ((impl_operandsOfSaid.f k ((rd_T59 l0 (wrap64 ((l0.length : Int) - 1))).f0)).bind fun t670 => (impl_partsOf.l0 k l0 y666 (wrap64 ((l0.length : Int) - 1)) t670 0)) else (none)) else (none)) = some r := by first | (rw [hy666]; with_reducible exact H) | (have H2_ := (Option.bind_some _ _).symm.trans H; rw [hy666]; with_reducible exact H2_) | (have H2_ := (Option.bind_some _ _).symm.trans H; with_reducible exact H2_) | with_reducible exact H | (rw [hy666]; exact H) | exact H
 have Ny666 := am_ hy666
 clear hy666
 obtain ⟨ji2, hj1⟩ : ∃ j_ : Int, (wrap64 ((l0.length : Int) - 1)) = j_ := ⟨_, rfl⟩
 replace H : (if 0 ≤ (ji2) then (if (ji2) < (l0.length : Int) then ((impl_operandsOfSaid.f k ((rd_T59 l0 (ji2)).f0)).bind fun t670 => (impl_partsOf.l0 k l0 y666 ji2 t670 0)) else (none)) else (none)) = some r := by first | (rw [hj1] at H; exact H) | (simp only [hj1] at H ⊢; exact H)
 have hji2w : (IntKind.i64.wrap ((l0.length : Int) - 1)) = ji2 := (i64_w _).trans hj1
 by_cases c3 : 0 ≤ (ji2)
 ·rw [if_pos c3] at H
  have c3b0 := decide_eq_true c3
  clear c3
  by_cases c4 : (ji2) < (l0.length : Int)
  ·rw [if_pos c4] at H
   have c4b0 := decide_eq_true c4
   clear c4
   obtain ⟨t670, A5, H⟩ := Sh.ba H
   have H' := am_ H
   clear H
   go_enter Try.func84, Try.ntmps84
   go_wp2_with (first | ((with_reducible refine Sh.d 11 ?_); refine Kd.N_lit (Kd.slice 59 k59) _ 27 ?hg (N' := 11) ?hd (xs := ([] : List (List (S59)))) (inner := []) (ok := (fun k_ => (P0_ k_ ∨ w.heap.size ≤ k_))) (okp := (fun k_ => (P0_ k_ ∨ w.heap.size ≤ k_))) ?hr ?hp (fun _ hk => hk) ((show ∀ k_, w.heap.size ≤ k_ → (fun k_ => (P0_ k_ ∨ w.heap.size ≤ k_)) k_ from fun k_ hk => (.inr (Nat.le_trans (below_size Sh.bw) hk))) _ (Nat.le_refl _)) (Below.refl _ _) (Nat.le_refl _) (by simp) ?_; (case hd => rfl); (case hg => rfl); (case hr => first | (go_simp; done) | (go_simp; rfl)); (case hp => exact (Reps.none _ _)); intro v667 w6 ho7 hb hg_ hnew_; clear hg_ hnew_; (first | rw [← Ny666.out] at ho7 | (simp only [Int.reduceToNat] at ho7; rw [← Ny666.out] at ho7)); replace HO0 := am_ (Kd.V_elder' (by (with_reducible repeat (first | apply Kd.V_alloc | apply Kd.V_drewN | apply Kd.V_drew)); exact HO0.out) (Kd.N_base ho7) hb); have HO668 := am_ (Kd.N_lower ho7 (below_size Sh.bw)); replace HB := Sh.hb hb; clear hb ho7; have p669 : 0 ≤ ((ji2) : Int) := Sh.od; have q669 : (ji2) < (l0.length : Int) := Sh.od; obtain ⟨ad669, e669, hx669_0, hx669_1⟩ := at_T59 (Kd.V_reads' HO0.out).2.2 (ji2) p669 q669; cases e669; replace p669 := eq_true p669; replace q669 := eq_true q669) | ((with_reducible refine Sh.k 65 ?_); refine goesL_ (some 18) rfl rfl Try.func65 (by kernel_rfl) rfl #[.int .i64 ((rd_T59 l0 (ji2)).f0)] rfl (by (try simp only [List.map_toArray, List.map_cons, List.map_nil]); first | done | (simp only [hj1]; rfl) | rfl | (simp only [List.length_drop, List.length_take]; rfl)) ?_; (with_reducible refine (impl_operandsOfSaid.calls k ((rd_T59 l0 (ji2)).f0) t670 _ A5.out).mono ?_); rintro e w' ⟨rfl, ⟨nd, rfl⟩⟩; refine ⟨_, rfl, ?_⟩))
   go_loopg [4, 5, 19] k (fun kq v4 v5 v19 w' => ∃ (x4_1 : List (List (S59))) (x5_1 : Int) (x19_1 : Int), v5 = .int .i64 x5_1 ∧ v19 = .int .i64 x19_1 ∧ Aside0 (impl_partsOf.l0 kq l0 x4_1 x5_1 t670 x19_1 = some r) ∧ Aside0 (kq ≤ k) ∧ Aside0 (Kd.V k59 59 w' w.heap.size (fun k_ => (P0_ k_ ∨ w.heap.size ≤ k_) ∧ some k_ ≠ (v4 : Value).ownBlock) (.slice (some ad669) l0.length c0) l0) ∧ Aside0 (Kd.N (Kd.slice 59 k59) 27 w' w.heap.size (fun k_ => (P0_ k_ ∨ w.heap.size ≤ k_)) v4 x4_1) ∧ Aside0 (Below w.heap.size w w'))
   case atStart => exact ⟨(y666), (ji2), (0), (by first | rfl | (simp; done) | (simp only [← hj1] <;> (first | rfl | simp)) | (simp [*]; done)), (Sh.es), H', ⟨Nat.le_refl _⟩, ⟨by (with_reducible repeat (first | apply Kd.V_alloc | apply Kd.V_drewN | apply Kd.V_drew)); exact HO0.out⟩, ⟨by (with_reducible repeat (first | apply Kd.N_alloc | apply Kd.N_drewN | apply Kd.N_drew)); exact HO668.out⟩, ⟨Sh.bw⟩⟩
   case round =>
    clear H'
    try clear hx6
    try clear hx669_0
    try clear hx669_1
    obtain ⟨x4_1, x5_1, x19_1, rfl, rfl, HA, HK1, HO_0, HO_4, HB⟩ := hrel
    cases gk with
    | zero => exact absurd HA.out (by simp [impl_partsOf.l0])
    | succ k1 =>
     have H := HA.out
     clear HA
     simp only [impl_partsOf.l0] at H
     by_cases c8 : x19_1 < t670
     ·rw [if_pos c8] at H
      have c8b0 := decide_eq_true c8
      clear c8
      have H' := am_ H
      clear H
      go_wp2
      go_loopg [6, 7] k1 (fun kq v6 v7 w' => ∃ (x6_2 : Int) (x7_2 : Int), v6 = .int .i64 x6_2 ∧ v7 = .int .i64 x7_2 ∧ Aside0 (impl_partsOf.l1 kq l0 x4_1 x5_1 x6_2 x7_2 t670 x19_1 = some r) ∧ Aside0 (kq ≤ k1) ∧ Aside0 (Kd.V k59 59 w' w.heap.size (fun k_ => (P0_ k_ ∨ w.heap.size ≤ k_) ∧ some k_ ≠ (u4 : Value).ownBlock) (.slice (some ad669) l0.length c0) l0) ∧ Aside0 (Kd.N (Kd.slice 59 k59) 27 w' w.heap.size (fun k_ => (P0_ k_ ∨ w.heap.size ≤ k_)) u4 x4_1) ∧ Aside0 (Below w.heap.size w w'))
      case atStart => exact ⟨(x5_1), (1), (Sh.es), (Sh.es), H', ⟨Nat.le_refl _⟩, ⟨by (with_reducible repeat (first | apply Kd.V_alloc | apply Kd.V_drewN | apply Kd.V_drew)); exact HO_0.out⟩, ⟨by (with_reducible repeat (first | apply Kd.N_alloc | apply Kd.N_drewN | apply Kd.N_drew)); exact HO_4.out⟩, ⟨Sh.bw⟩⟩
      case round =>
       clear H'
       try clear hx6
       try clear hx669_0
       try clear hx669_1
       obtain ⟨x6_2, x7_2, rfl, rfl, HA, HK2, HO_0, HO_4, HB⟩ := hrel
       cases gk with
       | zero => exact absurd HA.out (by simp [impl_partsOf.l1])
       | succ k2 =>
        have H := HA.out
        clear HA
        simp only [impl_partsOf.l1] at H
        by_cases c9 : x7_2 > 0
        ·rw [if_pos c9] at H
         have c9b0 : decide (0 < x7_2) = true := decide_eq_true c9
         clear c9
         obtain ⟨ji10, hj2⟩ : ∃ j_ : Int, (wrap64 (x6_2 - 1)) = j_ := ⟨_, rfl⟩
         replace H : (if 0 ≤ (ji10) then (if (ji10) < (l0.length : Int) then ((impl_operandsOfSaid.f k2 ((rd_T59 l0 (ji10)).f0)).bind fun t672 => (impl_partsOf.l1 k2 l0 x4_1 x5_1 ji10 (wrap64 (x7_2 + (wrap64 (t672 - 1)))) t670 x19_1)) else (none)) else (none)) = some r := by first | (rw [hj2] at H; exact H) | (simp only [hj2] at H ⊢; exact H)
         have hji10w : (IntKind.i64.wrap (x6_2 - 1)) = ji10 := (i64_w _).trans hj2
         by_cases c11 : 0 ≤ (ji10)
         ·rw [if_pos c11] at H
          have c11b0 := decide_eq_true c11
          clear c11
          by_cases c12 : (ji10) < (l0.length : Int)
          ·rw [if_pos c12] at H
           have c12b0 := decide_eq_true c12
           clear c12
           obtain ⟨t672, A13, H⟩ := Sh.ba H
           have H' := am_ H
           clear H
           have p671 : 0 ≤ ((ji10) : Int) := Sh.od
           have q671 : (ji10) < (l0.length : Int) := Sh.od
           obtain ⟨ad671, e671, hx671_0, hx671_1⟩ := at_T59 (Kd.V_reads' HO_0.out).2.2 (ji10) p671 q671
           obtain rfl : ad669 = ad671 := (by injection e671)
           replace p671 := eq_true p671
           replace q671 := eq_true q671
           go_wp2_with (first | ((with_reducible refine Sh.k 65 ?_); refine goesL_ (some 32) rfl rfl Try.func65 (by kernel_rfl) rfl #[.int .i64 ((rd_T59 l0 (ji10)).f0)] rfl (by (try simp only [List.map_toArray, List.map_cons, List.map_nil]); first | done | (simp only [hj2]; rfl) | rfl | (simp only [List.length_drop, List.length_take]; rfl)) ?_; (with_reducible refine (impl_operandsOfSaid.calls k2 ((rd_T59 l0 (ji10)).f0) t672 _ A13.out).mono ?_); rintro e w' ⟨rfl, ⟨nd, rfl⟩⟩; refine ⟨_, rfl, ?_⟩))
           go_roundg k2
           case measure => have := HK1.out; have := HK2.out; omega
           case rel => exact ⟨(ji10), (wrap64 (x7_2 + (wrap64 (t672 - 1)))), (by first | rfl | (simp; done) | (simp only [← hj2] <;> (first | rfl | simp)) | (simp [*]; done)), (Sh.es), H', ⟨by have := HK1.out; have := HK2.out; omega⟩, ⟨by (with_reducible repeat (first | apply Kd.V_alloc | apply Kd.V_drewN | apply Kd.V_drew)); exact HO_0.out⟩, ⟨by (with_reducible repeat (first | apply Kd.N_alloc | apply Kd.N_drewN | apply Kd.N_drew)); exact HO_4.out⟩, ⟨Sh.bw⟩⟩
          ·rw [if_neg c12] at H
           exact absurd H (by simp)
         ·rw [if_neg c11] at H
          exact absurd H (by simp)
        ·rw [if_neg c9] at H
         have c9b0 : decide (0 < x7_2) = false := decide_eq_false c9
         clear c9
         by_cases c14 : 0 ≤ x6_2
         ·rw [if_pos c14] at H
          have c14b0 := eq_true c14
          have c14b1 := decide_eq_true c14
          clear c14
          by_cases c15 : x6_2 ≤ x5_1
          ·rw [if_pos c15] at H
           have c15b0 := eq_true c15
           have c15b1 := decide_eq_true c15
           clear c15
           by_cases c16 : x5_1 ≤ (l0.length : Int)
           ·rw [if_pos c16] at H
            have c16b0 := eq_true c16
            have c16b1 := decide_eq_true c16
            clear c16
            obtain ⟨y673, hy673⟩ : ∃ y_ : List (S59), y_ = ((l0.take (x5_1 : Int).toNat).drop (x6_2 : Int).toNat) := ⟨_, rfl⟩
            replace H : ((some (([y673] : List (List (S59))) : List (List (S59)))).bind fun y678 => (if y678.length + x4_1.length < 5864062014805 then (impl_partsOf.l0 k2 l0 (y678 ++ x4_1) x6_2 t670 (wrap64 (x19_1 + 1))) else (none))) = some r := by first | (rw [hy673]; with_reducible exact H) | (have H2_ := (Option.bind_some _ _).symm.trans H; rw [hy673]; with_reducible exact H2_) | (have H2_ := (Option.bind_some _ _).symm.trans H; with_reducible exact H2_) | with_reducible exact H | (rw [hy673]; exact H) | exact H
            have Ny673 := am_ hy673
            clear hy673
            obtain ⟨y678, hy678⟩ : ∃ y_ : List (List (S59)), y_ = (([y673] : List (List (S59)))) := ⟨_, rfl⟩
            replace H : (if y678.length + x4_1.length < 5864062014805 then (impl_partsOf.l0 k2 l0 (y678 ++ x4_1) x6_2 t670 (wrap64 (x19_1 + 1))) else (none)) = some r := by first | (rw [hy678]; with_reducible exact H) | (have H2_ := (Option.bind_some _ _).symm.trans H; rw [hy678]; with_reducible exact H2_) | (have H2_ := (Option.bind_some _ _).symm.trans H; with_reducible exact H2_) | with_reducible exact H | (rw [hy678]; exact H) | exact H
            have Ny678 := am_ hy678
            clear hy678
            by_cases c17 : y678.length + x4_1.length < 5864062014805
            ·rw [if_pos c17] at H
             have LMc17 := am_ c17
             clear c17
             obtain ⟨y681, hy681⟩ : ∃ y_ : List (List (S59)), y_ = (y678 ++ x4_1) := ⟨_, rfl⟩
             replace H : (impl_partsOf.l0 k2 l0 y681 x6_2 t670 (wrap64 (x19_1 + 1))) = some r := by first | (rw [hy681]; with_reducible exact H) | (have H2_ := (Option.bind_some _ _).symm.trans H; rw [hy681]; with_reducible exact H2_) | (have H2_ := (Option.bind_some _ _).symm.trans H; with_reducible exact H2_) | with_reducible exact H | (rw [hy681]; exact H) | exact H
             have Ny681 := am_ hy681
             clear hy681
             have H' := am_ H
             clear H
             have q18 : (x5_1 : Int) ≤ ((l0.length : Int) : Int) := Sh.od
             obtain ⟨i018, hi018, _, hsz18, _⟩ := info_parts info59
             have hroom18 : l0.length ≤ c0 := (Kd.V_reads' HO_0.out).2.1
             have hC18 : Kd.F k59 _ _ (some ad669) l0.length l0 := (Kd.V_at (base := w.heap.size) HO_0.out).2.2
             have ql18 : (x6_2 : Int) ≤ (x5_1 : Int) := Sh.od
             have q018 : (0 : Int) ≤ (x6_2 : Int) := Sh.od
             have hcut18 := cut_mid (P := Try.prog) 27 59 .i64 .i64 Try.underlying27 hi018 2 hsz18 (some ad669) l0.length c0 x6_2 x5_1 q018 ql18 q18 hroom18
             have hr18 := Kd.F_mid (lo := (x6_2 : Int).toNat) (hi := (x5_1 : Int).toNat) (c := c0) hC18 (by omega) (by omega) hroom18
             obtain ⟨A18, hA18⟩ : ∃ A1, A1 = (if c0 = (x6_2 : Int).toNat then (some ad669) else ((some ad669) : Option Addr).map (·.add ((x6_2 : Int).toNat * 2))) := ⟨_, rfl⟩
             obtain ⟨c18, hc18⟩ : ∃ c1, c1 = c0 - (x6_2 : Int).toNat := ⟨_, rfl⟩
             have hy18 : y673.length = (x5_1 : Int).toNat - (x6_2 : Int).toNat := (by rw [Ny673.out, List.length_drop, List.length_take] <;> omega)
             rw [show ((l0).take (x5_1 : Int).toNat).drop (x6_2 : Int).toNat = y673 from Ny673.out.symm] at hr18
             replace hr18 : Kd.F k59 _ _ A18 y673.length y673 := (by rw [hA18]; exact hr18)
             rw [← hy18, ← hA18, ← hc18] at hcut18
             have HO677 := am_ (show Kd.V k59 59 _ w.heap.size _ (.slice A18 y673.length c18) y673 from Kd.V_mk (by rw [hy18, hc18]; exact Nat.sub_le_sub_right (Nat.le_trans (by omega) hroom18) _) hr18)
             have HC677 := am_ (show y673.length ≤ c18 from by rw [hy18, hc18]; exact Nat.sub_le_sub_right (Nat.le_trans (by omega) hroom18) _)
             clear hr18 hC18 hroom18 hi018 hsz18 hc18
             have KY18 := am_ hy18
             have KA18 := am_ hA18
             clear hy18 hA18
             replace q18 := eq_true q18
             go_wp2_with (first | ((with_reducible refine Sh.d 39 ?_); refine Kd.N_lit (Kd.slice 59 k59) _ 27 ?hg (N' := 39) ?hd (xs := ([y673] : List (List (S59)))) (inner := [.slice A18 y673.length c18]) (ok := (fun k_ => (P0_ k_ ∨ w.heap.size ≤ k_) ∧ some k_ ≠ (u4 : Value).ownBlock)) (okp := (fun k_ => (P0_ k_ ∨ w.heap.size ≤ k_) ∧ some k_ ≠ (u4 : Value).ownBlock)) ?hr ?hp (fun _ hk => hk) ((show ∀ k_, wr.heap.size ≤ k_ → (fun k_ => (P0_ k_ ∨ w.heap.size ≤ k_) ∧ some k_ ≠ (u4 : Value).ownBlock) k_ from fun k_ hk => ⟨(.inr (Nat.le_trans (below_size Sh.bw) hk)), Kd.fresh' (Kd.N_lt (by (with_reducible repeat (first | apply Kd.N_alloc | apply Kd.N_drewN | apply Kd.N_drew)); exact HO_4.out)) k_ hk⟩) _ (Nat.le_refl _)) (Below.refl _ _) (Nat.le_refl _) (by simp) ?_; (case hd => rfl); (case hg => rfl); (case hr => first | (go_simp; done) | (go_simp; rfl)); (case hp => exact (Reps.one (show Kd.FK (Kd.slice 59 k59) _ _ y673 [.slice A18 y673.length c18] from (Kd.FK_slice_mk (Kd.V_reads' (Kd.V_mono (ok' := (fun k_ => (P0_ k_ ∨ w.heap.size ≤ k_) ∧ some k_ ≠ (u4 : Value).ownBlock)) (HO677.out) (fun k_ h => ⟨h.1, h.2⟩))).2.1 (Kd.V_F (Kd.V_mono (ok' := (fun k_ => (P0_ k_ ∨ w.heap.size ≤ k_) ∧ some k_ ≠ (u4 : Value).ownBlock)) (HO677.out) (fun k_ h => ⟨h.1, h.2⟩))))) (Reps.none _ _))); intro v679 w19 ho20 hb hg_ hnew_; clear hg_ hnew_; (first | rw [← Ny678.out] at ho20 | (simp only [Int.reduceToNat] at ho20; rw [← Ny678.out] at ho20)); replace HO_0 := am_ (Kd.V_elder' (by (with_reducible repeat (first | apply Kd.V_alloc | apply Kd.V_drewN | apply Kd.V_drew)); exact HO_0.out) (Kd.N_base ho20) hb); replace HO_4 := am_ (Kd.N_elder' (by (with_reducible repeat (first | apply Kd.N_alloc | apply Kd.N_drewN | apply Kd.N_drew)); exact HO_4.out) (Kd.N_base ho20) hb); replace HO677 := am_ (Kd.V_elder' (by (with_reducible repeat (first | apply Kd.V_alloc | apply Kd.V_drewN | apply Kd.V_drew)); exact HO677.out) (Kd.N_base ho20) hb); have HO680 := am_ (Kd.N_lower ho20 (below_size Sh.bw)); replace HB := Sh.hb hb; clear hb ho20; obtain ⟨Ao22, co22, eo22⟩ := Kd.N_slice HO_4.out; subst eo22) | ((with_reducible refine gate_builtin (b := .append) (xs := #[.tmp 39, .tmp 40]) rfl ?_); at_builtin; refine Kd.N_append_rows (Kd.slice 59 k59) (w0 := w) w.heap.size rfl (.tmp 39) (.tmp 40) 93 27 (.slice none 0 0) 24 rfl Try.underlying93 info27 rfl (by decide) (by omega) v679 y678 x4_1 _ _ _ (fun k_ => (P0_ k_ ∨ w.heap.size ≤ k_)) (fun k_ => ((fun k_ => (P0_ k_ ∨ w.heap.size ≤ k_))) k_ ∧ some k_ ≠ (v679 : Value).ownBlock) rfl rfl ?aO ?aR (fun _ hk => hk) ?aF ?aB ?aS ?aL ?_; (case aR => exact (by skip; exact Kd.N_F (Kd.N_mono (ok' := (fun k_ => ((fun k_ => (P0_ k_ ∨ w.heap.size ≤ k_))) k_ ∧ some k_ ≠ (v679 : Value).ownBlock)) (HO_4.out) (fun k_ h => ⟨h.1, h.2⟩)))); (case aB => exact Sh.bw); (case aF => exact (fun k_ hk => (.inr (Nat.le_trans (below_size Sh.bw) hk)))); (case aO => exact (by (with_reducible repeat (first | apply Kd.N_alloc | apply Kd.N_drewN | apply Kd.N_drew)); exact Kd.N_mono HO680.out (fun _ hk => hk.1))); (case aS => exact (below_size Sh.bw)); (case aL => have := LMc17.out; omega); intro v682 w21 ho hb hg hat; rw [← Ny681.out] at ho; have n0_ := am_ (Kd.V_afterv (ok := (fun k_ => (P0_ k_ ∨ w.heap.size ≤ k_) ∧ some k_ ≠ (.slice Ao22 x4_1.length co22 : Value).ownBlock)) (by (with_reducible repeat (first | apply Kd.V_alloc | apply Kd.V_drewN | apply Kd.V_drew)); exact HO_0.out) hg hat); have n1_ := am_ (Kd.N_afterv (ok := (fun k_ => (P0_ k_ ∨ w.heap.size ≤ k_))) (by (with_reducible repeat (first | apply Kd.N_alloc | apply Kd.N_drewN | apply Kd.N_drew)); exact HO_4.out) hg hat); have n2_ := am_ (Kd.V_afterv (ok := (fun k_ => (P0_ k_ ∨ w.heap.size ≤ k_) ∧ some k_ ≠ (.slice Ao22 x4_1.length co22 : Value).ownBlock)) (by (with_reducible repeat (first | apply Kd.V_alloc | apply Kd.V_drewN | apply Kd.V_drew)); exact HO677.out) hg hat); have n3_ := am_ hb; have n4_ := am_ ho; clear HO_0; clear HO_4; clear HO677; clear HB; clear HO680; have HO_0 := n0_; have HO_4 := n1_; have HO677 := n2_; have HB := n3_; have HO683 := n4_; clear n0_ n1_ n2_ n3_ n4_; clear ho hb hg hat))
             go_roundg k2
             case measure => have := HK1.out; have := HK2.out; omega
             case rel => exact ⟨(y681), (x6_2), (wrap64 (x19_1 + 1)), (Sh.es), (Sh.es), H', ⟨by have := HK1.out; have := HK2.out; omega⟩, ⟨by (with_reducible repeat (first | apply Kd.V_alloc | apply Kd.V_drewN | apply Kd.V_drew)); exact Kd.V_mono HO_0.out (fun _ h => ⟨h.1.1, h.2⟩)⟩, ⟨by (with_reducible repeat (first | apply Kd.N_alloc | apply Kd.N_drewN | apply Kd.N_drew)); exact HO683.out⟩, ⟨Sh.bw⟩⟩
            ·rw [if_neg c17] at H
             exact absurd H (by simp)
           ·rw [if_neg c16] at H
            exact absurd H (by simp)
          ·rw [if_neg c15] at H
           exact absurd H (by simp)
         ·rw [if_neg c14] at H
          exact absurd H (by simp)
     ·rw [if_neg c8] at H
      have c8b0 := decide_eq_false c8
      clear c8
      obtain rfl := Option.some.inj H
      go_wp2
      go_ret
      exact ⟨_, by first | rfl | (simp [errW_none, errW_some] <;> rfl) | (simp only [← hj1]; first | rfl | (simp [errW_none, errW_some] <;> rfl)) | (simp [*, errW_none, errW_some] <;> rfl), by (with_reducible repeat (first | apply Kd.N_alloc | apply Kd.N_drewN | apply Kd.N_drew)); exact HO_4.out, Sh.bw⟩
  ·rw [if_neg c4] at H
   exact absurd H (by simp)
 ·rw [if_neg c3] at H
  exact absurd H (by simp)

end Go.Proofs.Ytaacldndbjmekaa.P
