/- Go functions of this seat as Lean functions, and the proofs that the calls come to what these say; printed by a program of this session. No condition. -/
import Derived.Test.YtaacldndbjmekaaP0
import Derived.Test.YtaacldndbjmekaaP111
namespace Go.Proofs.Ytaacldndbjmekaa.P
open Go.RowKit Go.Proofs.YtaacldndbjmekaaW.PrintWords Go.Proofs.YtaacldndbjmekaaW.PrintLast Go.Proofs.YtaacldndbjmekaaW.PrintMore Go.Proofs.Ytaacldndbjmekaa.Hof
attribute [local go_sem] max2_int min2_int max_two min_two max_three min_three max_four min_four   -- for this text's walks alone
set_option linter.unusedVariables false
set_option linter.unusedSimpArgs false

/-! ### impl_Said_92: function 92 -/
mutual
def impl_Said_92.l0 : Nat → List (List (S59)) → Int → List (List (S59)) → Int → Int → Option ((List (S59)))
 | 0, _, _, _, _, _ => none
 | k + 1, x0, x3, x9, x10, x11 => if x11 < x10 then (if 0 ≤ x11 then (if x11 < (x9.length : Int) then (if (wrap64 (x3 + ((rd_L5 x9 x11).length : Int))) < 0 then (none) else (impl_Said_92.l0 k x0 (wrap64 (x3 + ((rd_L5 x9 x11).length : Int))) x9 x10 (wrap64 (x11 + 1)))) else (none)) else (none)) else ((impl_Said_107.f x3).bind fun t768 => (impl_Said_92.l1 k t768 x0 (x0.length : Int) 0))
def impl_Said_92.l1 : Nat → List (S59) → List (List (S59)) → Int → Int → Option ((List (S59)))
 | 0, _, _, _, _ => none
 | k + 1, x6, x25, x26, x27 => if x27 < x26 then (if 0 ≤ x27 then (if x27 < (x25.length : Int) then (if x6.length + (rd_L5 x25 x27).length < 8796093022208 then (impl_Said_92.l1 k (x6 ++ (rd_L5 x25 x27)) x25 x26 (wrap64 (x27 + 1))) else (none)) else (none)) else (none)) else (some x6)
end
def impl_Said_92.f (k : Nat) (l0 : List (List (S59))) : Option ((List (S59))) := impl_Said_92.l0 k l0 0 l0 (l0.length : Int) 0
theorem impl_Said_92.mono_l : ∀ k, (∀ y0 y1 y2 y3 y4, LeO (impl_Said_92.l0 k y0 y1 y2 y3 y4) (impl_Said_92.l0 (k + 1) y0 y1 y2 y3 y4)) ∧ (∀ y0 y1 y2 y3, LeO (impl_Said_92.l1 k y0 y1 y2 y3) (impl_Said_92.l1 (k + 1) y0 y1 y2 y3))
 | 0 => ⟨fun _ _ _ _ _ r h => by simp [impl_Said_92.l0] at h, fun _ _ _ _ r h => by simp [impl_Said_92.l1] at h⟩
 | k + 1 => by
  obtain ⟨ih0, ih1⟩ := impl_Said_92.mono_l k
  and_intros <;> intros
  all_goals (first | unfold impl_Said_92.l0 | unfold impl_Said_92.l1)
  all_goals repeat' with_reducible first | apply ih0 | apply ih1 | exact LeO.refl _ | exact LeO.none _ | apply LeO.ite | refine LeO.bind ?_ fun _ => ?_
theorem impl_Said_92.mono : ∀ a0 k, LeO (impl_Said_92.f k a0) (impl_Said_92.f (k + 1) a0) := by
 intro a0 k
 obtain ⟨ih0, ih1⟩ := impl_Said_92.mono_l k
 unfold impl_Said_92.f
 repeat' with_reducible first | apply ih0 | apply ih1 | exact LeO.refl _ | exact LeO.none _ | apply LeO.ite | refine LeO.bind ?_ fun _ => ?_
set_option maxHeartbeats 8000000 in
set_option maxRecDepth 100000 in
theorem impl_Said_92.calls (k : Nat) (A0 : Option Addr) (c0 : Nat) (l0 : List (List (S59))) (r : List (S59)) (w : World) (hr0 : Kd.C (Kd.slice 59 k59) w A0 l0.length l0) (hc0 : l0.length ≤ c0) (h : impl_Said_92.f k l0 = some r) :
  Calls Try.prog 92 #[.slice A0 l0.length c0] w fun e w' => ∃ v0_ : Value, e = .returned (v0_) ∧ Kd.R k59 59 w' w.heap.size (fun _ => True) v0_ r ∧ Below w.heap.size w w' := by
 have HR0 := am_ hr0
 have HC0 := am_ hc0
 clear hr0 hc0
 have HB := am_ (Below.refl w.heap.size w)
 have H := h
 clear h
 unfold impl_Said_92.f at H
 have H' := am_ H
 clear H
 go_enter Try.func92, Try.ntmps92
 go_wp2
 go_loopg [3, 11] k (fun kq v3 v11 w' => ∃ (x3_1 : Int) (x11_1 : Int), v3 = .int .i64 x3_1 ∧ v11 = .int .i64 x11_1 ∧ Aside0 (impl_Said_92.l0 kq l0 x3_1 l0 (l0.length : Int) x11_1 = some r) ∧ Aside0 (kq ≤ k) ∧ Aside0 (Below w.heap.size w w'))
 case atStart => exact ⟨(0), (0), (Sh.es), (Sh.es), H', ⟨Nat.le_refl _⟩, ⟨Sh.bw⟩⟩
 case round =>
  clear H'
  obtain ⟨x3_1, x11_1, rfl, rfl, HA, HK1, HB⟩ := hrel
  cases gk with
  | zero => exact absurd HA.out (by simp [impl_Said_92.l0])
  | succ k1 =>
   have H := HA.out
   clear HA
   simp only [impl_Said_92.l0] at H
   by_cases c2 : x11_1 < (l0.length : Int)
   ·rw [if_pos c2] at H
    have c2b0 := decide_eq_true c2
    clear c2
    by_cases c3 : 0 ≤ x11_1
    ·rw [if_pos c3] at H
     have c3b0 := decide_eq_true c3
     clear c3
     by_cases c4 : x11_1 < (l0.length : Int)
     ·rw [if_pos c4] at H
      have c4b0 := decide_eq_true c4
      clear c4
      by_cases c5 : (wrap64 (x3_1 + ((rd_L5 l0 x11_1).length : Int))) < 0
      ·rw [if_pos c5] at H
       exact absurd H (by simp)
      ·rw [if_neg c5] at H
       have c5b0 := decide_eq_false c5
       clear c5
       have H' := am_ H
       clear H
       have p767 : 0 ≤ (x11_1 : Int) := Sh.od
       have q767 : x11_1 < (l0.length : Int) := Sh.od
       obtain ⟨ad767, A767_0, c767_0, e767, hx767_0, hl767_0, hi767_0⟩ := at_L5 HR0.out x11_1 p767 q767
       cases e767
       try replace hx767_0 := Sh.cw hx767_0
       have HR767_0 := am_ hi767_0
       have HC767_0 := am_ hl767_0
       clear hi767_0 hl767_0
       replace p767 := eq_true p767
       replace q767 := eq_true q767
       go_wp2
       go_roundg k1
       case measure => have := HK1.out; omega
       case rel => exact ⟨(wrap64 (x3_1 + ((rd_L5 l0 x11_1).length : Int))), (wrap64 (x11_1 + 1)), (Sh.es), (Sh.es), H', ⟨by have := HK1.out; omega⟩, ⟨Sh.bw⟩⟩
     ·rw [if_neg c4] at H
      exact absurd H (by simp)
    ·rw [if_neg c3] at H
     exact absurd H (by simp)
   ·rw [if_neg c2] at H
    have c2b0 := decide_eq_false c2
    clear c2
    obtain ⟨t768, A6, H⟩ := Sh.ba H
    have H' := am_ H
    clear H
    go_wp2_with (first | ((with_reducible refine Sh.k 107 ?_); refine Sh.gL (some 24) Try.func107 #[.slice none 0 0, .int .i64 x3_1] (h := ?_); (with_reducible refine (impl_Said_107.calls  x3_1 t768 _ A6.out).mono ?_); rintro e w7 ⟨v769, rfl, ho0, hb⟩; refine ⟨_, rfl, ?_⟩; have HO770 := am_ (Kd.R_lower ho0 (below_size Sh.bw)); replace HB := Sh.hb hb; (try clear hb); (try clear hb2); (try clear hk); (try clear hi); (try clear ho0)))
    go_loopg [6, 27] k1 (fun kq v6 v27 w' => ∃ (x6_2 : List (S59)) (x27_2 : Int), v27 = .int .i64 x27_2 ∧ Aside0 (impl_Said_92.l1 kq x6_2 l0 (l0.length : Int) x27_2 = some r) ∧ Aside0 (kq ≤ k1) ∧ Aside0 (Kd.R k59 59 w' w.heap.size (fun _ => True) v6 x6_2) ∧ Aside0 (Below w.heap.size w w'))
    case atStart => exact ⟨(t768), (0), (Sh.es), H', ⟨Nat.le_refl _⟩, ⟨Sh.rl HO770.out⟩, ⟨Sh.bw⟩⟩
    case round =>
     clear H'
     try clear hx7
     try clear hx767_0
     obtain ⟨x6_2, x27_2, rfl, HA, HK2, HO_6, HB⟩ := hrel
     cases gk with
     | zero => exact absurd HA.out (by simp [impl_Said_92.l1])
     | succ k2 =>
      have H := HA.out
      clear HA
      simp only [impl_Said_92.l1] at H
      by_cases c8 : x27_2 < (l0.length : Int)
      ·rw [if_pos c8] at H
       have c8b0 := decide_eq_true c8
       clear c8
       by_cases c9 : 0 ≤ x27_2
       ·rw [if_pos c9] at H
        have c9b0 := decide_eq_true c9
        clear c9
        by_cases c10 : x27_2 < (l0.length : Int)
        ·rw [if_pos c10] at H
         have c10b0 := decide_eq_true c10
         clear c10
         by_cases c11 : x6_2.length + (rd_L5 l0 x27_2).length < 8796093022208
         ·rw [if_pos c11] at H
          have LMc11 := am_ c11
          clear c11
          obtain ⟨y772, hy772⟩ : ∃ y_ : List (S59), y_ = (x6_2 ++ (rd_L5 l0 x27_2)) := ⟨_, rfl⟩
          replace H : (impl_Said_92.l1 k2 y772 l0 (l0.length : Int) (wrap64 (x27_2 + 1))) = some r := by first | (rw [hy772]; with_reducible exact H) | (have H2_ := (Option.bind_some _ _).symm.trans H; rw [hy772]; with_reducible exact H2_) | (have H2_ := (Option.bind_some _ _).symm.trans H; with_reducible exact H2_) | with_reducible exact H | (rw [hy772]; exact H) | exact H
          have Ny772 := am_ hy772
          clear hy772
          have H' := am_ H
          clear H
          have p771 : 0 ≤ (x27_2 : Int) := Sh.od
          have q771 : x27_2 < (l0.length : Int) := Sh.od
          obtain ⟨ad771, A771_0, c771_0, e771, hx771_0, hl771_0, hi771_0⟩ := at_L5 HR0.out x27_2 p771 q771
          cases e771
          try replace hx771_0 := Sh.cw hx771_0
          have HR771_0 := am_ hi771_0
          have HC771_0 := am_ hl771_0
          clear hi771_0 hl771_0
          replace p771 := eq_true p771
          replace q771 := eq_true q771
          go_wp2_with (first | ((with_reducible refine gate_builtin (b := .append) (xs := #[.tmp 31, .tmp 32]) rfl ?_); at_builtin; refine Kd.R_append_rows k59 (w0 := w) w.heap.size rfl (.tmp 31) (.tmp 32) 27 59 (.agg #[(.int .i64 0), (.int .i64 0)]) 16 rfl Try.underlying27 info59 rfl (by decide) (by omega) u6 x6_2 (rd_L5 l0 x27_2) _ _ _ (fun _ => True) (fun _ => False) rfl rfl ?aO ?aR (fun _ _ h => h) (fun _ h => h.elim) ?aF ?aB ?aS ?aL ?_; (case aR => repeat (first | exact (Kd.C_below HR771_0.out HB.out) | (with_reducible first | refine Kd.C_alloc ?_ _ | refine Kd.C_drewN ?_ _ | refine Kd.C_drew ?_))); (case aB => exact Sh.bw); (case aF => exact (fun _ _ => trivial)); (case aO => exact (Sh.rl HO_6.out)); (case aS => exact (below_size Sh.bw)); (case aL => have := LMc11.out; omega); intro v773 w12 ho hb hg hat; rw [← Ny772.out] at ho; have n0_ := am_ hb; have n1_ := am_ ho; clear HB; clear HO_6; have HB := n0_; have HO774 := n1_; clear n0_ n1_; clear ho hb hg hat))
          go_roundg k2
          case measure => have := HK1.out; have := HK2.out; omega
          case rel => exact ⟨(y772), (wrap64 (x27_2 + 1)), (Sh.es), H', ⟨by have := HK1.out; have := HK2.out; omega⟩, ⟨Sh.rl HO774.out⟩, ⟨Sh.bw⟩⟩
         ·rw [if_neg c11] at H
          exact absurd H (by simp)
        ·rw [if_neg c10] at H
         exact absurd H (by simp)
       ·rw [if_neg c9] at H
        exact absurd H (by simp)
      ·rw [if_neg c8] at H
       have c8b0 := decide_eq_false c8
       clear c8
       obtain rfl := Option.some.inj H
       go_wp2
       go_ret
       exact ⟨_, Sh.eR, Sh.rl HO_6.out, Sh.bw⟩

end Go.Proofs.Ytaacldndbjmekaa.P
