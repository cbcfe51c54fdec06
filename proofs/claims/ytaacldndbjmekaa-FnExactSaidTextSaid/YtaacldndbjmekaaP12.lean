/- Go functions of this seat as Lean functions, and the proofs that the calls come to what these say; printed by a program of this session. No condition. -/
import Derived.Test.YtaacldndbjmekaaP0
import Derived.Test.YtaacldndbjmekaaP10
import Derived.Test.YtaacldndbjmekaaP11
namespace Go.Proofs.Ytaacldndbjmekaa.P
open Go.RowKit Go.Proofs.YtaacldndbjmekaaW.PrintWords Go.Proofs.YtaacldndbjmekaaW.PrintLast Go.Proofs.YtaacldndbjmekaaW.PrintMore Go.Proofs.Ytaacldndbjmekaa.Hof
attribute [local go_sem] max2_int min2_int max_two min_two max_three min_three max_four min_four   -- for this text's walks alone
set_option linter.unusedVariables false
set_option linter.unusedSimpArgs false

/-! ### impl_GoodSaid: function 40 -/
mutual
def impl_GoodSaid.j0 : Nat → List (S59) → Bool → Option (Bool)
 | 0, _, _ => none
 | k + 1, x0, x14 => if x14 = true then (some false) else (impl_GoodSaid.l0 k 0 x0 (x0.length : Int) 0)
def impl_GoodSaid.l0 : Nat → Int → List (S59) → Int → Int → Option (Bool)
 | 0, _, _, _, _ => none
 | k + 1, x3, x15, x16, x17 => if x17 < x16 then (if 0 ≤ x17 then (if x17 < (x15.length : Int) then ((impl_operandsOfSaid.f k ((rd_T59 x15 x17).f0)).bind fun t171 => ((impl_isSaid.f k ((rd_T59 x15 x17).f0) ((rd_T59 x15 x17).f1)).bind fun t172 => (if t172 = true then (if x3 < t171 then (some false) else (impl_GoodSaid.l0 k (wrap64 (x3 + (wrap64 (1 - t171)))) x15 x16 (wrap64 (x17 + 1)))) else (some false)))) else (none)) else (none)) else (some (x3 == 1))
end
def impl_GoodSaid.f (k : Nat) (l0 : List (S59)) : Option (Bool) := if (l0.length : Int) < 1 then (impl_GoodSaid.j0 k l0 true) else (impl_GoodSaid.j0 k l0 (decide ((l0.length : Int) > 16)))
theorem impl_GoodSaid.mono_l : ∀ k, (∀ y0 y1, LeO (impl_GoodSaid.j0 k y0 y1) (impl_GoodSaid.j0 (k + 1) y0 y1)) ∧ (∀ y0 y1 y2 y3, LeO (impl_GoodSaid.l0 k y0 y1 y2 y3) (impl_GoodSaid.l0 (k + 1) y0 y1 y2 y3))
 | 0 => ⟨fun _ _ r h => by simp [impl_GoodSaid.j0] at h, fun _ _ _ _ r h => by simp [impl_GoodSaid.l0] at h⟩
 | k + 1 => by
  obtain ⟨ih0, ih1⟩ := impl_GoodSaid.mono_l k
  and_intros <;> intros
  all_goals (first | unfold impl_GoodSaid.j0 | unfold impl_GoodSaid.l0)
  all_goals repeat' with_reducible first | apply ih0 | apply ih1 | apply impl_isSaid.mono | apply impl_operandsOfSaid.mono | exact LeO.refl _ | exact LeO.none _ | apply LeO.ite | refine LeO.bind ?_ fun _ => ?_
theorem impl_GoodSaid.mono : ∀ a0 k, LeO (impl_GoodSaid.f k a0) (impl_GoodSaid.f (k + 1) a0) := by
 intro a0 k
 obtain ⟨ih0, ih1⟩ := impl_GoodSaid.mono_l k
 unfold impl_GoodSaid.f
 repeat' with_reducible first | apply ih0 | apply ih1 | apply impl_isSaid.mono | apply impl_operandsOfSaid.mono | exact LeO.refl _ | exact LeO.none _ | apply LeO.ite | refine LeO.bind ?_ fun _ => ?_
set_option maxHeartbeats 8000000 in
set_option maxRecDepth 100000 in
theorem impl_GoodSaid.calls (k : Nat) (A0 : Option Addr) (c0 : Nat) (l0 : List (S59)) (r : Bool) (w : World) (hr0 : Kd.C k59 w A0 l0.length l0) (hc0 : l0.length ≤ c0) (h : impl_GoodSaid.f k l0 = some r) :
  Calls Try.prog 40 #[.slice A0 l0.length c0] w fun e w' => e = .returned (.bool r) ∧ Below w.heap.size w w' := by
 have hu59 := Try.underlying59
 have HR0 := am_ hr0
 have HC0 := am_ hc0
 clear hr0 hc0
 have HB := am_ (Below.refl w.heap.size w)
 have H := h
 clear h
 unfold impl_GoodSaid.f at H
 have HC2 := am_ H
 clear H
 go_enter Try.func40, Try.ntmps40
 go_upto_region 1 with (fail)
 go_cut [14] (fun v14 wc => ∃ (kq : Nat) (x14_1 : Bool), v14 = .bool x14_1 ∧ Aside0 (impl_GoodSaid.j0 kq l0 x14_1 = some r) ∧ Aside0 (kq ≤ k) ∧ Aside0 (Below w.heap.size w wc))
 case first =>
  have H := HC2.out
  clear HC2
  by_cases c3 : (l0.length : Int) < 1
  ·rw [if_pos c3] at H
   have c3b0 := decide_eq_true c3
   have c3b1 : decide (l0.length < 1) = true := decide_eq_true (by omega)
   clear c3
   first | rw [c3b0] | (simp only [i64_w, i32_w]; rw [c3b0]) | skip
   have H' := am_ H
   clear H
   go_wp2
   go_meet
   case rel => exact ⟨_, (true), (Sh.es), H', ⟨Sh.om⟩, ⟨Sh.bw⟩⟩
  ·rw [if_neg c3] at H
   have c3b0 := decide_eq_false c3
   have c3b1 : decide (l0.length < 1) = false := decide_eq_false (by omega)
   clear c3
   first | rw [c3b0] | (simp only [i64_w, i32_w]; rw [c3b0]) | skip
   have H' := am_ H
   clear H
   go_wp2
   go_meet
   case rel => exact ⟨_, (decide ((l0.length : Int) > 16)), (Sh.es), H', ⟨Sh.om⟩, ⟨Sh.bw⟩⟩
 case rest =>
  clear HC2
  obtain ⟨kq, x14_1, rfl, HA, HJ1, HB⟩ := hcut
  cases kq with
  | zero => exact absurd HA.out (by simp [impl_GoodSaid.j0])
  | succ kj1 =>
   have H := HA.out
   clear HA
   simp only [impl_GoodSaid.j0] at H
   by_cases c4 : x14_1 = true
   ·subst c4
    rw [if_pos rfl] at H
    obtain rfl := Option.some.inj H
    go_wp2
    go_ret
    exact ⟨Sh.eR, Sh.bw⟩
   ·replace c4 := Bool.eq_false_iff.mpr c4
    subst c4
    rw [Sh.nf] at H
    have H' := am_ H
    clear H
    go_wp2
    go_loopg [3, 17] kj1 (fun kq v3 v17 w' => ∃ (x3_2 : Int) (x17_2 : Int), v3 = .int .i64 x3_2 ∧ v17 = .int .i64 x17_2 ∧ Aside0 (impl_GoodSaid.l0 kq x3_2 l0 (l0.length : Int) x17_2 = some r) ∧ Aside0 (kq ≤ kj1) ∧ Aside0 (Below w.heap.size w w'))
    case atStart => exact ⟨(0), (0), (Sh.es), (Sh.es), H', ⟨Nat.le_refl _⟩, ⟨Sh.bw⟩⟩
    case round =>
     clear H'
     obtain ⟨x3_2, x17_2, rfl, rfl, HA, HK2, HB⟩ := hrel
     cases gk with
     | zero => exact absurd HA.out (by simp [impl_GoodSaid.l0])
     | succ k2 =>
      have H := HA.out
      clear HA
      simp only [impl_GoodSaid.l0] at H
      by_cases c5 : x17_2 < (l0.length : Int)
      ·rw [if_pos c5] at H
       have c5b0 := decide_eq_true c5
       clear c5
       by_cases c6 : 0 ≤ x17_2
       ·rw [if_pos c6] at H
        have c6b0 := decide_eq_true c6
        clear c6
        by_cases c7 : x17_2 < (l0.length : Int)
        ·rw [if_pos c7] at H
         have c7b0 := decide_eq_true c7
         clear c7
         obtain ⟨t171, A8, H⟩ := Sh.ba H
         obtain ⟨t172, A9, H⟩ := Sh.ba H
         by_cases c10 : t172 = true
         ·subst c10
          rw [if_pos rfl] at H
          by_cases c11 : x3_2 < t171
          ·rw [if_pos c11] at H
           have c11b0 := decide_eq_true c11
           clear c11
           obtain rfl := Option.some.inj H
           have p169 : 0 ≤ (x17_2 : Int) := Sh.od
           have q169 : x17_2 < (l0.length : Int) := Sh.od
           obtain ⟨ad169, e169, hx169_0, hx169_1⟩ := at_T59 HR0.out x17_2 p169 q169
           cases e169
           try replace hx169_0 := Sh.cw hx169_0
           try replace hx169_1 := Sh.cw hx169_1
           replace p169 := eq_true p169
           replace q169 := eq_true q169
           go_wp2_with (first | ((with_reducible refine Sh.d 5 ?_); (try (refine gate_guard (by rfl) ?_; dsimp only)); refine Sh.bz w (N := 5) (cs := #[.int .i64 0, .int .i64 0]) (t := 59) (h := ?_); clear HB; intro gb170 w12 BK170 GE170 HB; obtain ⟨hcz13_0, hcz13_1, hfz13_0, hfz13_1⟩ := Sh.b2 BK170.out) | ((with_reducible refine Sh.k 65 ?_); refine Sh.gD (some 23) Try.func65 #[.int .i64 ((rd_T59 l0 x17_2).f0)] (impl_operandsOfSaid.calls k2 ((rd_T59 l0 x17_2).f0) t171 _ A8.out) fun nd => ?_) | ((with_reducible refine Sh.k 72 ?_); refine Sh.gB (some 25) Try.func72 #[.agg #[.int .i64 ((rd_T59 l0 x17_2).f0), .int .i64 ((rd_T59 l0 x17_2).f1)]] (impl_isSaid.calls k2 ((rd_T59 l0 x17_2).f0) ((rd_T59 l0 x17_2).f1) true _ A9.out) fun w14 hb => ?_; replace BK170 := am_ (blk_below (g := gb170) (o := .cells #[.int .i64 ((rd_T59 l0 x17_2).f0), .int .i64 ((rd_T59 l0 x17_2).f1)] 59 (0, 0)) (by refine Sh.pl ?_; refine blk_put (cs := #[.int .i64 ((rd_T59 l0 x17_2).f0), .int .i64 0]) ?_ 1 _ rfl; refine Sh.pl ?_; refine blk_put (cs := #[.int .i64 0, .int .i64 0]) ?_ 0 _ rfl; refine Sh.pl ?_; exact BK170.out) hb); replace HB := Sh.hb hb; (try clear hb); (try clear hb2); (try clear hk); (try clear hi)))
           go_ret
           exact ⟨Sh.eR, Sh.bw⟩
          ·rw [if_neg c11] at H
           have c11b0 := decide_eq_false c11
           clear c11
           have H' := am_ H
           clear H
           have p169 : 0 ≤ (x17_2 : Int) := Sh.od
           have q169 : x17_2 < (l0.length : Int) := Sh.od
           obtain ⟨ad169, e169, hx169_0, hx169_1⟩ := at_T59 HR0.out x17_2 p169 q169
           cases e169
           try replace hx169_0 := Sh.cw hx169_0
           try replace hx169_1 := Sh.cw hx169_1
           replace p169 := eq_true p169
           replace q169 := eq_true q169
           go_wp2_with (first | ((with_reducible refine Sh.d 5 ?_); (try (refine gate_guard (by rfl) ?_; dsimp only)); refine Sh.bz w (N := 5) (cs := #[.int .i64 0, .int .i64 0]) (t := 59) (h := ?_); clear HB; intro gb170 w15 BK170 GE170 HB; obtain ⟨hcz16_0, hcz16_1, hfz16_0, hfz16_1⟩ := Sh.b2 BK170.out) | ((with_reducible refine Sh.k 65 ?_); refine Sh.gD (some 23) Try.func65 #[.int .i64 ((rd_T59 l0 x17_2).f0)] (impl_operandsOfSaid.calls k2 ((rd_T59 l0 x17_2).f0) t171 _ A8.out) fun nd => ?_) | ((with_reducible refine Sh.k 72 ?_); refine Sh.gB (some 25) Try.func72 #[.agg #[.int .i64 ((rd_T59 l0 x17_2).f0), .int .i64 ((rd_T59 l0 x17_2).f1)]] (impl_isSaid.calls k2 ((rd_T59 l0 x17_2).f0) ((rd_T59 l0 x17_2).f1) true _ A9.out) fun w17 hb => ?_; replace BK170 := am_ (blk_below (g := gb170) (o := .cells #[.int .i64 ((rd_T59 l0 x17_2).f0), .int .i64 ((rd_T59 l0 x17_2).f1)] 59 (0, 0)) (by refine Sh.pl ?_; refine blk_put (cs := #[.int .i64 ((rd_T59 l0 x17_2).f0), .int .i64 0]) ?_ 1 _ rfl; refine Sh.pl ?_; refine blk_put (cs := #[.int .i64 0, .int .i64 0]) ?_ 0 _ rfl; refine Sh.pl ?_; exact BK170.out) hb); replace HB := Sh.hb hb; (try clear hb); (try clear hb2); (try clear hk); (try clear hi)))
           go_roundg k2
           case measure => have := HJ1.out; have := HK2.out; omega
           case rel => exact ⟨(wrap64 (x3_2 + (wrap64 (1 - t171)))), (wrap64 (x17_2 + 1)), (Sh.es), (Sh.es), H', ⟨by have := HJ1.out; have := HK2.out; omega⟩, ⟨Sh.bw⟩⟩
         ·replace c10 := Bool.eq_false_iff.mpr c10
          subst c10
          rw [Sh.nf] at H
          obtain rfl := Option.some.inj H
          have p169 : 0 ≤ (x17_2 : Int) := Sh.od
          have q169 : x17_2 < (l0.length : Int) := Sh.od
          obtain ⟨ad169, e169, hx169_0, hx169_1⟩ := at_T59 HR0.out x17_2 p169 q169
          cases e169
          try replace hx169_0 := Sh.cw hx169_0
          try replace hx169_1 := Sh.cw hx169_1
          replace p169 := eq_true p169
          replace q169 := eq_true q169
          go_wp2_with (first | ((with_reducible refine Sh.d 5 ?_); (try (refine gate_guard (by rfl) ?_; dsimp only)); refine Sh.bz w (N := 5) (cs := #[.int .i64 0, .int .i64 0]) (t := 59) (h := ?_); clear HB; intro gb170 w18 BK170 GE170 HB; obtain ⟨hcz19_0, hcz19_1, hfz19_0, hfz19_1⟩ := Sh.b2 BK170.out) | ((with_reducible refine Sh.k 65 ?_); refine Sh.gD (some 23) Try.func65 #[.int .i64 ((rd_T59 l0 x17_2).f0)] (impl_operandsOfSaid.calls k2 ((rd_T59 l0 x17_2).f0) t171 _ A8.out) fun nd => ?_) | ((with_reducible refine Sh.k 72 ?_); refine Sh.gB (some 25) Try.func72 #[.agg #[.int .i64 ((rd_T59 l0 x17_2).f0), .int .i64 ((rd_T59 l0 x17_2).f1)]] (impl_isSaid.calls k2 ((rd_T59 l0 x17_2).f0) ((rd_T59 l0 x17_2).f1) false _ A9.out) fun w20 hb => ?_; replace BK170 := am_ (blk_below (g := gb170) (o := .cells #[.int .i64 ((rd_T59 l0 x17_2).f0), .int .i64 ((rd_T59 l0 x17_2).f1)] 59 (0, 0)) (by refine Sh.pl ?_; refine blk_put (cs := #[.int .i64 ((rd_T59 l0 x17_2).f0), .int .i64 0]) ?_ 1 _ rfl; refine Sh.pl ?_; refine blk_put (cs := #[.int .i64 0, .int .i64 0]) ?_ 0 _ rfl; refine Sh.pl ?_; exact BK170.out) hb); replace HB := Sh.hb hb; (try clear hb); (try clear hb2); (try clear hk); (try clear hi)))
          go_ret
          exact ⟨Sh.eR, Sh.bw⟩
        ·rw [if_neg c7] at H
         exact absurd H (by simp)
       ·rw [if_neg c6] at H
        exact absurd H (by simp)
      ·rw [if_neg c5] at H
       have c5b0 := decide_eq_false c5
       clear c5
       obtain rfl := Option.some.inj H
       go_wp2
       go_ret
       exact ⟨Sh.eR, Sh.bw⟩

end Go.Proofs.Ytaacldndbjmekaa.P
