/- Go functions of this seat as Lean functions, and the proofs that the calls come to what these say; printed by a program of this session. No condition. -/
import Derived.Test.YtgcglmkkfkjhhaaP0
import Derived.Test.YtgcglmkkfkjhhaaMFnExactHoldsAt4
import Derived.Test.YtgcglmkkfkjhhaaP46
set_option linter.unusedVariables false
set_option linter.unusedSimpArgs false
set_option maxHeartbeats 40000000
set_option maxRecDepth 100000
namespace Go.Proofs.Ytgcglmkkfkjhhaa.P
open Go.RowKit Go.Proofs.YtgcglmkkfkjhhaaW.PrintWords Go.Proofs.YtgcglmkkfkjhhaaW.PrintLast Go.Proofs.YtgcglmkkfkjhhaaW.PrintMore Go.Proofs.Ytgcglmkkfkjhhaa.Hof
attribute [local go_sem] max2_int min2_int max_two min_two max_three min_three max_four min_four
theorem slices_IndexFunc_int_int.gen (g : Nat) (lb : Array Value) (eg : ∀ args w, (callFunc g args).run Try.prog w = .ok (.enter g args) w) (q : Int → Option Bool) (A0 : Option Addr) (c0 : Nat) (l0 : List (Int)) (r : Int) (w : World) (hr0 : Kd.C (Kd.int .i64) w A0 l0.length l0) (hc0 : l0.length ≤ c0)
  (hp : ∀ (W : World) (x : Int) (b : Bool), Below w.heap.size w W → x ∈ l0 → q x = some b → Calls Try.prog g (#[.int .i64 x] ++ lb) W fun e w' => e = .returned (.bool b) ∧ Below W.heap.size W w')
  (h : idxO q l0 0 = some r) : Calls Try.prog 47 #[.slice A0 l0.length c0, .func (.func g) #[] lb] w fun e w' => e = .returned (.int .i64 r) ∧ Below w.heap.size w w' := by
 have HR := am_ hr0
 have HP := am_ hp
 have HH := am_ h
 have hn : l0.length ≤ 9223372036854775807 := hr0.2.1
 clear hr0 hp h
 go_enter Try.func47, Try.ntmps47
 go_wp2
 go_loopg [5, 8] l0.length (fun gg _ s8 wr => ∃ kk : Nat, kk ≤ l0.length ∧ l0.length - kk ≤ gg ∧ s8 = .int .i64 kk ∧ Aside0 (idxO q (l0.drop kk) kk = some r) ∧ Aside0 (Below w.heap.size w wr))
 case atStart => exact ⟨0, Nat.zero_le _, by omega, rfl, HH, ⟨Below.refl _ _⟩⟩
 case round =>
  obtain ⟨kk, hkk, hg, rfl, HA, HB⟩ := hrel
  clear HH
  by_cases hlt : kk < l0.length
  ·have hltz : (kk : Int) < (l0.length : Int) := by omega
   have h0z : 0 ≤ (kk : Int) := by omega
   obtain ⟨ad, e, hx⟩ := Kd.at_int HR.out (kk : Int) h0z hltz
   have er : rd l0 (kk : Int) = l0.getD kk 0 := by simp [rd]
   rw [er] at hx
   have hA := HA.out
   rw [drop_getD hlt 0] at hA
   obtain ⟨b, hb, hA2⟩ := Option.bind_eq_some_iff.mp hA
   have HA2 := am_ hA2
   have hin := getD_in hlt (0 : Int)
   have hcall := HP.out wr _ b HB.out hin hb
   generalize l0.getD kk 0 = y at hx hcall
   clear HA hA hA2 hb er hin
   skip
   cases e
   simp only [Int.toNat_natCast] at hx
   replace hx := (HB.out.cell (World.block_lt_of_cell? w _ hx)).trans hx
   cases b with
   | true =>
    go_wp2_with (go_at_fn g; refine hcall.mono ?_; rintro e w' ⟨rfl, hb2⟩)
    go_ret
    have h3 := HA2.out
    simp only [if_true] at h3
    exact ⟨by rw [← Option.some.inj h3]; rfl, below_step HB.out hb2⟩
   | false =>
    go_wp2_with (go_at_fn g; refine hcall.mono ?_; rintro e w' ⟨rfl, hb2⟩)
    go_roundg (l0.length - (kk + 1))
    case measure => omega
    case rel =>
     refine ⟨kk + 1, by omega, by omega, by go_num, ⟨by have h3 := HA2.out; simpa using h3⟩, ⟨below_step HB.out hb2⟩⟩
  ·have hltz : ¬ (kk : Int) < (l0.length : Int) := by omega
   have hA := HA.out
   rw [List.drop_of_length_le (by omega)] at hA
   have h4 : (-1 : Int) = r := Option.some.inj hA
   subst h4
   clear HA hA
   have : kk = l0.length := by omega
   subst this
   go_wp2
   go_ret
   exact ⟨rfl, HB.out⟩
theorem slices_ContainsFunc_int_int.gen (g : Nat) (lb : Array Value) (eg : ∀ args w, (callFunc g args).run Try.prog w = .ok (.enter g args) w) (q : Int → Option Bool) (A0 : Option Addr) (c0 : Nat) (l0 : List (Int)) (r : Bool) (w : World) (hr0 : Kd.C (Kd.int .i64) w A0 l0.length l0) (hc0 : l0.length ≤ c0)
  (hp : ∀ (W : World) (x : Int) (b : Bool), Below w.heap.size w W → x ∈ l0 → q x = some b → Calls Try.prog g (#[.int .i64 x] ++ lb) W fun e w' => e = .returned (.bool b) ∧ Below W.heap.size W w')
  (h : anyO q l0 = some r) : Calls Try.prog 37 #[.slice A0 l0.length c0, .func (.func g) #[] lb] w fun e w' => e = .returned (.bool r) ∧ Below w.heap.size w w' := by
 obtain ⟨i, hi, hd⟩ := idxO_of_anyO l0 r 0 (Int.le_refl 0) h
 have HC := am_ (slices_IndexFunc_int_int.gen g lb eg q A0 c0 l0 i w hr0 hc0 hp hi)
 have HD := am_ hd
 clear hr0 hp h hi hd
 go_enter Try.func37, Try.ntmps37
 go_wp2_with (go_at_call 47; refine HC.out.mono ?_; rintro e w' ⟨rfl, hb2⟩)
 go_ret
 exact ⟨by rw [← HD.out]; rfl, hb2⟩
def impl_areLetters_1.f (a0 : Int) : Option (Bool) := if a0 < 0 then (some true) else (some (decide (a0 ≥ 8)))
theorem impl_areLetters_1.calls (a0 : Int) (r : Bool) (w : World) (h : impl_areLetters_1.f a0 = some r) :
  Calls Try.prog 38 #[.int .i64 a0] w fun e w' => e = .returned (.bool r) ∧ Drawn0 w w' := by
 have H := h
 clear h
 unfold impl_areLetters_1.f at H
 by_cases c2 : a0 < 0
 ·rw [if_pos c2] at H
  have c2b0 := decide_eq_true c2
  clear c2
  obtain rfl := Option.some.inj H
  go_enter Try.func38, Try.ntmps38
  go_wp2
  go_ret
  exact ⟨Sh.es, Sh.dr⟩
 ·rw [if_neg c2] at H
  have c2b0 := decide_eq_false c2
  clear c2
  obtain rfl := Option.some.inj H
  go_enter Try.func38, Try.ntmps38
  go_wp2
  go_ret
  exact ⟨Sh.es, Sh.dr⟩
def slices_ContainsFunc_int_int_by_impl_areLetters_1.f (l0 : List Int)  : Option (Bool) := anyO (fun x_ => impl_areLetters_1.f x_ ) l0
theorem slices_ContainsFunc_int_int_by_impl_areLetters_1.calls (A0 : Option Addr) (c0 : Nat) (l0 : List Int) (r : Bool) (w : World) (hr0 : Kd.C (Kd.int .i64) w A0 l0.length l0) (hc0 : l0.length ≤ c0) (h : slices_ContainsFunc_int_int_by_impl_areLetters_1.f l0  = some r) :
  Calls Try.prog 37 #[.slice A0 l0.length c0, .func (.func 38) #[] #[]] w fun e w' => e = .returned (.bool r) ∧ Below w.heap.size w w' := by
 refine slices_ContainsFunc_int_int.gen 38 #[] (enters_of Try.func38 (by kernel_rfl) rfl) _ A0 c0 l0 r w hr0 hc0 ?_ h
 intro W x b hB_ hin_ hq_
 refine (impl_areLetters_1.calls x  b W  hq_).mono ?_
 rintro e w' ⟨rfl, hd_⟩
 exact ⟨rfl, hd_.below⟩
def impl_areLetters.f (l0 : List Int) : Option (Bool) := (slices_ContainsFunc_int_int_by_impl_areLetters_1.f l0).bind fun t196 => (some (!t196))
theorem impl_areLetters.calls (A0 : Option Addr) (c0 : Nat) (l0 : List Int) (r : Bool) (w : World) (hr0 : Kd.C (Kd.int .i64) w A0 l0.length l0) (hc0 : l0.length ≤ c0) (h : impl_areLetters.f l0 = some r) :
  Calls Try.prog 32 #[.slice A0 l0.length c0] w fun e w' => e = .returned (.bool r) ∧ Below w.heap.size w w' := by
 have HR0 := am_ hr0
 have HC0 := am_ hc0
 clear hr0 hc0
 have HB := am_ (Below.refl w.heap.size w)
 have H := h
 clear h
 unfold impl_areLetters.f at H
 obtain ⟨t196, A2, H⟩ := Sh.ba H
 obtain rfl := Option.some.inj H
 go_enter Try.func32, Try.ntmps32
 go_wp2_with (first | ((with_reducible refine Sh.k 37 ?_); refine Sh.gL (some 4) Try.func37 #[.slice A0 l0.length c0, .func (.func 38) #[] #[]] (h := ?_); (with_reducible refine (slices_ContainsFunc_int_int_by_impl_areLetters_1.calls _ _ l0  t196 _ ?side1 ?side2 A2.out).mono ?_); (case side1 => repeat (first | exact HR0.out | (with_reducible first | refine Kd.C_alloc ?_ _ | refine Kd.C_drewN ?_ _ | refine Kd.C_drew ?_))); (case side2 => exact HC0.out); rintro e w3 ⟨rfl, hb⟩; refine ⟨_, rfl, ?_⟩; replace HB := Sh.hb hb; (try clear hb); (try clear hb2); (try clear hk); (try clear hi)))
 go_ret
 exact ⟨Sh.eR, Sh.bw⟩
def impl_GoodLasso.f (l0_0 : List Int) (l0_1 : List Int) : Option (Bool) := if (l0_0.length : Int) ≤ 24 then (if (l0_1.length : Int) ≥ 1 then (if (l0_1.length : Int) ≤ 24 then ((impl_areLetters.f l0_0).bind fun t198 => (if t198 = true then ((impl_areLetters.f l0_1).bind fun t199 => (some t199)) else (some false))) else (some false)) else (some false)) else (some false)
theorem impl_GoodLasso.calls (A0_0 : Option Addr) (c0_0 : Nat) (l0_0 : List Int) (A0_1 : Option Addr) (c0_1 : Nat) (l0_1 : List Int) (r : Bool) (w : World) (hr0_0 : Kd.C (Kd.int .i64) w A0_0 l0_0.length l0_0) (hc0_0 : l0_0.length ≤ c0_0) (hr0_1 : Kd.C (Kd.int .i64) w A0_1 l0_1.length l0_1) (hc0_1 : l0_1.length ≤ c0_1) (h : impl_GoodLasso.f l0_0 l0_1 = some r) :
  Calls Try.prog 20 #[.agg #[.slice A0_0 l0_0.length c0_0, .slice A0_1 l0_1.length c0_1]] w fun e w' => e = .returned (.bool r) ∧ Below w.heap.size w w' := by
 have hu32 := Try.underlying32
 have HR0_0 := am_ hr0_0
 have HC0_0 := am_ hc0_0
 clear hr0_0 hc0_0
 have HR0_1 := am_ hr0_1
 have HC0_1 := am_ hc0_1
 clear hr0_1 hc0_1
 have HB := am_ (Below.refl w.heap.size w)
 have H := h
 clear h
 unfold impl_GoodLasso.f at H
 by_cases c2 : (l0_0.length : Int) ≤ 24
 ·rw [if_pos c2] at H
  have c2b0 := decide_eq_true c2
  have c2b1 : decide (l0_0.length ≤ 24) = true := decide_eq_true (by omega)
  clear c2
  by_cases c3 : (l0_1.length : Int) ≥ 1
  ·rw [if_pos c3] at H
   have c3b0 : decide (1 ≤ (l0_1.length : Int)) = true := decide_eq_true c3
   have c3b1 : decide (1 ≤ l0_1.length) = true := decide_eq_true (by omega)
   clear c3
   by_cases c4 : (l0_1.length : Int) ≤ 24
   ·rw [if_pos c4] at H
    have c4b0 := decide_eq_true c4
    have c4b1 : decide (l0_1.length ≤ 24) = true := decide_eq_true (by omega)
    clear c4
    obtain ⟨t198, A5, H⟩ := Sh.ba H
    by_cases c6 : t198 = true
    ·subst c6
     rw [if_pos rfl] at H
     obtain ⟨t199, A7, H⟩ := Sh.ba H
     obtain rfl := Option.some.inj H
     go_enter Try.func20, Try.ntmps20
     go_wp2_with (first | ((with_reducible refine Sh.d 1 ?_); (try (refine gate_guard (by rfl) ?_; dsimp only)); refine Sh.bz w (N := 1) (cs := #[.slice A0_0 l0_0.length c0_0, .slice A0_1 l0_1.length c0_1]) (t := 32) (h := ?_); clear HB; intro gb197 w8 BK197 GE197 HB; obtain ⟨hcz9_0, hcz9_1, hfz9_0, hfz9_1⟩ := Sh.b2 BK197.out) | (go_at_call 32; (with_reducible refine (impl_areLetters.calls _ _ l0_0 true _ (Sh.cB HR0_0.out) HC0_0.out A5.out).mono ?_); rintro e w10 ⟨rfl, hb⟩; replace BK197 := Sh.ab BK197 hb; replace HB := Sh.hb hb; (try clear hb); (try clear hb2); (try clear hk); (try clear hi); obtain ⟨hcz11_0, hcz11_1, hfz11_0, hfz11_1⟩ := Sh.b2 BK197.out) | (go_at_call 32; (with_reducible refine (impl_areLetters.calls _ _ l0_1 t199 _ (Sh.cB HR0_1.out) HC0_1.out A7.out).mono ?_); rintro e w12 ⟨rfl, hb⟩; replace BK197 := Sh.ab BK197 hb; replace HB := Sh.hb hb; (try clear hb); (try clear hb2); (try clear hk); (try clear hi)))
     go_ret
     exact ⟨Sh.eR, Sh.bw⟩
    ·replace c6 := Bool.eq_false_iff.mpr c6
     subst c6
     rw [Sh.nf] at H
     obtain rfl := Option.some.inj H
     go_enter Try.func20, Try.ntmps20
     go_wp2_with (first | ((with_reducible refine Sh.d 1 ?_); (try (refine gate_guard (by rfl) ?_; dsimp only)); refine Sh.bz w (N := 1) (cs := #[.slice A0_0 l0_0.length c0_0, .slice A0_1 l0_1.length c0_1]) (t := 32) (h := ?_); clear HB; intro gb197 w13 BK197 GE197 HB; obtain ⟨hcz14_0, hcz14_1, hfz14_0, hfz14_1⟩ := Sh.b2 BK197.out) | (go_at_call 32; (with_reducible refine (impl_areLetters.calls _ _ l0_0 false _ (Sh.cB HR0_0.out) HC0_0.out A5.out).mono ?_); rintro e w15 ⟨rfl, hb⟩; replace BK197 := Sh.ab BK197 hb; replace HB := Sh.hb hb; (try clear hb); (try clear hb2); (try clear hk); (try clear hi)))
     go_ret
     exact ⟨Sh.eR, Sh.bw⟩
   ·rw [if_neg c4] at H
    have c4b0 := decide_eq_false c4
    have c4b1 : decide (l0_1.length ≤ 24) = false := decide_eq_false (by omega)
    clear c4
    obtain rfl := Option.some.inj H
    go_enter Try.func20, Try.ntmps20
    go_wp2_with (first | ((with_reducible refine Sh.d 1 ?_); (try (refine gate_guard (by rfl) ?_; dsimp only)); refine Sh.bz w (N := 1) (cs := #[.slice A0_0 l0_0.length c0_0, .slice A0_1 l0_1.length c0_1]) (t := 32) (h := ?_); clear HB; intro gb197 w16 BK197 GE197 HB; obtain ⟨hcz17_0, hcz17_1, hfz17_0, hfz17_1⟩ := Sh.b2 BK197.out))
    go_ret
    exact ⟨Sh.eR, Sh.bw⟩
  ·rw [if_neg c3] at H
   have c3b0 : decide (1 ≤ (l0_1.length : Int)) = false := decide_eq_false c3
   have c3b1 : decide (1 ≤ l0_1.length) = false := decide_eq_false (by omega)
   clear c3
   obtain rfl := Option.some.inj H
   go_enter Try.func20, Try.ntmps20
   go_wp2_with (first | ((with_reducible refine Sh.d 1 ?_); (try (refine gate_guard (by rfl) ?_; dsimp only)); refine Sh.bz w (N := 1) (cs := #[.slice A0_0 l0_0.length c0_0, .slice A0_1 l0_1.length c0_1]) (t := 32) (h := ?_); clear HB; intro gb197 w18 BK197 GE197 HB; obtain ⟨hcz19_0, hcz19_1, hfz19_0, hfz19_1⟩ := Sh.b2 BK197.out))
   go_ret
   exact ⟨Sh.eR, Sh.bw⟩
 ·rw [if_neg c2] at H
  have c2b0 := decide_eq_false c2
  have c2b1 : decide (l0_0.length ≤ 24) = false := decide_eq_false (by omega)
  clear c2
  obtain rfl := Option.some.inj H
  go_enter Try.func20, Try.ntmps20
  go_wp2_with (first | ((with_reducible refine Sh.d 1 ?_); (try (refine gate_guard (by rfl) ?_; dsimp only)); refine Sh.bz w (N := 1) (cs := #[.slice A0_0 l0_0.length c0_0, .slice A0_1 l0_1.length c0_1]) (t := 32) (h := ?_); clear HB; intro gb197 w20 BK197 GE197 HB; obtain ⟨hcz21_0, hcz21_1, hfz21_0, hfz21_1⟩ := Sh.b2 BK197.out))
  go_ret
  exact ⟨Sh.eR, Sh.bw⟩
def impl_isIndex.f (a0 : Int) : Option (Bool) := if a0 ≥ 0 then (some (decide (a0 ≤ 1000))) else (some false)
theorem impl_isIndex.calls (a0 : Int) (r : Bool) (w : World) (h : impl_isIndex.f a0 = some r) :
  Calls Try.prog 21 #[.int .i64 a0] w fun e w' => e = .returned (.bool r) ∧ Drawn0 w w' := by
 have H := h
 clear h
 unfold impl_isIndex.f at H
 by_cases c2 : a0 ≥ 0
 ·rw [if_pos c2] at H
  have c2b0 : decide (0 ≤ a0) = true := decide_eq_true c2
  clear c2
  obtain rfl := Option.some.inj H
  go_enter Try.func21, Try.ntmps21
  go_wp2
  go_ret
  exact ⟨Sh.es, Sh.dr⟩
 ·rw [if_neg c2] at H
  have c2b0 : decide (0 ≤ a0) = false := decide_eq_false c2
  clear c2
  obtain rfl := Option.some.inj H
  go_enter Try.func21, Try.ntmps21
  go_wp2
  go_ret
  exact ⟨Sh.es, Sh.dr⟩
def impl_HoldsAt.j0 : Nat → List (S43) → Int → Bool → List Int → List Int → Option (Bool × Bool)
 | 0, _, _, _, _, _ => none
 | k + 1, x0, x2, x20, x214000, x214001 => if x20 = true then (some (false, false)) else (if x2 ≥ (x214000.length : Int) then (if (x214001.length : Int) = 0 then (none) else ((impl_Lasso_along.f x214000 x214001 x0).bind fun t217 => (if 0 ≤ (wrap64 ((x214000.length : Int) + (Int.tmod (wrap64 (x2 - (x214000.length : Int))) (x214001.length : Int)))) then (if (wrap64 ((x214000.length : Int) + (Int.tmod (wrap64 (x2 - (x214000.length : Int))) (x214001.length : Int)))) < (t217.length : Int) then (some (rdOf false t217 (wrap64 ((x214000.length : Int) + (Int.tmod (wrap64 (x2 - (x214000.length : Int))) (x214001.length : Int)))), true)) else (none)) else (none)))) else ((impl_Lasso_along.f x214000 x214001 x0).bind fun t221 => (if 0 ≤ x2 then (if x2 < (t221.length : Int) then (some (rdOf false t221 x2, true)) else (none)) else (none))))
def impl_HoldsAt.f (k : Nat) (l0 : List (S43)) (l1_0 : List Int) (l1_1 : List Int) (a2 : Int) : Option (Bool × Bool) := (impl_GoodSaid.f k l0).bind fun t214 => (if t214 = true then ((impl_GoodLasso.f l1_0 l1_1).bind fun t215 => (if t215 = true then ((impl_isIndex.f a2).bind fun t216 => (impl_HoldsAt.j0 k l0 a2 (!t216) l1_0 l1_1)) else (impl_HoldsAt.j0 k l0 a2 true l1_0 l1_1))) else (impl_HoldsAt.j0 k l0 a2 true l1_0 l1_1))
theorem impl_HoldsAt.mono_l : ∀ k, (∀ y0 y1 y2 y3 y4, LeO (impl_HoldsAt.j0 k y0 y1 y2 y3 y4) (impl_HoldsAt.j0 (k + 1) y0 y1 y2 y3 y4))
 | 0 => fun _ _ _ _ _ r h => by simp [impl_HoldsAt.j0] at h
 | k + 1 => by
  have ih0 := impl_HoldsAt.mono_l k
  ·intro y0 y1 y2 y3 y4
   unfold impl_HoldsAt.j0
   repeat' with_reducible first | apply ih0 | apply impl_GoodSaid.mono | exact LeO.refl _ | exact LeO.none _ | apply LeO.ite | refine LeO.bind ?_ fun _ => ?_
theorem impl_HoldsAt.mono : ∀ a0 a1 a2 a3 k, LeO (impl_HoldsAt.f k a0 a1 a2 a3) (impl_HoldsAt.f (k + 1) a0 a1 a2 a3) := by
 intro a0 a1 a2 a3 k
 have ih0 := impl_HoldsAt.mono_l k
 unfold impl_HoldsAt.f
 repeat' with_reducible first | apply ih0 | apply impl_GoodSaid.mono | exact LeO.refl _ | exact LeO.none _ | apply LeO.ite | refine LeO.bind ?_ fun _ => ?_
theorem impl_HoldsAt.calls (k : Nat) (A0 : Option Addr) (c0 : Nat) (l0 : List (S43)) (A1_0 : Option Addr) (c1_0 : Nat) (l1_0 : List Int) (A1_1 : Option Addr) (c1_1 : Nat) (l1_1 : List Int) (a2 : Int) (r1 : Bool) (r2 : Bool) (w : World) (hr0 : Kd.C k43 w A0 l0.length l0) (hc0 : l0.length ≤ c0) (hr1_0 : Kd.C (Kd.int .i64) w A1_0 l1_0.length l1_0) (hc1_0 : l1_0.length ≤ c1_0) (hr1_1 : Kd.C (Kd.int .i64) w A1_1 l1_1.length l1_1) (hc1_1 : l1_1.length ≤ c1_1) (h : impl_HoldsAt.f k l0 l1_0 l1_1 a2 = some (r1, r2)) :
  Calls Try.prog 9 #[.slice A0 l0.length c0, .agg #[.slice A1_0 l1_0.length c1_0, .slice A1_1 l1_1.length c1_1], .int .i64 a2] w fun e w' => e = .returned (.tuple #[.bool r1, .bool r2]) ∧ Below w.heap.size w w' := by
 have hu32 := Try.underlying32
 have HR0 := am_ hr0
 have HC0 := am_ hc0
 clear hr0 hc0
 have HR1_0 := am_ hr1_0
 have HC1_0 := am_ hc1_0
 clear hr1_0 hc1_0
 have HR1_1 := am_ hr1_1
 have HC1_1 := am_ hc1_1
 clear hr1_1 hc1_1
 have HB := am_ (Below.refl w.heap.size w)
 have H := h
 clear h
 unfold impl_HoldsAt.f at H
 have HC4 := am_ H
 clear H
 go_enter Try.func9, Try.ntmps9
 go_upto_region 1 with (first | ((with_reducible refine Sh.d 4 ?_); refine Sh.bz w (N := 4) (cs := #[.slice A1_0 l1_0.length c1_0, .slice A1_1 l1_1.length c1_1]) (t := 32) (h := ?_); clear HB; intro gb213 w5 BK213 GE213 HB))
 repeat (go_quiet (first | ((with_reducible refine Sh.d 4 ?_); refine Sh.bz w (N := 4) (cs := #[.slice A1_0 l1_0.length c1_0, .slice A1_1 l1_1.length c1_1]) (t := 32) (h := ?_); clear HB; intro gb213 w5 BK213 GE213 HB)); go_upto_region 1 with (first | ((with_reducible refine Sh.d 4 ?_); refine Sh.bz w (N := 4) (cs := #[.slice A1_0 l1_0.length c1_0, .slice A1_1 l1_1.length c1_1]) (t := 32) (h := ?_); clear HB; intro gb213 w5 BK213 GE213 HB)))
 (try simp only [Act.put, List.setIfInBounds_toArray, List.set_cons_zero, List.set_cons_succ])
 go_cut [20] (fun v20 wc => ∃ (kq : Nat) (x20_3 : Bool), v20 = .bool x20_3 ∧ Aside0 (impl_HoldsAt.j0 kq l0 a2 x20_3 l1_0 l1_1 = some (r1, r2)) ∧ Aside0 (kq ≤ k) ∧ Aside0 (wc.heap[gb213]? = some (.cells #[(.slice A1_0 l1_0.length c1_0), (.slice A1_1 l1_1.length c1_1)] 32 (0, 0))) ∧ Aside0 (Below w.heap.size w wc))
 case first =>
  have H := HC4.out
  clear HC4
  obtain ⟨t214, A6, H⟩ := Sh.ba H
  by_cases c7 : t214 = true
  ·subst c7
   rw [if_pos rfl] at H
   obtain ⟨t215, A8, H⟩ := Sh.ba H
   by_cases c9 : t215 = true
   ·subst c9
    rw [if_pos rfl] at H
    obtain ⟨t216, A10, H⟩ := Sh.ba H
    have H' := am_ H
    clear H
    go_wp2_with (first | (go_at_call 19; (with_reducible refine (impl_GoodSaid.calls k _ _ l0 true _ (Sh.cB HR0.out) HC0.out A6.out).mono ?_); rintro e w11 ⟨rfl, hb⟩; replace BK213 := Sh.ab BK213 hb; replace HB := Sh.hb hb; (try clear hb); (try clear hb2); (try clear hk); (try clear hi); obtain ⟨hcz12_0, hcz12_1, hfz12_0, hfz12_1⟩ := Sh.b2 BK213.out) | (go_at_call 20; (with_reducible refine (impl_GoodLasso.calls _ _ l1_0 _ _ l1_1 true _ (Sh.cB HR1_0.out) HC1_0.out (Sh.cB HR1_1.out) HC1_1.out A8.out).mono ?_); rintro e w13 ⟨rfl, hb⟩; replace BK213 := Sh.ab BK213 hb; replace HB := Sh.hb hb; (try clear hb); (try clear hb2); (try clear hk); (try clear hi)) | (go_at_call 21; (with_reducible refine (impl_isIndex.calls a2 t216 _ A10.out).mono ?_); rintro e w' ⟨rfl, ⟨nd, rfl⟩⟩; (try first | exact ⟨rfl, _, World.drewN_drewN _ _ _⟩ | exact ⟨rfl, _, Eq.trans (World.drewN_drewN _ _ _) (congrArg (World.drewN _) (Nat.add_assoc _ _ _))⟩)))
    repeat (go_quiet (first | (go_at_call 19; (with_reducible refine (impl_GoodSaid.calls k _ _ l0 true _ (Sh.cB HR0.out) HC0.out A6.out).mono ?_); rintro e w11 ⟨rfl, hb⟩; replace BK213 := Sh.ab BK213 hb; replace HB := Sh.hb hb; (try clear hb); (try clear hb2); (try clear hk); (try clear hi); obtain ⟨hcz12_0, hcz12_1, hfz12_0, hfz12_1⟩ := Sh.b2 BK213.out) | (go_at_call 20; (with_reducible refine (impl_GoodLasso.calls _ _ l1_0 _ _ l1_1 true _ (Sh.cB HR1_0.out) HC1_0.out (Sh.cB HR1_1.out) HC1_1.out A8.out).mono ?_); rintro e w13 ⟨rfl, hb⟩; replace BK213 := Sh.ab BK213 hb; replace HB := Sh.hb hb; (try clear hb); (try clear hb2); (try clear hk); (try clear hi)) | (go_at_call 21; (with_reducible refine (impl_isIndex.calls a2 t216 _ A10.out).mono ?_); rintro e w' ⟨rfl, ⟨nd, rfl⟩⟩; (try first | exact ⟨rfl, _, World.drewN_drewN _ _ _⟩ | exact ⟨rfl, _, Eq.trans (World.drewN_drewN _ _ _) (congrArg (World.drewN _) (Nat.add_assoc _ _ _))⟩))); try go_wp2_with (first | (go_at_call 19; (with_reducible refine (impl_GoodSaid.calls k _ _ l0 true _ (Sh.cB HR0.out) HC0.out A6.out).mono ?_); rintro e w11 ⟨rfl, hb⟩; replace BK213 := Sh.ab BK213 hb; replace HB := Sh.hb hb; (try clear hb); (try clear hb2); (try clear hk); (try clear hi); obtain ⟨hcz12_0, hcz12_1, hfz12_0, hfz12_1⟩ := Sh.b2 BK213.out) | (go_at_call 20; (with_reducible refine (impl_GoodLasso.calls _ _ l1_0 _ _ l1_1 true _ (Sh.cB HR1_0.out) HC1_0.out (Sh.cB HR1_1.out) HC1_1.out A8.out).mono ?_); rintro e w13 ⟨rfl, hb⟩; replace BK213 := Sh.ab BK213 hb; replace HB := Sh.hb hb; (try clear hb); (try clear hb2); (try clear hk); (try clear hi)) | (go_at_call 21; (with_reducible refine (impl_isIndex.calls a2 t216 _ A10.out).mono ?_); rintro e w' ⟨rfl, ⟨nd, rfl⟩⟩; (try first | exact ⟨rfl, _, World.drewN_drewN _ _ _⟩ | exact ⟨rfl, _, Eq.trans (World.drewN_drewN _ _ _) (congrArg (World.drewN _) (Nat.add_assoc _ _ _))⟩))))
    go_meet
    case rel => exact ⟨_, (!t216), (Sh.es), H', ⟨Sh.om⟩, ⟨by refine Sh.pl ?_; exact BK213.out⟩, ⟨Sh.bw⟩⟩
   ·replace c9 := Bool.eq_false_iff.mpr c9
    subst c9
    rw [Sh.nf] at H
    have H' := am_ H
    clear H
    go_wp2_with (first | (go_at_call 19; (with_reducible refine (impl_GoodSaid.calls k _ _ l0 true _ (Sh.cB HR0.out) HC0.out A6.out).mono ?_); rintro e w14 ⟨rfl, hb⟩; replace BK213 := Sh.ab BK213 hb; replace HB := Sh.hb hb; (try clear hb); (try clear hb2); (try clear hk); (try clear hi); obtain ⟨hcz15_0, hcz15_1, hfz15_0, hfz15_1⟩ := Sh.b2 BK213.out) | (go_at_call 20; (with_reducible refine (impl_GoodLasso.calls _ _ l1_0 _ _ l1_1 false _ (Sh.cB HR1_0.out) HC1_0.out (Sh.cB HR1_1.out) HC1_1.out A8.out).mono ?_); rintro e w16 ⟨rfl, hb⟩; replace BK213 := Sh.ab BK213 hb; replace HB := Sh.hb hb; (try clear hb); (try clear hb2); (try clear hk); (try clear hi)))
    repeat (go_quiet (first | (go_at_call 19; (with_reducible refine (impl_GoodSaid.calls k _ _ l0 true _ (Sh.cB HR0.out) HC0.out A6.out).mono ?_); rintro e w14 ⟨rfl, hb⟩; replace BK213 := Sh.ab BK213 hb; replace HB := Sh.hb hb; (try clear hb); (try clear hb2); (try clear hk); (try clear hi); obtain ⟨hcz15_0, hcz15_1, hfz15_0, hfz15_1⟩ := Sh.b2 BK213.out) | (go_at_call 20; (with_reducible refine (impl_GoodLasso.calls _ _ l1_0 _ _ l1_1 false _ (Sh.cB HR1_0.out) HC1_0.out (Sh.cB HR1_1.out) HC1_1.out A8.out).mono ?_); rintro e w16 ⟨rfl, hb⟩; replace BK213 := Sh.ab BK213 hb; replace HB := Sh.hb hb; (try clear hb); (try clear hb2); (try clear hk); (try clear hi))); try go_wp2_with (first | (go_at_call 19; (with_reducible refine (impl_GoodSaid.calls k _ _ l0 true _ (Sh.cB HR0.out) HC0.out A6.out).mono ?_); rintro e w14 ⟨rfl, hb⟩; replace BK213 := Sh.ab BK213 hb; replace HB := Sh.hb hb; (try clear hb); (try clear hb2); (try clear hk); (try clear hi); obtain ⟨hcz15_0, hcz15_1, hfz15_0, hfz15_1⟩ := Sh.b2 BK213.out) | (go_at_call 20; (with_reducible refine (impl_GoodLasso.calls _ _ l1_0 _ _ l1_1 false _ (Sh.cB HR1_0.out) HC1_0.out (Sh.cB HR1_1.out) HC1_1.out A8.out).mono ?_); rintro e w16 ⟨rfl, hb⟩; replace BK213 := Sh.ab BK213 hb; replace HB := Sh.hb hb; (try clear hb); (try clear hb2); (try clear hk); (try clear hi))))
    go_meet
    case rel => exact ⟨_, (true), (Sh.es), H', ⟨Sh.om⟩, ⟨by refine Sh.pl ?_; exact BK213.out⟩, ⟨Sh.bw⟩⟩
  ·replace c7 := Bool.eq_false_iff.mpr c7
   subst c7
   rw [Sh.nf] at H
   have H' := am_ H
   clear H
   go_wp2_with (first | (go_at_call 19; (with_reducible refine (impl_GoodSaid.calls k _ _ l0 false _ (Sh.cB HR0.out) HC0.out A6.out).mono ?_); rintro e w17 ⟨rfl, hb⟩; replace BK213 := Sh.ab BK213 hb; replace HB := Sh.hb hb; (try clear hb); (try clear hb2); (try clear hk); (try clear hi)))
   repeat (go_quiet (first | (go_at_call 19; (with_reducible refine (impl_GoodSaid.calls k _ _ l0 false _ (Sh.cB HR0.out) HC0.out A6.out).mono ?_); rintro e w17 ⟨rfl, hb⟩; replace BK213 := Sh.ab BK213 hb; replace HB := Sh.hb hb; (try clear hb); (try clear hb2); (try clear hk); (try clear hi))); try go_wp2_with (first | (go_at_call 19; (with_reducible refine (impl_GoodSaid.calls k _ _ l0 false _ (Sh.cB HR0.out) HC0.out A6.out).mono ?_); rintro e w17 ⟨rfl, hb⟩; replace BK213 := Sh.ab BK213 hb; replace HB := Sh.hb hb; (try clear hb); (try clear hb2); (try clear hk); (try clear hi))))
   go_meet
   case rel => exact ⟨_, (true), (Sh.es), H', ⟨Sh.om⟩, ⟨by refine Sh.pl ?_; exact BK213.out⟩, ⟨Sh.bw⟩⟩
 case rest =>
  clear HC4
  try clear hcz12_0
  try clear hcz12_1
  try clear hcz15_0
  try clear hcz15_1
  try clear hfz12_0
  try clear hfz12_1
  try clear hfz15_0
  try clear hfz15_1
  obtain ⟨kq, x20_3, rfl, HA, HJ3, BK213, HB⟩ := hcut
  cases kq with
  | zero => exact absurd HA.out (by simp [impl_HoldsAt.j0])
  | succ kj3 =>
   have H := HA.out
   clear HA
   simp only [impl_HoldsAt.j0] at H
   by_cases c18 : x20_3 = true
   ·subst c18
    rw [if_pos rfl] at H
    simp only [Option.some.injEq, Prod.mk.injEq] at H
    obtain ⟨rfl, rfl⟩ := H
    go_wp2
    repeat (go_quiet (fail); try go_wp2)
    go_ret2
    exact ⟨Sh.eR, Sh.bw⟩
   ·replace c18 := Bool.eq_false_iff.mpr c18
    subst c18
    rw [Sh.nf] at H
    by_cases c19 : a2 ≥ (l1_0.length : Int)
    ·rw [if_pos c19] at H
     have c19b0 : decide ((l1_0.length : Int) ≤ a2) = true := decide_eq_true c19
     clear c19
     by_cases c20 : (l1_1.length : Int) = 0
     ·rw [if_pos c20] at H
      exact absurd H (by simp)
     ·rw [if_neg c20] at H
      have c20b0 : ((l1_1.length : Int) == 0) = false := beq_eq_false_iff_ne.mpr c20
      have c20b1 : ((l1_1.length : Int) != 0) = true := bne_iff_ne.mpr c20
      have c20b2 : ¬ (l1_1 = []) := fun h_ => c20 (by rw [h_]; rfl)
      obtain ⟨t217, A21, H⟩ := Sh.ba H
      obtain ⟨ji22, hj1⟩ : ∃ j_ : Int, (wrap64 ((l1_0.length : Int) + (Int.tmod (wrap64 (a2 - (l1_0.length : Int))) (l1_1.length : Int)))) = j_ := ⟨_, rfl⟩
      replace H : (if 0 ≤ (ji22) then (if (ji22) < (t217.length : Int) then (some (rdOf false t217 (ji22), true)) else (none)) else (none)) = some (r1, r2) := by first | (rw [hj1] at H; exact H) | (simp only [hj1] at H ⊢; exact H)
      (try rw [hj1] at A21)
      have hji22w : (IntKind.i64.wrap ((l1_0.length : Int) + (Int.tmod (wrap64 (a2 - (l1_0.length : Int))) (l1_1.length : Int)))) = ji22 := (i64_w _).trans hj1
      by_cases c23 : 0 ≤ (ji22)
      ·rw [if_pos c23] at H
       have c23b0 := decide_eq_true c23
       clear c23
       by_cases c24 : (ji22) < (t217.length : Int)
       ·rw [if_pos c24] at H
        have c24b0 := decide_eq_true c24
        clear c24
        simp only [Option.some.injEq, Prod.mk.injEq] at H
        obtain ⟨rfl, rfl⟩ := H
        have hcz25_0 := Sh.bc BK213.out 0
        have hcz25_1 := Sh.bc BK213.out 1
        have hfz25_0 := blk_frozen BK213.out 0
        have hfz25_1 := blk_frozen BK213.out 1
        go_wp2_with (first | (go_at_call 22; (with_reducible refine (impl_Lasso_along.calls _ _ l1_0 _ _ l1_1 _ _ l0 t217 _ (Sh.cB HR1_0.out) HC1_0.out (Sh.cB HR1_1.out) HC1_1.out (Sh.cB HR0.out) HC0.out A21.out).mono ?_); rintro e w26 ⟨v218, rfl, ho0, hb⟩; have HO219 := am_ (Kd.R_lower ho0 (below_size Sh.bw)); replace BK213 := Sh.ab BK213 hb; replace HB := Sh.hb hb; (try clear hb); (try clear hb2); (try clear hk); (try clear hi); (try clear ho0); obtain ⟨Ao27, co27, eo27⟩ := Kd.R_slice HO219.out; subst eo27; have p220 : 0 ≤ ((ji22) : Int) := Sh.od; have q220 : (ji22) < (t217.length : Int) := Sh.od; obtain ⟨ad220, e220, hx220_0⟩ := Kd.at_bool (Kd.R_reads' HO219.out).2.2 (ji22) p220 q220; cases e220; replace p220 := eq_true p220; replace q220 := eq_true q220))
        repeat (go_quiet (first | (go_at_call 22; (with_reducible refine (impl_Lasso_along.calls _ _ l1_0 _ _ l1_1 _ _ l0 t217 _ (Sh.cB HR1_0.out) HC1_0.out (Sh.cB HR1_1.out) HC1_1.out (Sh.cB HR0.out) HC0.out A21.out).mono ?_); rintro e w26 ⟨v218, rfl, ho0, hb⟩; have HO219 := am_ (Kd.R_lower ho0 (below_size Sh.bw)); replace BK213 := Sh.ab BK213 hb; replace HB := Sh.hb hb; (try clear hb); (try clear hb2); (try clear hk); (try clear hi); (try clear ho0); obtain ⟨Ao27, co27, eo27⟩ := Kd.R_slice HO219.out; subst eo27; have p220 : 0 ≤ ((ji22) : Int) := Sh.od; have q220 : (ji22) < (t217.length : Int) := Sh.od; obtain ⟨ad220, e220, hx220_0⟩ := Kd.at_bool (Kd.R_reads' HO219.out).2.2 (ji22) p220 q220; cases e220; replace p220 := eq_true p220; replace q220 := eq_true q220)); try go_wp2_with (first | (go_at_call 22; (with_reducible refine (impl_Lasso_along.calls _ _ l1_0 _ _ l1_1 _ _ l0 t217 _ (Sh.cB HR1_0.out) HC1_0.out (Sh.cB HR1_1.out) HC1_1.out (Sh.cB HR0.out) HC0.out A21.out).mono ?_); rintro e w26 ⟨v218, rfl, ho0, hb⟩; have HO219 := am_ (Kd.R_lower ho0 (below_size Sh.bw)); replace BK213 := Sh.ab BK213 hb; replace HB := Sh.hb hb; (try clear hb); (try clear hb2); (try clear hk); (try clear hi); (try clear ho0); obtain ⟨Ao27, co27, eo27⟩ := Kd.R_slice HO219.out; subst eo27; have p220 : 0 ≤ ((ji22) : Int) := Sh.od; have q220 : (ji22) < (t217.length : Int) := Sh.od; obtain ⟨ad220, e220, hx220_0⟩ := Kd.at_bool (Kd.R_reads' HO219.out).2.2 (ji22) p220 q220; cases e220; replace p220 := eq_true p220; replace q220 := eq_true q220)))
        go_ret2
        exact ⟨by first | rfl | (simp [errW_none, errW_some] <;> rfl) | (simp only [← hj1]; first | rfl | (simp [errW_none, errW_some] <;> rfl)) | (simp [*, errW_none, errW_some] <;> rfl), Sh.bw⟩
       ·rw [if_neg c24] at H
        exact absurd H (by simp)
      ·rw [if_neg c23] at H
       exact absurd H (by simp)
    ·rw [if_neg c19] at H
     have c19b0 : decide ((l1_0.length : Int) ≤ a2) = false := decide_eq_false c19
     clear c19
     obtain ⟨t221, A28, H⟩ := Sh.ba H
     by_cases c29 : 0 ≤ a2
     ·rw [if_pos c29] at H
      have c29b0 := decide_eq_true c29
      clear c29
      by_cases c30 : a2 < (t221.length : Int)
      ·rw [if_pos c30] at H
       have c30b0 := decide_eq_true c30
       clear c30
       simp only [Option.some.injEq, Prod.mk.injEq] at H
       obtain ⟨rfl, rfl⟩ := H
       have hcz31_0 := Sh.bc BK213.out 0
       have hcz31_1 := Sh.bc BK213.out 1
       have hfz31_0 := blk_frozen BK213.out 0
       have hfz31_1 := blk_frozen BK213.out 1
       go_wp2_with (first | (go_at_call 22; (with_reducible refine (impl_Lasso_along.calls _ _ l1_0 _ _ l1_1 _ _ l0 t221 _ (Sh.cB HR1_0.out) HC1_0.out (Sh.cB HR1_1.out) HC1_1.out (Sh.cB HR0.out) HC0.out A28.out).mono ?_); rintro e w32 ⟨v222, rfl, ho0, hb⟩; have HO223 := am_ (Kd.R_lower ho0 (below_size Sh.bw)); replace BK213 := Sh.ab BK213 hb; replace HB := Sh.hb hb; (try clear hb); (try clear hb2); (try clear hk); (try clear hi); (try clear ho0); obtain ⟨Ao33, co33, eo33⟩ := Kd.R_slice HO223.out; subst eo33; have p224 : 0 ≤ (a2 : Int) := Sh.od; have q224 : a2 < (t221.length : Int) := Sh.od; obtain ⟨ad224, e224, hx224_0⟩ := Kd.at_bool (Kd.R_reads' HO223.out).2.2 a2 p224 q224; cases e224; replace p224 := eq_true p224; replace q224 := eq_true q224))
       repeat (go_quiet (first | (go_at_call 22; (with_reducible refine (impl_Lasso_along.calls _ _ l1_0 _ _ l1_1 _ _ l0 t221 _ (Sh.cB HR1_0.out) HC1_0.out (Sh.cB HR1_1.out) HC1_1.out (Sh.cB HR0.out) HC0.out A28.out).mono ?_); rintro e w32 ⟨v222, rfl, ho0, hb⟩; have HO223 := am_ (Kd.R_lower ho0 (below_size Sh.bw)); replace BK213 := Sh.ab BK213 hb; replace HB := Sh.hb hb; (try clear hb); (try clear hb2); (try clear hk); (try clear hi); (try clear ho0); obtain ⟨Ao33, co33, eo33⟩ := Kd.R_slice HO223.out; subst eo33; have p224 : 0 ≤ (a2 : Int) := Sh.od; have q224 : a2 < (t221.length : Int) := Sh.od; obtain ⟨ad224, e224, hx224_0⟩ := Kd.at_bool (Kd.R_reads' HO223.out).2.2 a2 p224 q224; cases e224; replace p224 := eq_true p224; replace q224 := eq_true q224)); try go_wp2_with (first | (go_at_call 22; (with_reducible refine (impl_Lasso_along.calls _ _ l1_0 _ _ l1_1 _ _ l0 t221 _ (Sh.cB HR1_0.out) HC1_0.out (Sh.cB HR1_1.out) HC1_1.out (Sh.cB HR0.out) HC0.out A28.out).mono ?_); rintro e w32 ⟨v222, rfl, ho0, hb⟩; have HO223 := am_ (Kd.R_lower ho0 (below_size Sh.bw)); replace BK213 := Sh.ab BK213 hb; replace HB := Sh.hb hb; (try clear hb); (try clear hb2); (try clear hk); (try clear hi); (try clear ho0); obtain ⟨Ao33, co33, eo33⟩ := Kd.R_slice HO223.out; subst eo33; have p224 : 0 ≤ (a2 : Int) := Sh.od; have q224 : a2 < (t221.length : Int) := Sh.od; obtain ⟨ad224, e224, hx224_0⟩ := Kd.at_bool (Kd.R_reads' HO223.out).2.2 a2 p224 q224; cases e224; replace p224 := eq_true p224; replace q224 := eq_true q224)))
       go_ret2
       exact ⟨Sh.eR, Sh.bw⟩
      ·rw [if_neg c30] at H
       exact absurd H (by simp)
     ·rw [if_neg c29] at H
      exact absurd H (by simp)
def laws_eqSaid.f (a0_0 : Int) (a0_1 : Int) (a1_0 : Int) (a1_1 : Int) : Option (Bool) := if a0_0 = a1_0 then (if a0_1 = a1_1 then (some true) else (some false)) else (some false)
theorem laws_eqSaid.calls (a0_0 : Int) (a0_1 : Int) (a1_0 : Int) (a1_1 : Int) (r : Bool) (w : World) (h : laws_eqSaid.f a0_0 a0_1 a1_0 a1_1 = some r) :
  Calls Try.prog 23 #[.agg #[.int .i64 a0_0, .int .i64 a0_1], .agg #[.int .i64 a1_0, .int .i64 a1_1]] w fun e w' => e = .returned (.bool r) ∧ Below w.heap.size w w' := by
 have hu43 := Try.underlying43
 have HB := am_ (Below.refl w.heap.size w)
 have H := h
 clear h
 unfold laws_eqSaid.f at H
 by_cases c3 : a0_0 = a1_0
 ·rw [if_pos c3] at H
  have c3b0 : (a0_0 == a1_0) = true := beq_iff_eq.mpr c3
  have c3b1 : (a0_0 != a1_0) = false := bne_eq_false_iff_eq.mpr c3
  clear c3
  by_cases c4 : a0_1 = a1_1
  ·rw [if_pos c4] at H
   have c4b0 : (a0_1 == a1_1) = true := beq_iff_eq.mpr c4
   have c4b1 : (a0_1 != a1_1) = false := bne_eq_false_iff_eq.mpr c4
   clear c4
   obtain rfl := Option.some.inj H
   go_enter Try.func23, Try.ntmps23
   go_wp2_with (first | ((with_reducible refine Sh.d 2 ?_); refine Sh.bz w (N := 2) (cs := #[.int .i64 a0_0, .int .i64 a0_1]) (t := 43) (h := ?_); clear HB; intro gb225 w5 BK225 GE225 HB) | ((with_reducible refine Sh.d 3 ?_); refine Sh.bx (N := 3) (cs := #[.int .i64 a1_0, .int .i64 a1_1]) (t := 43) (h := ?_); intro gb226 hg w6 hbox hb; have BK226 := am_ hbox; have GE226 := Sh.ag w hg; replace HB := Sh.hb hb; have NB225_226 := am_ (Sh.nl hg BK225.out); have NB226_225 := am_ (Sh.ng hg BK225.out); replace BK225 := Sh.ab BK225 hb; clear hb hbox hg; have hnb7 := NB225_226.out; have hnc7 := NB226_225.out; obtain ⟨hcz8_0, hcz8_1, hfz8_0, hfz8_1⟩ := Sh.b2 BK225.out; obtain ⟨hcz9_0, hcz9_1, hfz9_0, hfz9_1⟩ := Sh.b2 BK226.out))
   go_ret
   exact ⟨Sh.eR, Sh.bw⟩
  ·rw [if_neg c4] at H
   have c4b0 : (a0_1 == a1_1) = false := beq_eq_false_iff_ne.mpr c4
   have c4b1 : (a0_1 != a1_1) = true := bne_iff_ne.mpr c4
   obtain rfl := Option.some.inj H
   go_enter Try.func23, Try.ntmps23
   go_wp2_with (first | ((with_reducible refine Sh.d 2 ?_); refine Sh.bz w (N := 2) (cs := #[.int .i64 a0_0, .int .i64 a0_1]) (t := 43) (h := ?_); clear HB; intro gb225 w10 BK225 GE225 HB) | ((with_reducible refine Sh.d 3 ?_); refine Sh.bx (N := 3) (cs := #[.int .i64 a1_0, .int .i64 a1_1]) (t := 43) (h := ?_); intro gb226 hg w11 hbox hb; have BK226 := am_ hbox; have GE226 := Sh.ag w hg; replace HB := Sh.hb hb; have NB225_226 := am_ (Sh.nl hg BK225.out); have NB226_225 := am_ (Sh.ng hg BK225.out); replace BK225 := Sh.ab BK225 hb; clear hb hbox hg; have hnb12 := NB225_226.out; have hnc12 := NB226_225.out; obtain ⟨hcz13_0, hcz13_1, hfz13_0, hfz13_1⟩ := Sh.b2 BK225.out; obtain ⟨hcz14_0, hcz14_1, hfz14_0, hfz14_1⟩ := Sh.b2 BK226.out))
   go_ret
   exact ⟨Sh.eR, Sh.bw⟩
 ·rw [if_neg c3] at H
  have c3b0 : (a0_0 == a1_0) = false := beq_eq_false_iff_ne.mpr c3
  have c3b1 : (a0_0 != a1_0) = true := bne_iff_ne.mpr c3
  obtain rfl := Option.some.inj H
  go_enter Try.func23, Try.ntmps23
  go_wp2_with (first | ((with_reducible refine Sh.d 2 ?_); refine Sh.bz w (N := 2) (cs := #[.int .i64 a0_0, .int .i64 a0_1]) (t := 43) (h := ?_); clear HB; intro gb225 w15 BK225 GE225 HB) | ((with_reducible refine Sh.d 3 ?_); refine Sh.bx (N := 3) (cs := #[.int .i64 a1_0, .int .i64 a1_1]) (t := 43) (h := ?_); intro gb226 hg w16 hbox hb; have BK226 := am_ hbox; have GE226 := Sh.ag w hg; replace HB := Sh.hb hb; have NB225_226 := am_ (Sh.nl hg BK225.out); have NB226_225 := am_ (Sh.ng hg BK225.out); replace BK225 := Sh.ab BK225 hb; clear hb hbox hg; have hnb17 := NB225_226.out; have hnc17 := NB226_225.out; obtain ⟨hcz18_0, hcz18_1, hfz18_0, hfz18_1⟩ := Sh.b2 BK225.out; obtain ⟨hcz19_0, hcz19_1, hfz19_0, hfz19_1⟩ := Sh.b2 BK226.out))
  go_ret
  exact ⟨Sh.eR, Sh.bw⟩
def laws_eqSaidS.l0 : Nat → List (S43) → List (S43) → Int → Option (Bool)
 | 0, _, _, _ => none
 | k + 1, x0, x1, x5 => if x5 < (x0.length : Int) then (if 0 ≤ x5 then (if x5 < (x1.length : Int) then ((laws_eqSaid.f ((rd_T43 x0 x5).f0) ((rd_T43 x0 x5).f1) ((rd_T43 x1 x5).f0) ((rd_T43 x1 x5).f1)).bind fun t229 => (if t229 = true then (laws_eqSaidS.l0 k x0 x1 (wrap64 (x5 + 1))) else (some false))) else (none)) else (none)) else (some true)
def laws_eqSaidS.f (k : Nat) (l0 : List (S43)) (l1 : List (S43)) : Option (Bool) := if (l0.length : Int) = (l1.length : Int) then (laws_eqSaidS.l0 k l0 l1 0) else (some false)
theorem laws_eqSaidS.mono_l : ∀ k, (∀ y0 y1 y2, LeO (laws_eqSaidS.l0 k y0 y1 y2) (laws_eqSaidS.l0 (k + 1) y0 y1 y2))
 | 0 => fun _ _ _ r h => by simp [laws_eqSaidS.l0] at h
 | k + 1 => by
  have ih0 := laws_eqSaidS.mono_l k
  ·intro y0 y1 y2
   unfold laws_eqSaidS.l0
   repeat' with_reducible first | apply ih0 | exact LeO.refl _ | exact LeO.none _ | apply LeO.ite | refine LeO.bind ?_ fun _ => ?_
theorem laws_eqSaidS.mono : ∀ a0 a1 k, LeO (laws_eqSaidS.f k a0 a1) (laws_eqSaidS.f (k + 1) a0 a1) := by
 intro a0 a1 k
 have ih0 := laws_eqSaidS.mono_l k
 unfold laws_eqSaidS.f
 repeat' with_reducible first | apply ih0 | exact LeO.refl _ | exact LeO.none _ | apply LeO.ite | refine LeO.bind ?_ fun _ => ?_
def laws_eqSaidS.T6 : Bool × List (List Nat × List Nat) := (true, [([], []), ([], []), ([0, 1], [0, 1]), ([2], [2]), ([], []), ([], []), ([4, 5], [4, 5]), ([6], [6]), ([3, 7], [3, 7]), ([8], [8])])
def laws_eqSaidS.B6 : List Nat := [0, 0, 3, 7, 0, 0, 48, 112, 255, 511]
theorem laws_eqSaidS.tab6 : rtab .any (opsOf Try.f10 6) = laws_eqSaidS.T6 := by kernel_rfl
theorem laws_eqSaidS.bits6 : waitsOk laws_eqSaidS.T6.2 laws_eqSaidS.B6 = true := by kernel_rfl
theorem laws_eqSaidS.calls (k : Nat) (A0 : Option Addr) (c0 : Nat) (l0 : List (S43)) (A1 : Option Addr) (c1 : Nat) (l1 : List (S43)) (r : Bool) (w : World) (hr0 : Kd.C k43 w A0 l0.length l0) (hc0 : l0.length ≤ c0) (hr1 : Kd.C k43 w A1 l1.length l1) (hc1 : l1.length ≤ c1) (h : laws_eqSaidS.f k l0 l1 = some r) :
  Calls Try.prog 10 #[.slice A0 l0.length c0, .slice A1 l1.length c1] w fun e w' => e = .returned (.bool r) ∧ Below w.heap.size w w' := by
 have hu43 := Try.underlying43
 have HR0 := am_ hr0
 have HC0 := am_ hc0
 clear hr0 hc0
 have HR1 := am_ hr1
 have HC1 := am_ hc1
 clear hr1 hc1
 have HB := am_ (Below.refl w.heap.size w)
 have H := h
 clear h
 unfold laws_eqSaidS.f at H
 by_cases c3 : (l0.length : Int) = (l1.length : Int)
 ·rw [if_pos c3] at H
  have c3b0 : ((l0.length : Int) == (l1.length : Int)) = true := beq_iff_eq.mpr c3
  have c3b1 : ((l0.length : Int) != (l1.length : Int)) = false := bne_eq_false_iff_eq.mpr c3
  have c3b2 : (l0.length == l1.length) = true := by first | simpa using c3 | (simp at c3 ⊢; omega)
  clear c3
  have H' := am_ H
  clear H
  go_enter Try.func10, Try.ntmps10
  go_wp2
  go_loopg [5] k (fun kq v5 w' => ∃ (x5_1 : Int), v5 = .int .i64 x5_1 ∧ Aside0 (laws_eqSaidS.l0 kq l0 l1 x5_1 = some r) ∧ Aside0 (kq ≤ k) ∧ Aside0 (Below w.heap.size w w'))
  case atStart => exact ⟨(0), (Sh.es), H', ⟨Nat.le_refl _⟩, ⟨Sh.bw⟩⟩
  case round =>
   clear H'
   obtain ⟨x5_1, rfl, HA, HK1, HB⟩ := hrel
   cases gk with
   | zero => exact absurd HA.out (by simp [laws_eqSaidS.l0])
   | succ k1 =>
    have H := HA.out
    clear HA
    simp only [laws_eqSaidS.l0] at H
    by_cases c4 : x5_1 < (l0.length : Int)
    ·rw [if_pos c4] at H
     have c4b0 := decide_eq_true c4
     clear c4
     by_cases c5 : 0 ≤ x5_1
     ·rw [if_pos c5] at H
      have c5b0 := decide_eq_true c5
      clear c5
      by_cases c6 : x5_1 < (l1.length : Int)
      ·rw [if_pos c6] at H
       have c6b0 := decide_eq_true c6
       clear c6
       obtain ⟨t229, A7, H⟩ := Sh.ba H
       by_cases c8 : t229 = true
       ·subst c8
        rw [if_pos rfl] at H
        have H' := am_ H
        clear H
        try go_wp2
        replace HB := am_ (below_drew1 HB.out)
        have p227 : 0 ≤ (x5_1 : Int) := Sh.od
        have q227 : x5_1 < (l0.length : Int) := Sh.od
        obtain ⟨ad227, e227, hx227_0, hx227_1⟩ := at_T43 HR0.out x5_1 p227 q227
        have hw227_1 := hx227_1
        have hw227_0 := hx227_0
        cases e227
        try replace hx227_0 := Sh.cw hx227_0
        try replace hx227_1 := Sh.cw hx227_1
        replace p227 := eq_true p227
        replace q227 := eq_true q227
        have p228 : 0 ≤ (x5_1 : Int) := Sh.od
        have q228 : x5_1 < (l1.length : Int) := Sh.od
        obtain ⟨ad228, e228, hx228_0, hx228_1⟩ := at_T43 HR1.out x5_1 p228 q228
        have hw228_1 := hx228_1
        have hw228_0 := hx228_0
        cases e228
        try replace hx228_0 := Sh.cw hx228_0
        try replace hx228_1 := Sh.cw hx228_1
        replace p228 := eq_true p228
        replace q228 := eq_true q228
        refine start_ (n := 10) (S := fun w' => w'.cell? (ad227.add ((x5_1).toNat * 2)) = some (.int .i64 ((rd_T43 l0 x5_1).f0)) ∧ w'.cell? ⟨(ad227.add ((x5_1).toNat * 2)).block, (ad227.add ((x5_1).toNat * 2)).off + 1, none⟩ = some (.int .i64 ((rd_T43 l0 x5_1).f1)) ∧ w'.cell? (ad228.add ((x5_1).toNat * 2)) = some (.int .i64 ((rd_T43 l1 x5_1).f0)) ∧ w'.cell? ⟨(ad228.add ((x5_1).toNat * 2)).block, (ad228.add ((x5_1).toNat * 2)).off + 1, none⟩ = some (.int .i64 ((rd_T43 l1 x5_1).f1))) (ds := []) (Sh.nm 10 0) (by kernel_rfl) rfl rfl Sh.cs (fun hHeld => ?_); refine with_tabW laws_eqSaidS.tab6 laws_eqSaidS.bits6 (fun HT_ HW_ => ?_)
        generalize wr.drew = w9 at HB hx227_0 hx227_1 hx228_0 hx228_1 hHeld ⊢
        refine Sh.qA 0 ?_; refine Sh.qA 1 ?_; refine Sh.qA 2 ?_; refine Sh.qA 4 ?_; refine Sh.qA 5 ?_; refine Sh.qA 6 ?_; refine Sh.qT 3 hHeld ?_; refine Sh.qT 7 hHeld ?_
        refine Sh.oC 8 Try.func23 #[.agg #[.int .i64 ((rd_T43 l0 x5_1).f0), .int .i64 ((rd_T43 l0 x5_1).f1)], .agg #[.int .i64 ((rd_T43 l1 x5_1).f0), .int .i64 ((rd_T43 l1 x5_1).f1)]] fun K hK => ?_
        with_reducible refine (laws_eqSaid.calls ((rd_T43 l0 x5_1).f0) ((rd_T43 l0 x5_1).f1) ((rd_T43 l1 x5_1).f0) ((rd_T43 l1 x5_1).f1) true _ A7.out).mono ?_
        rintro e w10 ⟨rfl, hb⟩
        refine ⟨_, rfl, ?_⟩
        replace HB := Sh.hb hb
        (try clear hb)
        (try clear hb2)
        (try clear hk)
        (try clear hi)
        refine Sh.kN hK Sh.cs fun hHeld => ?_
        clear hK K
        refine Sh.qA 9 ?_
        refine done_ (done_of HT_.out (by kernel_rfl)) ?_
        try go_wp2
        go_roundg k1
        case measure => have := HK1.out; omega
        case rel => exact ⟨(wrap64 (x5_1 + 1)), (Sh.es), H', ⟨by have := HK1.out; omega⟩, ⟨Sh.bw⟩⟩
       ·replace c8 := Bool.eq_false_iff.mpr c8
        subst c8
        rw [Sh.nf] at H
        obtain rfl := Option.some.inj H
        try go_wp2
        replace HB := am_ (below_drew1 HB.out)
        have p227 : 0 ≤ (x5_1 : Int) := Sh.od
        have q227 : x5_1 < (l0.length : Int) := Sh.od
        obtain ⟨ad227, e227, hx227_0, hx227_1⟩ := at_T43 HR0.out x5_1 p227 q227
        have hw227_1 := hx227_1
        have hw227_0 := hx227_0
        cases e227
        try replace hx227_0 := Sh.cw hx227_0
        try replace hx227_1 := Sh.cw hx227_1
        replace p227 := eq_true p227
        replace q227 := eq_true q227
        have p228 : 0 ≤ (x5_1 : Int) := Sh.od
        have q228 : x5_1 < (l1.length : Int) := Sh.od
        obtain ⟨ad228, e228, hx228_0, hx228_1⟩ := at_T43 HR1.out x5_1 p228 q228
        have hw228_1 := hx228_1
        have hw228_0 := hx228_0
        cases e228
        try replace hx228_0 := Sh.cw hx228_0
        try replace hx228_1 := Sh.cw hx228_1
        replace p228 := eq_true p228
        replace q228 := eq_true q228
        refine start_ (n := 10) (S := fun w' => w'.cell? (ad227.add ((x5_1).toNat * 2)) = some (.int .i64 ((rd_T43 l0 x5_1).f0)) ∧ w'.cell? ⟨(ad227.add ((x5_1).toNat * 2)).block, (ad227.add ((x5_1).toNat * 2)).off + 1, none⟩ = some (.int .i64 ((rd_T43 l0 x5_1).f1)) ∧ w'.cell? (ad228.add ((x5_1).toNat * 2)) = some (.int .i64 ((rd_T43 l1 x5_1).f0)) ∧ w'.cell? ⟨(ad228.add ((x5_1).toNat * 2)).block, (ad228.add ((x5_1).toNat * 2)).off + 1, none⟩ = some (.int .i64 ((rd_T43 l1 x5_1).f1))) (ds := []) (Sh.nm 10 0) (by kernel_rfl) rfl rfl Sh.cs (fun hHeld => ?_); refine with_tabW laws_eqSaidS.tab6 laws_eqSaidS.bits6 (fun HT_ HW_ => ?_)
        generalize wr.drew = w11 at HB hx227_0 hx227_1 hx228_0 hx228_1 hHeld ⊢
        refine Sh.qA 0 ?_; refine Sh.qA 1 ?_; refine Sh.qA 2 ?_; refine Sh.qA 4 ?_; refine Sh.qA 5 ?_; refine Sh.qA 6 ?_; refine Sh.qT 3 hHeld ?_; refine Sh.qT 7 hHeld ?_
        refine Sh.oC 8 Try.func23 #[.agg #[.int .i64 ((rd_T43 l0 x5_1).f0), .int .i64 ((rd_T43 l0 x5_1).f1)], .agg #[.int .i64 ((rd_T43 l1 x5_1).f0), .int .i64 ((rd_T43 l1 x5_1).f1)]] fun K hK => ?_
        with_reducible refine (laws_eqSaid.calls ((rd_T43 l0 x5_1).f0) ((rd_T43 l0 x5_1).f1) ((rd_T43 l1 x5_1).f0) ((rd_T43 l1 x5_1).f1) false _ A7.out).mono ?_
        rintro e w12 ⟨rfl, hb⟩
        refine ⟨_, rfl, ?_⟩
        replace HB := Sh.hb hb
        (try clear hb)
        (try clear hb2)
        (try clear hk)
        (try clear hi)
        refine Sh.kN hK Sh.cs fun hHeld => ?_
        clear hK K
        refine Sh.qA 9 ?_
        refine done_ (done_of HT_.out (by kernel_rfl)) ?_
        try go_wp2
        go_ret
        exact ⟨Sh.eR, Sh.bw⟩
      ·rw [if_neg c6] at H
       exact absurd H (by simp)
     ·rw [if_neg c5] at H
      exact absurd H (by simp)
    ·rw [if_neg c4] at H
     have c4b0 := decide_eq_false c4
     clear c4
     obtain rfl := Option.some.inj H
     go_wp2
     go_ret
     exact ⟨Sh.eR, Sh.bw⟩
 ·rw [if_neg c3] at H
  have c3b0 : ((l0.length : Int) == (l1.length : Int)) = false := beq_eq_false_iff_ne.mpr c3
  have c3b1 : ((l0.length : Int) != (l1.length : Int)) = true := bne_iff_ne.mpr c3
  have c3b2 : (l0.length == l1.length) = false := by first | simpa using c3 | (simp at c3 ⊢; omega)
  obtain rfl := Option.some.inj H
  go_enter Try.func10, Try.ntmps10
  go_wp2
  go_ret
  exact ⟨Sh.eR, Sh.bw⟩
def laws_eqIntS.l0 : Nat → List Int → List Int → Int → Option (Bool)
 | 0, _, _, _ => none
 | k + 1, x0, x1, x5 => if x5 < (x0.length : Int) then (if 0 ≤ x5 then (if x5 < (x1.length : Int) then (if (rd x0 x5) = (rd x1 x5) then (laws_eqIntS.l0 k x0 x1 (wrap64 (x5 + 1))) else (some false)) else (none)) else (none)) else (some true)
def laws_eqIntS.f (k : Nat) (l0 : List Int) (l1 : List Int) : Option (Bool) := if (l0.length : Int) = (l1.length : Int) then (laws_eqIntS.l0 k l0 l1 0) else (some false)
theorem laws_eqIntS.mono_l : ∀ k, (∀ y0 y1 y2, LeO (laws_eqIntS.l0 k y0 y1 y2) (laws_eqIntS.l0 (k + 1) y0 y1 y2))
 | 0 => fun _ _ _ r h => by simp [laws_eqIntS.l0] at h
 | k + 1 => by
  have ih0 := laws_eqIntS.mono_l k
  ·intro y0 y1 y2
   unfold laws_eqIntS.l0
   repeat' with_reducible first | apply ih0 | exact LeO.refl _ | exact LeO.none _ | apply LeO.ite | refine LeO.bind ?_ fun _ => ?_
theorem laws_eqIntS.mono : ∀ a0 a1 k, LeO (laws_eqIntS.f k a0 a1) (laws_eqIntS.f (k + 1) a0 a1) := by
 intro a0 a1 k
 have ih0 := laws_eqIntS.mono_l k
 unfold laws_eqIntS.f
 repeat' with_reducible first | apply ih0 | exact LeO.refl _ | exact LeO.none _ | apply LeO.ite | refine LeO.bind ?_ fun _ => ?_
theorem laws_eqIntS.calls (k : Nat) (A0 : Option Addr) (c0 : Nat) (l0 : List Int) (A1 : Option Addr) (c1 : Nat) (l1 : List Int) (r : Bool) (w : World) (hr0 : Kd.C (Kd.int .i64) w A0 l0.length l0) (hc0 : l0.length ≤ c0) (hr1 : Kd.C (Kd.int .i64) w A1 l1.length l1) (hc1 : l1.length ≤ c1) (h : laws_eqIntS.f k l0 l1 = some r) :
  Calls Try.prog 24 #[.slice A0 l0.length c0, .slice A1 l1.length c1] w fun e w' => e = .returned (.bool r) ∧ Drawn0 w w' := by
 have HR0 := am_ hr0
 have HC0 := am_ hc0
 clear hr0 hc0
 have HR1 := am_ hr1
 have HC1 := am_ hc1
 clear hr1 hc1
 have H := h
 clear h
 unfold laws_eqIntS.f at H
 by_cases c3 : (l0.length : Int) = (l1.length : Int)
 ·rw [if_pos c3] at H
  have c3b0 : ((l0.length : Int) == (l1.length : Int)) = true := beq_iff_eq.mpr c3
  have c3b1 : ((l0.length : Int) != (l1.length : Int)) = false := bne_eq_false_iff_eq.mpr c3
  have c3b2 : (l0.length == l1.length) = true := by first | simpa using c3 | (simp at c3 ⊢; omega)
  clear c3
  have H' := am_ H
  clear H
  go_enter Try.func24, Try.ntmps24
  go_wp2
  repeat (go_quiet (fail); try go_wp2)
  go_loopg [5] k (fun kq v5 w' => ∃ (x5_1 : Int), v5 = .int .i64 x5_1 ∧ Aside0 (laws_eqIntS.l0 kq l0 l1 x5_1 = some r) ∧ Aside0 (kq ≤ k) ∧ Drawn0 w w')
  case atStart => exact ⟨(0), (Sh.es), H', ⟨Nat.le_refl _⟩, Sh.dr⟩
  case round =>
   clear H'
   obtain ⟨x5_1, rfl, HA, HK1, ⟨m1, rfl⟩⟩ := hrel
   cases gk with
   | zero => exact absurd HA.out (by simp [laws_eqIntS.l0])
   | succ k1 =>
    have H := HA.out
    clear HA
    simp only [laws_eqIntS.l0] at H
    by_cases c4 : x5_1 < (l0.length : Int)
    ·rw [if_pos c4] at H
     have c4b0 := decide_eq_true c4
     clear c4
     by_cases c5 : 0 ≤ x5_1
     ·rw [if_pos c5] at H
      have c5b0 := decide_eq_true c5
      clear c5
      by_cases c6 : x5_1 < (l1.length : Int)
      ·rw [if_pos c6] at H
       have c6b0 := decide_eq_true c6
       clear c6
       by_cases c7 : (rd l0 x5_1) = (rd l1 x5_1)
       ·rw [if_pos c7] at H
        have c7b0 : ((rd l0 x5_1) == (rd l1 x5_1)) = true := beq_iff_eq.mpr c7
        have c7b1 : ((rd l0 x5_1) != (rd l1 x5_1)) = false := bne_eq_false_iff_eq.mpr c7
        clear c7
        have H' := am_ H
        clear H
        have p230 : 0 ≤ (x5_1 : Int) := Sh.od
        have q230 : x5_1 < (l0.length : Int) := Sh.od
        obtain ⟨ad230, e230, hx230_0⟩ := Kd.at_int HR0.out x5_1 p230 q230
        cases e230
        replace p230 := eq_true p230
        replace q230 := eq_true q230
        have p231 : 0 ≤ (x5_1 : Int) := Sh.od
        have q231 : x5_1 < (l1.length : Int) := Sh.od
        obtain ⟨ad231, e231, hx231_0⟩ := Kd.at_int HR1.out x5_1 p231 q231
        cases e231
        replace p231 := eq_true p231
        replace q231 := eq_true q231
        go_wp2
        repeat (go_quiet (fail); try go_wp2)
        go_roundg k1
        case measure => have := HK1.out; omega
        case rel => exact ⟨(wrap64 (x5_1 + 1)), (Sh.es), H', ⟨by have := HK1.out; omega⟩, Sh.dr⟩
       ·rw [if_neg c7] at H
        have c7b0 : ((rd l0 x5_1) == (rd l1 x5_1)) = false := beq_eq_false_iff_ne.mpr c7
        have c7b1 : ((rd l0 x5_1) != (rd l1 x5_1)) = true := bne_iff_ne.mpr c7
        obtain rfl := Option.some.inj H
        have p230 : 0 ≤ (x5_1 : Int) := Sh.od
        have q230 : x5_1 < (l0.length : Int) := Sh.od
        obtain ⟨ad230, e230, hx230_0⟩ := Kd.at_int HR0.out x5_1 p230 q230
        cases e230
        replace p230 := eq_true p230
        replace q230 := eq_true q230
        have p231 : 0 ≤ (x5_1 : Int) := Sh.od
        have q231 : x5_1 < (l1.length : Int) := Sh.od
        obtain ⟨ad231, e231, hx231_0⟩ := Kd.at_int HR1.out x5_1 p231 q231
        cases e231
        replace p231 := eq_true p231
        replace q231 := eq_true q231
        go_wp2
        repeat (go_quiet (fail); try go_wp2)
        go_ret
        exact ⟨Sh.es, Sh.dr⟩
      ·rw [if_neg c6] at H
       exact absurd H (by simp)
     ·rw [if_neg c5] at H
      exact absurd H (by simp)
    ·rw [if_neg c4] at H
     have c4b0 := decide_eq_false c4
     clear c4
     obtain rfl := Option.some.inj H
     go_wp2
     repeat (go_quiet (fail); try go_wp2)
     go_ret
     exact ⟨Sh.es, Sh.dr⟩
 ·rw [if_neg c3] at H
  have c3b0 : ((l0.length : Int) == (l1.length : Int)) = false := beq_eq_false_iff_ne.mpr c3
  have c3b1 : ((l0.length : Int) != (l1.length : Int)) = true := bne_iff_ne.mpr c3
  have c3b2 : (l0.length == l1.length) = false := by first | simpa using c3 | (simp at c3 ⊢; omega)
  obtain rfl := Option.some.inj H
  go_enter Try.func24, Try.ntmps24
  go_wp2
  repeat (go_quiet (fail); try go_wp2)
  go_ret
  exact ⟨Sh.es, Sh.dr⟩
def laws_eqLasso.f (k : Nat) (l0_0 : List Int) (l0_1 : List Int) (l1_0 : List Int) (l1_1 : List Int) : Option (Bool) := (laws_eqIntS.f k l0_0 l1_0).bind fun t234 => (if t234 = true then ((laws_eqIntS.f k l0_1 l1_1).bind fun t235 => (if t235 = true then (some true) else (some false))) else (some false))
theorem laws_eqLasso.mono : ∀ a0 a1 a2 a3 k, LeO (laws_eqLasso.f k a0 a1 a2 a3) (laws_eqLasso.f (k + 1) a0 a1 a2 a3) := by
 intro a0 a1 a2 a3 k
 unfold laws_eqLasso.f
 repeat' with_reducible first | apply laws_eqIntS.mono | exact LeO.refl _ | exact LeO.none _ | apply LeO.ite | refine LeO.bind ?_ fun _ => ?_
theorem laws_eqLasso.calls (k : Nat) (A0_0 : Option Addr) (c0_0 : Nat) (l0_0 : List Int) (A0_1 : Option Addr) (c0_1 : Nat) (l0_1 : List Int) (A1_0 : Option Addr) (c1_0 : Nat) (l1_0 : List Int) (A1_1 : Option Addr) (c1_1 : Nat) (l1_1 : List Int) (r : Bool) (w : World) (hr0_0 : Kd.C (Kd.int .i64) w A0_0 l0_0.length l0_0) (hc0_0 : l0_0.length ≤ c0_0) (hr0_1 : Kd.C (Kd.int .i64) w A0_1 l0_1.length l0_1) (hc0_1 : l0_1.length ≤ c0_1) (hr1_0 : Kd.C (Kd.int .i64) w A1_0 l1_0.length l1_0) (hc1_0 : l1_0.length ≤ c1_0) (hr1_1 : Kd.C (Kd.int .i64) w A1_1 l1_1.length l1_1) (hc1_1 : l1_1.length ≤ c1_1) (h : laws_eqLasso.f k l0_0 l0_1 l1_0 l1_1 = some r) :
  Calls Try.prog 11 #[.agg #[.slice A0_0 l0_0.length c0_0, .slice A0_1 l0_1.length c0_1], .agg #[.slice A1_0 l1_0.length c1_0, .slice A1_1 l1_1.length c1_1]] w fun e w' => e = .returned (.bool r) ∧ Below w.heap.size w w' := by
 have hu32 := Try.underlying32
 have HR0_0 := am_ hr0_0
 have HC0_0 := am_ hc0_0
 clear hr0_0 hc0_0
 have HR0_1 := am_ hr0_1
 have HC0_1 := am_ hc0_1
 clear hr0_1 hc0_1
 have HR1_0 := am_ hr1_0
 have HC1_0 := am_ hc1_0
 clear hr1_0 hc1_0
 have HR1_1 := am_ hr1_1
 have HC1_1 := am_ hc1_1
 clear hr1_1 hc1_1
 have HB := am_ (Below.refl w.heap.size w)
 have H := h
 clear h
 unfold laws_eqLasso.f at H
 obtain ⟨t234, A3, H⟩ := Sh.ba H
 by_cases c4 : t234 = true
 ·subst c4
  rw [if_pos rfl] at H
  obtain ⟨t235, A5, H⟩ := Sh.ba H
  by_cases c6 : t235 = true
  ·subst c6
   rw [if_pos rfl] at H
   obtain rfl := Option.some.inj H
   go_enter Try.func11, Try.ntmps11
   go_wp2_with (first | ((with_reducible refine Sh.d 2 ?_); refine Sh.bz w (N := 2) (cs := #[.slice A0_0 l0_0.length c0_0, .slice A0_1 l0_1.length c0_1]) (t := 32) (h := ?_); clear HB; intro gb232 w7 BK232 GE232 HB) | ((with_reducible refine Sh.d 3 ?_); refine Sh.bx (N := 3) (cs := #[.slice A1_0 l1_0.length c1_0, .slice A1_1 l1_1.length c1_1]) (t := 32) (h := ?_); intro gb233 hg w8 hbox hb; have BK233 := am_ hbox; have GE233 := Sh.ag w hg; replace HB := Sh.hb hb; have NB232_233 := am_ (Sh.nl hg BK232.out); have NB233_232 := am_ (Sh.ng hg BK232.out); replace BK232 := Sh.ab BK232 hb; clear hb hbox hg; have hnb9 := NB232_233.out; have hnc9 := NB233_232.out; obtain ⟨hcz10_0, hcz10_1, hfz10_0, hfz10_1⟩ := Sh.b2 BK232.out; obtain ⟨hcz11_0, hcz11_1, hfz11_0, hfz11_1⟩ := Sh.b2 BK233.out) | ((with_reducible refine Sh.k 24 ?_); refine Sh.gD (some 9) Try.func24 #[.slice A0_0 l0_0.length c0_0, .slice A1_0 l1_0.length c1_0] (laws_eqIntS.calls k _ _ l0_0 _ _ l1_0 true _ (Sh.cB HR0_0.out) HC0_0.out (Sh.cB HR1_0.out) HC1_0.out A3.out) fun nd => ?_) | ((with_reducible refine Sh.k 24 ?_); refine Sh.gD (some 15) Try.func24 #[.slice A0_1 l0_1.length c0_1, .slice A1_1 l1_1.length c1_1] (laws_eqIntS.calls k _ _ l0_1 _ _ l1_1 true _ (Sh.cB HR0_1.out) HC0_1.out (Sh.cB HR1_1.out) HC1_1.out A5.out) fun nd => ?_))
   go_ret
   exact ⟨Sh.eR, Sh.bw⟩
  ·replace c6 := Bool.eq_false_iff.mpr c6
   subst c6
   rw [Sh.nf] at H
   obtain rfl := Option.some.inj H
   go_enter Try.func11, Try.ntmps11
   go_wp2_with (first | ((with_reducible refine Sh.d 2 ?_); refine Sh.bz w (N := 2) (cs := #[.slice A0_0 l0_0.length c0_0, .slice A0_1 l0_1.length c0_1]) (t := 32) (h := ?_); clear HB; intro gb232 w12 BK232 GE232 HB) | ((with_reducible refine Sh.d 3 ?_); refine Sh.bx (N := 3) (cs := #[.slice A1_0 l1_0.length c1_0, .slice A1_1 l1_1.length c1_1]) (t := 32) (h := ?_); intro gb233 hg w13 hbox hb; have BK233 := am_ hbox; have GE233 := Sh.ag w hg; replace HB := Sh.hb hb; have NB232_233 := am_ (Sh.nl hg BK232.out); have NB233_232 := am_ (Sh.ng hg BK232.out); replace BK232 := Sh.ab BK232 hb; clear hb hbox hg; have hnb14 := NB232_233.out; have hnc14 := NB233_232.out; obtain ⟨hcz15_0, hcz15_1, hfz15_0, hfz15_1⟩ := Sh.b2 BK232.out; obtain ⟨hcz16_0, hcz16_1, hfz16_0, hfz16_1⟩ := Sh.b2 BK233.out) | ((with_reducible refine Sh.k 24 ?_); refine Sh.gD (some 9) Try.func24 #[.slice A0_0 l0_0.length c0_0, .slice A1_0 l1_0.length c1_0] (laws_eqIntS.calls k _ _ l0_0 _ _ l1_0 true _ (Sh.cB HR0_0.out) HC0_0.out (Sh.cB HR1_0.out) HC1_0.out A3.out) fun nd => ?_) | ((with_reducible refine Sh.k 24 ?_); refine Sh.gD (some 15) Try.func24 #[.slice A0_1 l0_1.length c0_1, .slice A1_1 l1_1.length c1_1] (laws_eqIntS.calls k _ _ l0_1 _ _ l1_1 false _ (Sh.cB HR0_1.out) HC0_1.out (Sh.cB HR1_1.out) HC1_1.out A5.out) fun nd => ?_))
   go_ret
   exact ⟨Sh.eR, Sh.bw⟩
 ·replace c4 := Bool.eq_false_iff.mpr c4
  subst c4
  rw [Sh.nf] at H
  obtain rfl := Option.some.inj H
  go_enter Try.func11, Try.ntmps11
  go_wp2_with (first | ((with_reducible refine Sh.d 2 ?_); refine Sh.bz w (N := 2) (cs := #[.slice A0_0 l0_0.length c0_0, .slice A0_1 l0_1.length c0_1]) (t := 32) (h := ?_); clear HB; intro gb232 w17 BK232 GE232 HB) | ((with_reducible refine Sh.d 3 ?_); refine Sh.bx (N := 3) (cs := #[.slice A1_0 l1_0.length c1_0, .slice A1_1 l1_1.length c1_1]) (t := 32) (h := ?_); intro gb233 hg w18 hbox hb; have BK233 := am_ hbox; have GE233 := Sh.ag w hg; replace HB := Sh.hb hb; have NB232_233 := am_ (Sh.nl hg BK232.out); have NB233_232 := am_ (Sh.ng hg BK232.out); replace BK232 := Sh.ab BK232 hb; clear hb hbox hg; have hnb19 := NB232_233.out; have hnc19 := NB233_232.out; obtain ⟨hcz20_0, hcz20_1, hfz20_0, hfz20_1⟩ := Sh.b2 BK232.out; obtain ⟨hcz21_0, hcz21_1, hfz21_0, hfz21_1⟩ := Sh.b2 BK233.out) | ((with_reducible refine Sh.k 24 ?_); refine Sh.gD (some 9) Try.func24 #[.slice A0_0 l0_0.length c0_0, .slice A1_0 l1_0.length c1_0] (laws_eqIntS.calls k _ _ l0_0 _ _ l1_0 false _ (Sh.cB HR0_0.out) HC0_0.out (Sh.cB HR1_0.out) HC1_0.out A3.out) fun nd => ?_))
  go_ret
  exact ⟨Sh.eR, Sh.bw⟩
end Go.Proofs.Ytgcglmkkfkjhhaa.P
