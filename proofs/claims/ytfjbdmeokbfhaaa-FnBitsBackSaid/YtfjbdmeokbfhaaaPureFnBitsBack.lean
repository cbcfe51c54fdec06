/- The pure statement of the law FnBitsBack: what the printed functions compute makes the law true, for every input. No condition. -/
import Derived.Test.YtfjbdmeokbfhaaaOpen
import Derived.Test.YtfjbdmeokbfhaaaAid
import Derived.Test.YtfjbdmeokbfhaaaMFnBitsBack2
set_option linter.unusedVariables false
set_option linter.unusedSimpArgs false
namespace Go.Proofs.Ytfjbdmeokbfhaaa.Pure
open Go.RowKit Go.Proofs.YtfjbdmeokbfhaaaW.PrintWords Go.Proofs.Ytfjbdmeokbfhaaa.P Go.Proofs.Ytfjbdmeokbfhaaa.Hof Go.Proofs.Ytfjbdmeokbfhaaa.Open Go.Proofs.Ytfjbdmeokbfhaaa.Aid
-- LEMMAS
theorem big_eq (a b : List Int) (ha : a.length ≤ 9223372036854775807) (hb : b.length ≤ 9223372036854775807) : laws_big.f a b = some (decide (¬ (a.length + b.length ≤ 1048576))) := by
 unfold laws_big.f
 by_cases h : (a.length : Int) > 1048576
 ·rw [if_pos h, decide_eq_true (by omega)]
 ·rw [if_neg h, wid (by omega) (by omega)]
  congr 1
  rw [decide_eq_decide]; omega
theorem wu (x : Int) : IntKind.u64.wrap x = x % 18446744073709551616 := IntKind.wrap_u64 x
theorem wu_in (x : Int) : 0 ≤ IntKind.u64.wrap x ∧ IntKind.u64.wrap x < 18446744073709551616 := by rw [wu]; omega
theorem two_pos (n : Nat) : (0 : Int) < 2 ^ n := Int.pow_pos (by decide)
theorem two_dvd {n : Nat} (h : n ≤ 64) : ((2 : Int) ^ n) ∣ 18446744073709551616 := ⟨2 ^ (64 - n), by rw [← Int.pow_add, show n + (64 - n) = 64 by omega]; rfl⟩
theorem two_le {n : Nat} (h : n ≤ 64) : ((2 : Int) ^ n) ≤ 18446744073709551616 := Int.le_of_dvd (by decide) (two_dvd h)
theorem two_nat (n : Nat) : ((2 ^ n : Nat) : Int) = (2 : Int) ^ n := by simp
theorem and_mask (a : Int) (n : Nat) (hn : n ≤ 64) (h0 : 0 ≤ a) (h1 : a < 18446744073709551616) : Go.bits .and .u64 a (2 ^ n - 1) = a % 2 ^ n := by
 obtain ⟨m, rfl⟩ := Int.eq_ofNat_of_zero_le h0
 have h2 : (2 ^ n : Nat) ≤ 18446744073709551616 := by have := two_le hn; rw [← two_nat] at this; omega
 have h3 : 0 < (2 ^ n : Nat) := Nat.two_pow_pos n
 rw [show (2 : Int) ^ n - 1 = ((2 ^ n - 1 : Nat) : Int) by rw [← two_nat]; omega, bits_and_u64_nat _ _ (by omega) (by omega), Nat.and_two_pow_sub_one_eq_mod, ← two_nat]
 rfl
theorem mask_pow : ∀ m : Nat, m < 65 → (18446744073709551615 : Nat) / 2 ^ (64 - m) = 2 ^ m - 1 := by decide
theorem shr_mask {w : Int} (h0 : 1 ≤ w) (h1 : w ≤ 64) : shr .u64 18446744073709551615 (wrap64 (64 - w)) = 2 ^ w.toNat - 1 := by
 rw [wid (by omega) (by omega)]
 have hb : IntKind.u64.bits = 64 := rfl
 simp only [shr, hb]
 rw [Nat.min_eq_left (by omega), show (64 - w).toNat = 64 - w.toNat by omega]
 have h := mask_pow w.toNat (by omega)
 have h3 : 0 < (2 ^ w.toNat : Nat) := Nat.two_pow_pos _
 rw [← two_nat, ← two_nat, show (18446744073709551615 : Int) = ((18446744073709551615 : Nat) : Int) by rfl, ← Int.natCast_ediv, h]
 omega
theorem cut_nat (a i : Nat) : (a % 2 ^ i) ||| (a &&& 2 ^ i) = a % 2 ^ (i + 1) := by
 apply Nat.eq_of_testBit_eq
 intro j
 rw [Nat.testBit_or, Nat.testBit_and, Nat.testBit_mod_two_pow, Nat.testBit_mod_two_pow, Nat.testBit_two_pow]
 by_cases h : i = j
 ·subst h; simp
 ·by_cases h2 : j < i
  ·simp [h, h2, show j < i + 1 by omega]
  ·simp [h, h2, show ¬ j < i + 1 by omega]
theorem mod_small {a : Nat} (ha : a < 18446744073709551616) {i : Nat} (h : 64 ≤ i) : a % 2 ^ i = a := by
 refine Nat.mod_eq_of_lt (Nat.lt_of_lt_of_le ha ?_)
 have := Nat.pow_le_pow_right (show 0 < 2 by decide) h
 exact this
theorem shl_one {i : Nat} (h : i < 64) : shl .u64 1 (i : Int) = ((2 ^ i : Nat) : Int) := by
 have hb : IntKind.u64.bits = 64 := rfl
 have h2 : (2 ^ i : Nat) < 18446744073709551616 := Nat.pow_lt_pow_right (by decide : 1 < 2) h
 simp only [shl, hb]
 rw [wu, Int.toNat_natCast, Nat.min_eq_left (by omega), ← two_nat, Int.one_mul]; exact Int.emod_eq_of_lt (Int.natCast_nonneg _) (Int.ofNat_lt.2 h2)
theorem shl_big {i : Nat} (h : 64 ≤ i) : shl .u64 1 (i : Int) = 0 := by
 have hb : IntKind.u64.bits = 64 := rfl
 simp only [shl, hb]
 rw [wu, Int.toNat_natCast, Nat.min_eq_right (by omega)]; rfl
theorem cut_step (a i : Nat) (ha : a < 18446744073709551616) : Go.bits .or .u64 ((a % 2 ^ i : Nat) : Int) (Go.bits .and .u64 (a : Int) (shl .u64 1 (i : Int))) = ((a % 2 ^ (i + 1) : Nat) : Int) := by
 have h1 : a % 2 ^ i ≤ a := Nat.mod_le _ _
 by_cases h : i < 64
 ·have h2 : (2 ^ i : Nat) < 18446744073709551616 := Nat.pow_lt_pow_right (by decide : 1 < 2) h
  have h3 : a &&& 2 ^ i ≤ a := Nat.and_le_left
  rw [shl_one h, bits_and_u64_nat _ _ ha h2, bits_or_u64_nat _ _ (by omega) (by omega), cut_nat]
 ·have e : Go.bits .and .u64 (a : Int) ((0 : Nat) : Int) = ((0 : Nat) : Int) := by rw [bits_and_u64_nat _ _ ha (by decide), Nat.and_zero]
  have e2 : Go.bits .or .u64 (a : Int) ((0 : Nat) : Int) = (a : Int) := by rw [bits_or_u64_nat _ _ ha (by decide), Nat.or_zero]
  rw [shl_big (by omega), mod_small ha (by omega), mod_small ha (by omega)]
  exact (congrArg _ e).trans e2
theorem not_nat (a : Nat) (ha : a < 18446744073709551616) : 18446744073709551615 ^^^ a = 18446744073709551615 - a := by
 rw [show 18446744073709551615 - a = 2 ^ 64 - (a + 1) by omega]
 apply Nat.eq_of_testBit_eq
 intro j
 rw [Nat.testBit_xor, Nat.testBit_two_pow_sub_succ (by omega), show (18446744073709551615 : Nat) = 2 ^ 64 - 1 by rfl, Nat.testBit_two_pow_sub_one]
 by_cases h : j < 64
 ·simp [h]
 ·have : a.testBit j = false := Nat.testBit_lt_two_pow (Nat.lt_of_lt_of_le ha (Nat.pow_le_pow_right (by decide : 0 < 2) (by omega : 64 ≤ j)))
  simp [h, this]
theorem not_word (a : Int) (h0 : 0 ≤ a) (h1 : a < 18446744073709551616) : Go.bits .xor .u64 18446744073709551615 a = 18446744073709551615 - a := by
 obtain ⟨m, rfl⟩ := Int.eq_ofNat_of_zero_le h0
 rw [show (18446744073709551615 : Int) = ((18446744073709551615 : Nat) : Int) by rfl, bits_xor_u64_nat _ _ (by decide) (by omega), not_nat m (by omega)]
 omega
def GW (w a : Int) : Prop := 1 ≤ w ∧ w ≤ 64 ∧ a < 2 ^ w.toNat
instance (w a : Int) : Decidable (GW w a) := by unfold GW; infer_instance
theorem GW.le {w a : Int} (h : GW w a) : a < 18446744073709551616 := by have := two_le (n := w.toNat) (by have := h.2.1; omega); have := h.2.2; omega
theorem mod_word (x : Int) {w : Int} (h : w ≤ 64) : x % 18446744073709551616 % 2 ^ w.toNat = x % 2 ^ w.toNat := Int.emod_emod_of_dvd _ (two_dvd (by omega))
def Cu (n p s : Int) : Prop := 0 ≤ p ∧ p ≤ n ∧ 0 ≤ s ∧ s < 18446744073709551616
theorem Cu.up {n m p s : Int} (h : Cu n p s) (hm : n ≤ m) : Cu m p s := ⟨h.1, by have := h.2.1; omega, h.2.2⟩
theorem Cu.zero : Cu 0 0 0 := ⟨by omega, by omega, by omega, by omega⟩
theorem emod_self_le {x a : Int} (h : 0 ≤ x) (ha : 0 < a := by omega) : x % a ≤ x := by
 have h1 := Int.emod_add_mul_ediv x a
 have h2 : 0 ≤ a * (x / a) := Int.mul_nonneg (by omega) (Int.ediv_nonneg h (by omega))
 omega
theorem byte_of (X : Int) (h0 : 0 ≤ X) (h1 : X < 18446744073709551616) : Go.bits .and .u64 (X / 1099511627776) 255 = X / 1099511627776 % 256 := by
 have := and_mask (X / 1099511627776) 8 (by omega) (by omega) (by omega)
 simpa using this
theorem next_ex {l : List Int} (hl : l.length ≤ 9223372036854775807 ∧ ∀ x ∈ l, InU8 x) {n p s : Int} (h : Cu n p s) (hn : n < 4611686018427387904) :
  ∃ v p' s', spec_l1Cur_next.f l p s = some (v, p', s') ∧ 0 ≤ v ∧ v ≤ 255 ∧ Cu (n + 1) p' s' := by
 obtain ⟨h1, h2, h3, h4⟩ := h
 unfold spec_l1Cur_next.f
 have e : wrap64 (p + 1) = p + 1 := wid (by omega) (by omega)
 rw [e]
 have fin : ∀ v S : Int, (0 ≤ v ∧ v ≤ 255) → (0 ≤ S ∧ S < 18446744073709551616) → ∃ v' p' s', some (v, p + 1, S) = some (v', p', s') ∧ 0 ≤ v' ∧ v' ≤ 255 ∧ Cu (n + 1) p' s' := fun v S hv hS => ⟨v, p + 1, S, rfl, hv.1, hv.2, by omega, by omega, hS.1, hS.2⟩
 have big : ∀ X : Int, (0 ≤ X ∧ X < 18446744073709551616) → 0 ≤ wrap64 (Go.bits .and .u64 (X / 1099511627776) 255) ∧ wrap64 (Go.bits .and .u64 (X / 1099511627776) 255) ≤ 255 := fun X hX => by
  rw [byte_of X hX.1 hX.2, wid (by omega) (by omega)]; omega
 by_cases hp : p < (l.length : Int)
 ·rw [if_pos hp, if_pos h1, if_pos (by omega)]
  refine fin _ _ ?_ (wu_in _)
  obtain ⟨j, rfl⟩ := Int.eq_ofNat_of_zero_le h1
  have hm := hl.2 _ (getD_mem (l := l) (j := j) (by omega) 0)
  have hm1 := hm.1; have hm2 := hm.2
  rw [show rd l ((j : Nat) : Int) = l.getD j 0 from rd_nat l j, wid (by omega) (by omega)]
  exact hm
 ·rw [if_neg hp]
  by_cases h5 : p + 1 ≤ (l.length : Int)
  ·omega
  ·rw [if_neg h5]
   exact fin _ _ (big _ (wu_in _)) (wu_in _)
theorem pick_ex {l : List Int} (hl : l.length ≤ 9223372036854775807 ∧ ∀ x ∈ l, InU8 x) {n p s : Int} (h : Cu n p s) (hn : n < 4611686018427387900) (a : Int) (ha : a ≤ 9223372036854775807) :
  ∃ v p' s', spec_l1Cur_pick.f l p s a = some (v, p', s') ∧ 0 ≤ v ∧ v ≤ 65535 ∧ (1 ≤ a → v < a) ∧ Cu (n + 2) p' s' := by
 unfold spec_l1Cur_pick.f
 by_cases h1 : a ≤ 1
 ·rw [if_pos h1]; exact ⟨0, p, s, rfl, by omega, by omega, by omega, h.up (by omega)⟩
 ·rw [if_neg h1]
  obtain ⟨v, p1, s1, e1, hv0, hv1, hc1⟩ := next_ex hl h (by omega)
  rw [e1, Option.bind_some]
  by_cases h2 : a > 200
  ·rw [if_pos h2]
   obtain ⟨u, p2, s2, e2, hu0, hu1, hc2⟩ := next_ex hl hc1 (by omega)
   simp only
   rw [e2, Option.bind_some, if_neg (by omega)]
   refine ⟨_, p2, s2, rfl, ?_⟩
   simp only
   rw [wid (x := v * 256) (by omega) (by omega), wid (by omega) (by omega), Int.tmod_eq_emod_of_nonneg (by omega)]
   have h3 := Int.emod_nonneg (v * 256 + u) (show a ≠ 0 by omega)
   have h4 := Int.emod_lt_of_pos (v * 256 + u) (show 0 < a by omega)
   have h5 : (v * 256 + u) % a ≤ v * 256 + u := emod_self_le (by omega)
   exact ⟨h3, by omega, fun _ => h4, hc2.up (by omega)⟩
  ·rw [if_neg h2, if_neg (by omega)]
   refine ⟨_, p1, s1, rfl, ?_⟩
   simp only
   rw [Int.tmod_eq_emod_of_nonneg (by omega)]
   have h3 := Int.emod_nonneg v (show a ≠ 0 by omega)
   have h4 := Int.emod_lt_of_pos v (show 0 < a by omega)
   exact ⟨h3, by omega, fun _ => h4, hc1.up (by omega)⟩
theorem among_ex {l : List Int} (hl : l.length ≤ 9223372036854775807 ∧ ∀ x ∈ l, InU8 x) {n p s : Int} (h : Cu n p s) (hn : n < 4611686018427387900) (xs : List Int) (hx : 1 ≤ xs.length) (hx2 : xs.length ≤ 1048576) :
  ∃ v p' s', spec_l1Cur_among.f l p s xs = some (v, p', s') ∧ v ∈ xs ∧ Cu (n + 2) p' s' := by
 obtain ⟨v, p', s', e, h0, _, h2, hc⟩ := pick_ex hl h hn (xs.length : Int) (by omega)
 have h2 := h2 (by omega)
 refine ⟨rd xs v, p', s', ?_, ?_, hc⟩
 ·unfold spec_l1Cur_among.f
  rw [e, Option.bind_some, if_pos h0, if_pos h2]
 ·obtain ⟨j, rfl⟩ := Int.eq_ofNat_of_zero_le h0
  rw [show rd xs ((j : Nat) : Int) = xs.getD j 0 from rd_nat xs j]
  exact getD_mem (by omega) 0
theorem one_ex {l : List Int} (hl : l.length ≤ 9223372036854775807 ∧ ∀ x ∈ l, InU8 x) {n p s : Int} (h : Cu n p s) (hn : n < 4611686018427387900) (a : Int) (ha : a ≤ 9223372036854775807) :
  ∃ b p' s', spec_l1Cur_one.f l p s a = some (b, p', s') ∧ Cu (n + 2) p' s' := by
 obtain ⟨v, p', s', e, _, _, _, hc⟩ := pick_ex hl h hn a ha
 exact ⟨v == 0, p', s', by unfold spec_l1Cur_one.f; rw [e]; rfl, hc⟩
theorem long_l0 {l : List Int} (hl : l.length ≤ 9223372036854775807 ∧ ∀ x ∈ l, InU8 x) (d : Nat) : ∀ (j : Nat) (x n p s : Int), j + d = 8 → Cu n p s → n + d < 4611686018427387810 → 0 ≤ x → x < 18446744073709551616 →
  ∃ v p' s', Ev (fun k => spec_l1Cur_long.l0 k x (j : Int) l p s) (v, p', s') ∧ 0 ≤ v ∧ v < 18446744073709551616 ∧ Cu (n + d) p' s' := by
 induction d with
 | zero =>
  intro j x n p s hj hc hn h0 h1
  exact ⟨x, p, s, Ev.step (f := fun _ => some (x, p, s)) (fun k => by simp only [spec_l1Cur_long.l0]; rw [if_neg (by omega)]) (Ev.now _), h0, h1, by simpa using hc⟩
 | succ d ih =>
  intro j x n p s hj hc hn h0 h1
  obtain ⟨v, p1, s1, e1, hv0, hv1, hc1⟩ := next_ex hl hc (by omega)
  have hx := wu_in (x * 256)
  obtain ⟨a, ea⟩ := Int.eq_ofNat_of_zero_le hx.1
  obtain ⟨b, rfl⟩ := Int.eq_ofNat_of_zero_le hv0
  have ho : (a ||| b : Nat) < 18446744073709551616 := Nat.or_lt_two_pow (n := 64) (by omega) (by omega)
  have eo : Go.bits .or .u64 (IntKind.u64.wrap (x * 256)) (IntKind.u64.wrap (b : Int)) = ((a ||| b : Nat) : Int) := by
   rw [ea, show IntKind.u64.wrap (b : Int) = (b : Int) by rw [wu]; omega, bits_or_u64_nat _ _ (by omega) (by omega)]
  generalize a ||| b = c at ho eo
  obtain ⟨v', p', s', e', h2, h3, h4⟩ := ih (j + 1) (c : Int) (n + 1) p1 s1 (by omega) hc1 (by omega) (Int.natCast_nonneg _) (Int.ofNat_lt.2 ho)
  refine ⟨v', p', s', ?_, h2, h3, h4.up (by omega)⟩
  refine Ev.step (fun k => by simp only [spec_l1Cur_long.l0]; rw [if_pos (by omega), e1, Option.bind_some]; simp only; rw [eo, wsucc (by omega)]) e'
theorem long_ex {l : List Int} (hl : l.length ≤ 9223372036854775807 ∧ ∀ x ∈ l, InU8 x) {n p s : Int} (h : Cu n p s) (hn : n < 4611686018427387800) :
  ∃ v p' s', Ev (fun k => spec_l1Cur_long.f k l p s) (v, p', s') ∧ 0 ≤ v ∧ v < 18446744073709551616 ∧ Cu (n + 8) p' s' :=
 long_l0 hl 8 0 0 n p s (by omega) h (by omega) (by omega) (by omega)
theorem l1Cut_l0 (a : Nat) (ha : a < 18446744073709551616) (w : Int) (hw : w ≤ 65) (d : Nat) : ∀ i : Nat, (i : Int) + d = max w 0 → Ev (fun k => spec_l1Cut.l0 k w (a : Int) ((a % 2 ^ i : Nat) : Int) (i : Int)) ((a % 2 ^ w.toNat : Nat) : Int) := by
 induction d with
 | zero =>
  intro i hi
  refine ev_eq (Ev.step (f := fun _ => some ((a % 2 ^ i : Nat) : Int)) (fun k => by simp only [spec_l1Cut.l0]; rw [if_neg (by omega)]) (Ev.now _)) ?_
  rw [show w.toNat = i by omega]
 | succ d ih =>
  intro i hi
  have e : IntKind.u64.wrap (i : Int) = (i : Int) := by rw [wu]; omega
  exact Ev.step (fun k => by simp only [spec_l1Cut.l0]; rw [if_pos (by omega), e, if_pos (by omega), cut_step a i ha, wsucc (by omega)]) (ih (i + 1) (by omega))
theorem l1Cut_ev (w a : Int) (hw : w ≤ 65) (h0 : 0 ≤ a) (h1 : a < 18446744073709551616) : Ev (fun k => spec_l1Cut.f k w a) (a % 2 ^ w.toNat) := by
 obtain ⟨m, rfl⟩ := Int.eq_ofNat_of_zero_le h0
 have := l1Cut_l0 m (by omega) w hw (max w 0).toNat 0 (by omega)
 rw [show m % 2 ^ 0 = 0 by simp [Nat.mod_one]] at this
 exact ev_eq this (by rw [← two_nat]; rfl)
theorem word_j0 {l : List Int} (hl : l.length ≤ 9223372036854775807 ∧ ∀ x ∈ l, InU8 x) {n p s : Int} (h : Cu n p s) (hn : n < 4611686018427387800) (w x : Int) (hw : w ≤ 65) (h0 : 0 ≤ x) (h1 : x < 18446744073709551616) :
  ∃ v p' s', Ev (fun k => spec_l1Cur_word.j0 k w x l p s) (v, p', s') ∧ 0 ≤ v ∧ v < 18446744073709551616 ∧ Cu (n + 2) p' s' := by
 obtain ⟨b, p', s', e, hc⟩ := one_ex hl h (by omega) 30 (by omega)
 cases b with
 | true => exact ⟨x, p', s', Ev.step (f := fun _ => some (x, p', s')) (fun k => by simp only [spec_l1Cur_word.j0]; rw [e, Option.bind_some, if_pos rfl]) (Ev.now _), h0, h1, hc⟩
 | false =>
  have hp := two_pos w.toNat
  refine ⟨x % 2 ^ w.toNat, p', s', Ev.step (fun k => by simp only [spec_l1Cur_word.j0]; rw [e, Option.bind_some, if_neg (by simp)]) (Ev.bind (l1Cut_ev w x hw h0 h1) (Ev.now _)), Int.emod_nonneg _ (by omega), ?_, hc⟩
  have := emod_self_le (a := 2 ^ w.toNat) h0 hp
  omega
theorem word_ex {l : List Int} (hl : l.length ≤ 9223372036854775807 ∧ ∀ x ∈ l, InU8 x) {n p s : Int} (h : Cu n p s) (hn : n < 4611686018427387700) (w : Int) (hw : w ≤ 65) :
  ∃ v p' s', Ev (fun k => spec_l1Cur_word.f k l p s w) (v, p', s') ∧ 0 ≤ v ∧ v < 18446744073709551616 ∧ Cu (n + 14) p' s' := by
 obtain ⟨x, p1, s1, e1, hx0, hx1, _, hc1⟩ := pick_ex hl h (by omega) 5 (by omega)
 obtain ⟨y, p2, s2, e2, hy0, hy1, _, hc2⟩ := pick_ex hl hc1 (by omega) 5 (by omega)
 by_cases h0 : y = 0
 ·obtain ⟨u, p3, s3, e3, hu0, hu1, hc3⟩ := long_ex hl hc2 (by omega)
  obtain ⟨v, p', s', ev, hv0, hv1, hc⟩ := word_j0 hl hc3 (by omega) w u hw hu0 hu1
  exact ⟨v, p', s', Ev.bind (ev_const e1) (Ev.bind (ev_const e2) (ev_pos h0 (Ev.bind e3 ev))), hv0, hv1, hc.up (by omega)⟩
 ·by_cases h1 : y = 1
  ·obtain ⟨u, p3, s3, e3, _, _, _, hc3⟩ := pick_ex hl hc2 (by omega) 3 (by omega)
   have hw2 := wu_in (18446744073709551615 - IntKind.u64.wrap u)
   obtain ⟨v, p', s', ev, hv0, hv1, hc⟩ := word_j0 hl hc3 (by omega) w _ hw hw2.1 hw2.2
   exact ⟨v, p', s', Ev.bind (ev_const e1) (Ev.bind (ev_const e2) (ev_neg h0 (ev_pos h1 (Ev.bind (ev_const e3) ev)))), hv0, hv1, hc.up (by omega)⟩
  ·by_cases h2 : y = 2
   ·obtain ⟨u, p3, s3, e3, hu0, _, _, hc3⟩ := pick_ex hl hc2 (by omega) 64 (by omega)
    have hs : 0 ≤ shl .u64 1 (IntKind.u64.wrap u) ∧ shl .u64 1 (IntKind.u64.wrap u) < 18446744073709551616 := wu_in _
    obtain ⟨v, p', s', ev, hv0, hv1, hc⟩ := word_j0 hl hc3 (by omega) w _ hw hs.1 hs.2
    exact ⟨v, p', s', Ev.bind (ev_const e1) (Ev.bind (ev_const e2) (ev_neg h0 (ev_neg h1 (ev_pos h2 (Ev.bind (ev_const e3) (ev_pos (wu_in u).1 ev)))))), hv0, hv1, hc.up (by omega)⟩
   ·have hw2 := wu_in x
    obtain ⟨v, p', s', ev, hv0, hv1, hc⟩ := word_j0 hl hc2 (by omega) w _ hw hw2.1 hw2.2
    exact ⟨v, p', s', Ev.bind (ev_const e1) (Ev.bind (ev_const e2) (ev_neg h0 (ev_neg h1 (ev_neg h2 ev)))), hv0, hv1, hc.up (by omega)⟩
theorem state_l0 {l : List Int} (hl : l.length ≤ 9223372036854775807 ∧ ∀ x ∈ l, InU8 x) (w : Int) (hw : w ≤ 65) (v : Nat) (d : Nat) : ∀ (j : Nat) (x : List Int) {n p s : Int}, j + d = v → x.length = j → v ≤ 1000 → (∀ a ∈ x, 0 ≤ a ∧ a < 18446744073709551616) → Cu n p s → n + 14 * (d : Int) < 1000000 →
  ∃ y p' s', Ev (fun k => spec_l1Cur_state.l0 k w (v : Int) x (j : Int) l p s) (y, p', s') ∧ y.length = v ∧ (∀ a ∈ y, 0 ≤ a ∧ a < 18446744073709551616) ∧ Cu (n + 14 * (d : Int)) p' s' := by
 induction d with
 | zero =>
  intro j x n p s hd hx hv ha h hn
  exact ⟨x, p, s, Ev.step (f := fun _ => some (x, p, s)) (fun k => by simp only [spec_l1Cur_state.l0]; rw [if_neg (by omega)]) (Ev.now _), by omega, ha, h.up (by omega)⟩
 | succ d ih =>
  intro j x n p s hd hx hv ha h hn
  obtain ⟨a, p1, s1, e, a0, a1, hc⟩ := word_ex hl h (by omega) w hw
  obtain ⟨y, p', s', ey, hy, hy2, hc2⟩ := ih (j + 1) (x ++ [a]) (by omega) (by simp; omega) hv (fun c hc => by
   rcases List.mem_append.1 hc with h1 | h1
   ·exact ha c h1
   ·rw [List.mem_singleton.1 h1]; exact ⟨a0, a1⟩) hc (by omega)
  refine ⟨y, p', s', ?_, hy, hy2, hc2.up (by omega)⟩
  refine Ev.step (fun k => by simp only [spec_l1Cur_state.l0]; rw [if_pos (by omega)]) ?_
  refine Ev.bind e ?_
  refine ev_pos (by show x.length < _; omega) ?_
  exact Ev.congr (fun k => by rw [wsucc (by omega)]) ey
theorem state_ex {l : List Int} (hl : l.length ≤ 9223372036854775807 ∧ ∀ x ∈ l, InU8 x) {n p s : Int} (h : Cu n p s) (hn : n < 1000) (w v : Int) (hw : w ≤ 65) (hv0 : 0 ≤ v) (hv : v ≤ 1000) :
  ∃ y p' s', Ev (fun k => spec_l1Cur_state.f k l p s w v) (y, p', s') ∧ (y.length : Int) = v ∧ (∀ a ∈ y, 0 ≤ a ∧ a < 18446744073709551616) ∧ Cu (n + 14 * v) p' s' := by
 obtain ⟨v, rfl⟩ := Int.eq_ofNat_of_zero_le hv0
 obtain ⟨y, p', s', e, h1, h2, h3⟩ := state_l0 hl w hw v v 0 [] (by omega) rfl (by omega) (by simp) h (by omega)
 exact ⟨y, p', s', e, by omega, h2, h3⟩
theorem bools_l0 {l : List Int} (hl : l.length ≤ 9223372036854775807 ∧ ∀ x ∈ l, InU8 x) : ∀ (m : Nat) (x : List Bool) {n p s : Int}, x.length + m ≤ 100000 → Cu n p s → n + 2 * (m : Int) < 1000000 →
  ∃ y p' s', Ev (fun k => spec_l1Cur_bools.l0 k (m : Int) x l p s) (y, p', s') ∧ y.length = x.length + m ∧ Cu (n + 2 * (m : Int)) p' s'
 | 0, x, n, p, s, hx, h, hn => ⟨x, p, s, Ev.step (f := fun _ => some (x, p, s)) (fun k => by simp only [spec_l1Cur_bools.l0]; rw [if_neg (by omega)]) (Ev.now _), by omega, h.up (by omega)⟩
 | m + 1, x, n, p, s, hx, h, hn => by
  obtain ⟨b, p1, s1, e, hc⟩ := one_ex hl h (by omega) 2 (by omega)
  obtain ⟨y, p', s', ey, hy, hc2⟩ := bools_l0 hl m (x ++ [b]) (by simp; omega) hc (by omega)
  refine ⟨y, p', s', ?_, by rw [hy]; simp; omega, hc2.up (by omega)⟩
  refine Ev.step (fun k => by simp only [spec_l1Cur_bools.l0]; rw [if_pos (by omega)]) ?_
  refine Ev.bind (ev_const e) ?_
  refine ev_pos (by show x.length < _; omega) ?_
  exact Ev.congr (fun k => by rw [show wrap64 (((m + 1 : Nat) : Int) - 1) = (m : Int) by rw [wid (by omega) (by omega)]; omega]) ey
theorem bools_ex {l : List Int} (hl : l.length ≤ 9223372036854775807 ∧ ∀ x ∈ l, InU8 x) {n p s : Int} (h : Cu n p s) (hn : n < 1000) (v : Int) (hv0 : 0 ≤ v) (hv : v ≤ 1000) :
  ∃ y p' s', Ev (fun k => spec_l1Cur_bools.f k l p s v) (y, p', s') ∧ (y.length : Int) = v ∧ Cu (n + 2 * v) p' s' := by
 obtain ⟨v, rfl⟩ := Int.eq_ofNat_of_zero_le hv0
 obtain ⟨y, p', s', e, h1, h3⟩ := bools_l0 hl v [] (by simp; omega) h (by omega)
 exact ⟨y, p', s', e, by simp at h1; omega, h3⟩
theorem DrawBitsOf_ex {l : List Int} (hl : l.length ≤ 9223372036854775807 ∧ ∀ x ∈ l, InU8 x) :
  ∃ w s, Ev (fun k => spec_DrawBitsOf.f k l) (w, s) ∧ 0 ≤ w ∧ w ≤ 5 ∧ s.length ≤ 5 ∧ (∀ a ∈ s, 0 ≤ a ∧ a < 18446744073709551616) := by
 obtain ⟨w, p1, s1, e1, hw, hc1⟩ := among_ex hl Cu.zero (by omega) [1, 2, 3, 4, 4, 5] (by simp) (by simp)
 obtain ⟨v, p2, s2, e2, hv0, _, hv, hc2⟩ := pick_ex hl hc1 (by omega) 6 (by omega)
 have hv := hv (by omega)
 have hw : 0 ≤ w ∧ w ≤ 5 := by simp only [List.mem_cons, List.not_mem_nil, or_false] at hw; omega
 obtain ⟨y, p', s', e, h1, h2, _⟩ := state_ex hl hc2 (by omega) w v (by omega) hv0 (by omega)
 exact ⟨w, y, Ev.bind (ev_const e1) (Ev.bind (ev_const e2) (Ev.bind e (Ev.now _))), hw.1, hw.2, by omega, h2⟩
theorem DrawStateFrom_ex {l : List Int} (hl : l.length ≤ 9223372036854775807 ∧ ∀ x ∈ l, InU8 x) :
  ∃ w b, Ev (fun k => spec_DrawStateFrom.f k l) (w, b) ∧ b.length ≤ 100 := by
 obtain ⟨w, p1, s1, e1, hw, hc1⟩ := among_ex hl Cu.zero (by omega) [1, 2, 3, 4, 4, 5, 0] (by simp) (by simp)
 obtain ⟨v, p2, s2, e2, hv0, _, hv, hc2⟩ := pick_ex hl hc1 (by omega) 6 (by omega)
 obtain ⟨u, p3, s3, e3, hu0, _, hu, hc3⟩ := pick_ex hl hc2 (by omega) 9 (by omega)
 have hv := hv (by omega)
 have hu := hu (by omega)
 have hw : 0 ≤ w ∧ w ≤ 5 := by simp only [List.mem_cons, List.not_mem_nil, or_false] at hw; omega
 have h0 : 0 ≤ w * v := Int.mul_nonneg hw.1 hv0
 have h1 : w * v ≤ 5 * 5 := Int.mul_le_mul hw.2 (by omega) hv0 (by omega)
 have hm : wrap64 ((wrap64 (w * v)) + (wrap64 (Int.tdiv u 8))) = w * v + u / 8 := by
  rw [Int.tdiv_eq_ediv_of_nonneg hu0, wid (x := w * v) (by omega) (by omega), wid (x := u / 8) (by omega) (by omega), wid (by omega) (by omega)]
 obtain ⟨y, p', s', e, h2, _⟩ := bools_ex hl hc3 (by omega) (w * v + u / 8) (by omega) (by omega)
 refine ⟨w, y, Ev.bind (ev_const e1) (Ev.bind (ev_const e2) (Ev.bind (ev_const e3) (Ev.bind (Ev.congr (fun k => by rw [hm]) e) (Ev.now _)))), by omega⟩
theorem isLaid_tells (n : Int) : Tells (fun _ => impl_isLaid.f n) (1 ≤ n ∧ n ≤ 4) := by
 simp only [impl_isLaid.f]
 refine tells_if (fun h => tells_some ?_) (fun h => tells_no (fun g => h g.1))
 rw [decide_eq_true_iff]; omega
theorem isWide_eq (w : Int) : impl_isWide.f w = some (decide (1 ≤ w ∧ w ≤ 64)) := by
 unfold impl_isWide.f
 by_cases h : w ≥ 1
 ·rw [if_pos h]; simp [show (1 : Int) ≤ w by omega]
 ·rw [if_neg h]; simp [show ¬ (1 : Int) ≤ w by omega]
theorem mask_eq {w : Int} (h0 : 1 ≤ w) (h1 : w ≤ 64) : impl_mask.f w = some (2 ^ w.toNat - 1) := by
 unfold impl_mask.f
 rw [if_pos (by rw [wid (by omega) (by omega)]; omega), shr_mask h0 h1]
theorem impl_GoodWord_eq (w a : Int) : impl_GoodWord.f w a = some (decide (GW w a)) := by
 unfold impl_GoodWord.f
 rw [isWide_eq, Option.bind_some]
 by_cases h : 1 ≤ w ∧ w ≤ 64
 ·rw [decide_eq_true h, if_pos rfl, mask_eq h.1 h.2, Option.bind_some]
  congr 1
  rw [decide_eq_decide]
  exact ⟨fun g => ⟨h.1, h.2, by omega⟩, fun g => by have := g.2.2; omega⟩
 ·rw [decide_eq_false h, if_neg (by simp), decide_eq_false (fun g => h ⟨g.1, g.2.1⟩)]
def wordv : List Bool → Nat
 | [] => 0
 | b :: t => b.toNat + 2 * wordv t
def bitsW (w : Nat) (a : Int) : List Bool := (List.range w).map (fun i => a.toNat.testBit i)
theorem bitsW_len (w : Nat) (a : Int) : (bitsW w a).length = w := by simp [bitsW]
theorem wordv_lt : ∀ l : List Bool, wordv l < 2 ^ l.length
 | [] => by simp [wordv]
 | b :: t => by
  have h := wordv_lt t
  simp only [wordv, List.length_cons, Nat.pow_succ]
  cases b <;> simp <;> omega
theorem wordv_snoc : ∀ (l : List Bool) (b : Bool), wordv (l ++ [b]) = wordv l + b.toNat * 2 ^ l.length
 | [], b => by simp [wordv]
 | c :: t, b => by
  simp only [List.cons_append, wordv, wordv_snoc t b, List.length_cons, Nat.pow_succ]
  cases b <;> simp <;> omega
theorem wordv_range : ∀ (w a : Nat), wordv ((List.range w).map (fun i => a.testBit i)) = a % 2 ^ w
 | 0, a => by simp [wordv, Nat.mod_one]
 | w + 1, a => by
  rw [List.range_succ_eq_map, List.map_cons, List.map_map, wordv]
  have h := wordv_range w (a / 2)
  have e : (List.range w).map ((fun i => a.testBit i) ∘ Nat.succ) = (List.range w).map (fun i => (a / 2).testBit i) := by
   apply List.map_congr_left
   intro i _
   show a.testBit (i + 1) = _
   rw [Nat.testBit_succ]
  rw [e, h, show (2 : Nat) ^ (w + 1) = 2 * 2 ^ w by rw [Nat.pow_succ, Nat.mul_comm], Nat.mod_mul, Nat.testBit_zero]
  rcases Nat.mod_two_eq_zero_or_one a with h2 | h2 <;> simp [h2]
theorem wordv_bitsW {w : Nat} {a : Int} (h0 : 0 ≤ a) (h : a < 2 ^ w) : ((wordv (bitsW w a) : Nat) : Int) = a := by
 obtain ⟨m, rfl⟩ := Int.eq_ofNat_of_zero_le h0
 have h3 : m < 2 ^ w := by rw [← two_nat] at h; omega
 show ((wordv ((List.range w).map (fun i => m.testBit i)) : Nat) : Int) = _
 rw [wordv_range, Nat.mod_eq_of_lt h3]
theorem testBit_wordv : ∀ (l : List Bool) (i : Nat), (wordv l).testBit i = l.getD i false
 | [], i => by simp [wordv]
 | b :: t, 0 => by
  rw [Nat.testBit_zero, wordv]
  cases b <;> simp <;> omega
 | b :: t, i + 1 => by
  rw [Nat.testBit_succ, wordv, show (b.toNat + 2 * wordv t) / 2 = wordv t by cases b <;> simp <;> omega, testBit_wordv t i]
  simp
theorem bitsW_wordv (l : List Bool) : bitsW l.length (wordv l : Int) = l := by
 apply List.ext_getElem
 ·simp [bitsW]
 ·intro i h1 h2
  simp only [bitsW, List.getElem_map, List.getElem_range, Int.toNat_natCast, testBit_wordv]
  simp [List.getD_eq_getElem?_getD, h2]
theorem bit_read {a : Int} (h0 : 0 ≤ a) (h1 : a < 18446744073709551616) {i : Nat} (hi : i < 64) : (Go.bits .and .u64 (shr .u64 a (i : Int)) 1 == 1) = a.toNat.testBit i := by
 obtain ⟨m, rfl⟩ := Int.eq_ofNat_of_zero_le h0
 have hb : IntKind.u64.bits = 64 := rfl
 have e : shr .u64 (m : Int) (i : Int) = ((m / 2 ^ i : Nat) : Int) := by
  simp only [shr, hb]
  rw [Int.toNat_natCast, Nat.min_eq_left (by omega), ← two_nat, ← Int.natCast_ediv]
 have h2 : m / 2 ^ i ≤ m := Nat.div_le_self _ _
 rw [e, show (1 : Int) = ((1 : Nat) : Int) by rfl, bits_and_u64_nat _ _ (by omega) (by decide), Nat.and_one_is_mod, Int.toNat_natCast, Nat.testBit_eq_decide_div_mod_eq]
 generalize m / 2 ^ i % 2 = y
 rw [Bool.eq_iff_iff, beq_iff_eq, decide_eq_true_iff]; omega
theorem bit_put {x : Nat} {j : Nat} (hj : j < 64) (hx : x < 2 ^ j) (b : Bool) : Go.bits .or .u64 (x : Int) (shl .u64 ((b.toNat : Nat) : Int) (j : Int)) = ((x + b.toNat * 2 ^ j : Nat) : Int) := by
 have h2 : (2 ^ j : Nat) < 18446744073709551616 := Nat.pow_lt_pow_right (by decide : 1 < 2) hj
 cases b with
 | false =>
  have e : shl .u64 (((false : Bool).toNat : Nat) : Int) (j : Int) = ((0 : Nat) : Int) := by
   have hb : IntKind.u64.bits = 64 := rfl
   simp only [shl, hb]
   rw [wu]; simp
  rw [e, bits_or_u64_nat _ _ (by omega) (by decide)]; simp
 | true =>
  have e : shl .u64 (((true : Bool).toNat : Nat) : Int) (j : Int) = ((2 ^ j : Nat) : Int) := shl_one hj
  rw [e, bits_or_u64_nat _ _ (by omega) h2]
  have h := Nat.two_pow_add_eq_or_of_lt hx 1
  rw [Nat.mul_one] at h
  rw [Nat.or_comm, ← h]; simp; omega
def StateOk (wi va : Int) (s : List Int) : Prop := (s.length : Int) = va ∧ ∀ a ∈ s, GW wi a
theorem isStateB_tells (wi va : Int) (s : List Int) : Tells (fun _ => impl_isState.f wi va s) ((1 ≤ wi ∧ wi ≤ 64) ∧ (1 ≤ va ∧ va ≤ 4) ∧ StateOk wi va s) := by
 have ww : Tells (fun _ => impl_isWide.f wi) (1 ≤ wi ∧ wi ≤ 64) := by simp only [isWide_eq]; exact tells_some (by simp)
 have wv : Tells (fun _ => impl_isVars.f va) (1 ≤ va ∧ va ≤ 4) := by
  simp only [impl_isVars.f]
  refine tells_if (fun h => tells_some ?_) (fun h => tells_no (fun g => h g.1))
  rw [decide_eq_true_iff]; omega
 refine tells_ask ww (fun h1 => tells_pos rfl ?_) (fun h => tells_neg (by simp) (tells_no (fun g => h g.1)))
 refine tells_ask wv (fun h2 => tells_pos rfl ?_) (fun h => tells_neg (by simp) (tells_no (fun g => h g.2.1)))
 refine tells_if (fun h => ?_) (fun h => tells_no (fun g => h g.2.2.1))
 have hA : Tells (fun _ => slices_ContainsFunc_uint64_uint64_by_impl_isState_1.f s wi) (∃ a ∈ s, ¬ GW wi a) := anyO_tells s (fun a _ => tells_bind (ev_const (impl_GoodWord_eq wi a)) (tells_some (by simp)))
 refine tells_ask hA (fun h5 => tells_no ?_) (fun h5 => tells_yes ⟨h1, h2, h, fun c hc => Classical.byContradiction (fun g => h5 ⟨c, hc, g⟩)⟩)
 obtain ⟨c, hc, h6⟩ := h5
 exact fun g => h6 (g.2.2.2 c hc)
def BitsOk (w : Int) (s : List Int) : Prop := (1 ≤ w ∧ w ≤ 4) ∧ (1 ≤ s.length ∧ s.length ≤ 4) ∧ ∀ a ∈ s, GW w a
theorem bits_drop {w i : Nat} (h : i < w) (a : Int) : (bitsW w a).drop i = a.toNat.testBit i :: (bitsW w a).drop (i + 1) := by
 rw [drop_cons (by simpa [bitsW] using h) false]
 congr 1
 simp [bitsW, List.getD_eq_getElem?_getD, h]
theorem BitsOf_l1 (w : Nat) (hw : w ≤ 4) (a : Int) (h0 : 0 ≤ a) (h1 : a < 18446744073709551616) (s : List Int) (n j : Int) (r : List Bool × Bool) (d : Nat) : ∀ (i : Nat) (x : List Bool), i + d = w → x.length + d ≤ 1000 →
  Ev (fun k => impl_BitsOf.l0 k w (x ++ (bitsW w a).drop i) s n (wrap64 (j + 1))) r → Ev (fun k => impl_BitsOf.l1 k w x a s n j w (i : Int)) r := by
 induction d with
 | zero =>
  intro i x hd hx h
  rw [List.drop_of_length_le (by rw [bitsW_len]; omega), List.append_nil] at h
  exact Ev.step (fun k => by simp only [impl_BitsOf.l1]; rw [if_neg (by omega)]) h
 | succ d ih =>
  intro i x hd hx h
  refine Ev.step (fun k => by simp only [impl_BitsOf.l1]; rw [if_pos (by omega), if_pos (by omega), if_pos (by omega), bit_read h0 h1 (by omega), wsucc (by omega)]) (ih (i + 1) _ (by omega) (by simp; omega) ?_)
  rw [bits_drop (by omega)] at h
  simpa using h
theorem BitsOf_l0 (w : Nat) (hw : w ≤ 4) (s : List Int) (hl : s.length ≤ 4) (hs : ∀ a ∈ s, 0 ≤ a ∧ a < 18446744073709551616) (d : Nat) : ∀ (j : Nat) (x : List Bool), j + d = s.length → x.length + 4 * d ≤ 900 →
  Ev (fun k => impl_BitsOf.l0 k w x s (s.length : Int) (j : Int)) (x ++ (s.drop j).flatMap (bitsW w), true) := by
 induction d with
 | zero =>
  intro j x hd hx
  rw [List.drop_of_length_le (by omega), List.flatMap_nil, List.append_nil]
  exact Ev.step (f := fun _ => some (x, true)) (fun k => by simp only [impl_BitsOf.l0]; rw [if_neg (by omega)]) (Ev.now _)
 | succ d ih =>
  intro j x hd hx
  have hm := hs _ (getD_mem (show j < s.length by omega) 0)
  refine Ev.step (fun k => by simp only [impl_BitsOf.l0]; rw [if_pos (by omega), if_pos (by omega), if_pos (by omega), rd_nat]) ?_
  refine BitsOf_l1 w hw _ hm.1 hm.2 s _ _ _ w 0 x (by omega) (by omega) ?_
  refine ev_eq (Ev.congr (fun k => by rw [wsucc (by omega)]) (ih (j + 1) (x ++ (bitsW w (s.getD j 0)).drop 0) (by omega) (by simp [bitsW_len]; omega))) ?_
  rw [drop_cons (show j < s.length by omega) 0]
  simp
theorem impl_BitsOf_yes (w : Int) (s : List Int) (hs : ∀ a ∈ s, 0 ≤ a ∧ a < 18446744073709551616) (h : BitsOk w s) : Ev (fun k => impl_BitsOf.f k w s) (s.flatMap (bitsW w.toNat), true) := by
 obtain ⟨w, rfl⟩ := Int.eq_ofNat_of_zero_le (show 0 ≤ w by have := h.1; omega)
 refine ev_ask (isLaid_tells w) (fun h1 => ev_pos rfl ?_) (fun g => absurd h.1 g)
 refine ev_ask (isStateB_tells w (s.length : Int) s) (fun _ => ?_) (fun g => absurd ⟨by have := h.1; omega, by have := h.2.1; omega, rfl, h.2.2⟩ g)
 refine Ev.step (fun k => by rw [impl_BitsOf.j0, if_neg (by simp)]) ?_
 exact ev_eq (BitsOf_l0 w (by have := h.1; omega) s (by have := h.2.1; omega) hs s.length 0 [] (by omega) (by have := h.2.1; simp; omega)) (by simp)
theorem impl_BitsOf_no (w : Int) (s : List Int) (h : ¬ BitsOk w s) : Ev (fun k => impl_BitsOf.f k w s) ([], false) := by
 have no : Ev (fun k => impl_BitsOf.j0 k w s true) ([], false) := Ev.step (f := fun _ => some ([], false)) (fun k => by rw [impl_BitsOf.j0, if_pos rfl]) (Ev.now _)
 refine ev_ask (isLaid_tells w) (fun h1 => ev_pos rfl ?_) (fun g => ev_neg (by simp) no)
 refine ev_ask (isStateB_tells w (s.length : Int) s) (fun g => absurd ⟨h1, by have := g.2.1; omega, g.2.2.2⟩ h) (fun _ => no)
theorem l1In_eq (n lo hi : Int) : spec_l1In.f n lo hi = some (decide (lo ≤ n ∧ n ≤ hi)) := by
 simp only [spec_l1In.f]
 by_cases h : n ≥ lo
 ·rw [if_pos h]; congr 1; simp; intro _; exact h
 ·rw [if_neg h]; congr 1; simp; intro h'; omega
theorem l1In_tells (n lo hi : Int) : Tells (fun _ => spec_l1In.f n lo hi) (lo ≤ n ∧ n ≤ hi) := by
 simp only [l1In_eq]; exact tells_some (by simp)
theorem l5Wide_tells (n : Int) : Tells (fun _ => spec_l5Wide.f n) (1 ≤ n ∧ n ≤ 4) := by
 unfold spec_l5Wide.f
 simp only [l1In_eq, Option.bind_some]; exact tells_some (by simp)
theorem l1Wide_eq (w : Int) : spec_l1Wide.f w = some (decide (1 ≤ w ∧ w ≤ 64)) := by
 unfold spec_l1Wide.f; rw [l1In_eq]; rfl
theorem spec_GoodWord_tells (w a : Int) (h0 : 0 ≤ a) (h1 : a < 18446744073709551616) : Tells (fun k => spec_GoodWord.f k w a) (GW w a) := by
 refine tells_bind (ev_const (l1Wide_eq w)) ?_
 by_cases h : 1 ≤ w ∧ w ≤ 64
 ·refine tells_pos (by simpa using h) (tells_bind (l1Cut_ev w a (by omega) h0 h1) (tells_some ?_))
  have := two_pos w.toNat
  constructor
  ·intro g
   have g : a % 2 ^ w.toNat = a := by simpa using g
   exact ⟨h.1, h.2, by have := Int.emod_lt_of_pos a this; omega⟩
  ·intro g
   rw [Int.emod_eq_of_lt h0 g.2.2]; simp
 ·exact tells_neg (by simpa using h) (tells_no (fun g => h ⟨g.1, g.2.1⟩))
theorem l2WordsB_l0 (wi : Int) (s : List Int) (hl : s.length ≤ 9223372036854775807) (hs : ∀ a ∈ s, 0 ≤ a ∧ a < 18446744073709551616) (d : Nat) : ∀ (j : Nat), j + d = s.length →
  Tells (fun k => spec_l2Words.l0 k wi s (s.length : Int) (j : Int)) (∀ a ∈ s.drop j, GW wi a) := by
 induction d with
 | zero =>
  intro j hd
  rw [List.drop_of_length_le (by omega)]
  exact tells_step (f := fun _ => some true) (fun k => by simp only [spec_l2Words.l0]; rw [if_neg (by omega)]) (tells_yes (fun c h => by simp at h))
 | succ d ih =>
  intro j hd
  have hj : j < s.length := by omega
  have hm := hs _ (getD_mem hj 0)
  rw [drop_cons hj 0]
  refine tells_step (fun k => by simp only [spec_l2Words.l0]; rw [if_pos (by omega), if_pos (by omega), if_pos (by omega), rd_nat, wsucc (by omega)]) ?_
  refine tells_ask (spec_GoodWord_tells wi _ hm.1 hm.2) (fun h => tells_pos rfl ?_) (fun h => tells_neg (by simp) (tells_no (fun g => h (g _ (by simp)))))
  exact tells_iff (ih (j + 1) (by omega)) ⟨fun g c hc => by
   rcases List.mem_cons.1 hc with rfl | hc
   ·exact h
   ·exact g c hc, fun g c hc => g c (by simp [hc])⟩
theorem l5Bits_l1 (w : Nat) (hw : w ≤ 4) (a : Int) (h0 : 0 ≤ a) (h1 : a < 18446744073709551616) (s : List Int) (n j : Int) (r : List Bool) (d : Nat) : ∀ (i : Nat) (x : List Bool), i + d = w → x.length + d ≤ 1000 →
  Ev (fun k => spec_l5Bits.l0 k w (x ++ (bitsW w a).drop i) s n (wrap64 (j + 1))) r → Ev (fun k => spec_l5Bits.l1 k w x a (i : Int) s n j) r := by
 induction d with
 | zero =>
  intro i x hd hx h
  rw [List.drop_of_length_le (by rw [bitsW_len]; omega), List.append_nil] at h
  exact Ev.step (fun k => by simp only [spec_l5Bits.l1]; rw [if_neg (by omega)]) h
 | succ d ih =>
  intro i x hd hx h
  have hu : IntKind.u64.wrap (i : Int) = (i : Int) := by rw [wu]; omega
  refine Ev.step (fun k => by simp only [spec_l5Bits.l1]; rw [if_pos (by omega), hu, if_pos (by omega), if_pos (by omega), bit_read h0 h1 (by omega), wsucc (by omega)]) (ih (i + 1) _ (by omega) (by simp; omega) ?_)
  rw [bits_drop (by omega)] at h
  simpa using h
theorem l5Bits_l0 (w : Nat) (hw : w ≤ 4) (s : List Int) (hl : s.length ≤ 4) (hs : ∀ a ∈ s, 0 ≤ a ∧ a < 18446744073709551616) (d : Nat) : ∀ (j : Nat) (x : List Bool), j + d = s.length → x.length + 4 * d ≤ 900 →
  Ev (fun k => spec_l5Bits.l0 k w x s (s.length : Int) (j : Int)) (x ++ (s.drop j).flatMap (bitsW w)) := by
 induction d with
 | zero =>
  intro j x hd hx
  rw [List.drop_of_length_le (by omega), List.flatMap_nil, List.append_nil]
  exact Ev.step (f := fun _ => some x) (fun k => by simp only [spec_l5Bits.l0]; rw [if_neg (by omega)]) (Ev.now _)
 | succ d ih =>
  intro j x hd hx
  have hm := hs _ (getD_mem (show j < s.length by omega) 0)
  refine Ev.step (fun k => by simp only [spec_l5Bits.l0]; rw [if_pos (by omega), if_pos (by omega), if_pos (by omega), rd_nat]) ?_
  refine l5Bits_l1 w hw _ hm.1 hm.2 s _ _ _ w 0 x (by omega) (by omega) ?_
  refine ev_eq (Ev.congr (fun k => by rw [wsucc (by omega)]) (ih (j + 1) (x ++ (bitsW w (s.getD j 0)).drop 0) (by omega) (by simp [bitsW_len]; omega))) ?_
  rw [drop_cons (show j < s.length by omega) 0]
  simp
theorem spec_BitsOf_yes (w : Int) (s : List Int) (hs : ∀ a ∈ s, 0 ≤ a ∧ a < 18446744073709551616) (h : BitsOk w s) : Ev (fun k => spec_BitsOf.f k w s) (s.flatMap (bitsW w.toNat), true) := by
 obtain ⟨w, rfl⟩ := Int.eq_ofNat_of_zero_le (show 0 ≤ w by have := h.1; omega)
 refine ev_ask (l5Wide_tells w) (fun h1 => ev_pos rfl ?_) (fun g => absurd h.1 g)
 refine ev_ask (l1In_tells (s.length : Int) 1 4) (fun _ => ev_pos rfl ?_) (fun g => absurd (by have := h.2.1; omega) g)
 refine ev_ask (l2WordsB_l0 w s (by have := h.2.1; omega) hs s.length 0 (by omega)) (fun _ => ev_pos rfl ?_) (fun g => absurd h.2.2 g)
 exact Ev.bind (ev_eq (l5Bits_l0 w (by have := h.1; omega) s (by have := h.2.1; omega) hs s.length 0 [] (by omega) (by have := h.2.1; simp; omega)) (by simp)) (Ev.now _)
theorem spec_BitsOf_no (w : Int) (s : List Int) (hs : ∀ a ∈ s, 0 ≤ a ∧ a < 18446744073709551616) (h : ¬ BitsOk w s) : Ev (fun k => spec_BitsOf.f k w s) ([], false) := by
 refine ev_ask (l5Wide_tells w) (fun h1 => ev_pos rfl ?_) (fun g => ev_neg (by simp) (Ev.now _))
 refine ev_ask (l1In_tells (s.length : Int) 1 4) (fun h2 => ev_pos rfl ?_) (fun g => ev_neg (by simp) (Ev.now _))
 refine ev_ask (l2WordsB_l0 w s (by omega) hs s.length 0 (by omega)) (fun h3 => absurd ⟨h1, by omega, h3⟩ h) (fun g => ev_neg (by simp) (Ev.now _))
theorem sameBools_l0 (l : List Bool) (hl : l.length ≤ 9223372036854775807) (d : Nat) : ∀ (j : Nat), j + d = l.length → Ev (fun k => laws_sameBools.l0 k l l (l.length : Int) (j : Int)) true := by
 induction d with
 | zero => exact fun j hd => Ev.step (f := fun _ => some true) (fun k => by simp only [laws_sameBools.l0]; rw [if_neg (by omega)]) (Ev.now _)
 | succ d ih => exact fun j hd => Ev.step (fun k => by simp only [laws_sameBools.l0]; rw [if_pos (by omega), if_pos (by omega), if_pos (by omega), if_pos (by omega), if_neg (by simp), wsucc (by omega)]) (ih (j + 1) (by omega))
theorem sameBools_ev (l : List Bool) (hl : l.length ≤ 9223372036854775807) : Ev (fun k => laws_sameBools.f k l l) true :=
 Ev.congr (fun k => by simp only [laws_sameBools.f, if_true]; rfl) (sameBools_l0 l hl l.length 0 (by omega))
theorem wordOf_l0 (l : List Bool) (hl : l.length ≤ 64) (d : Nat) : ∀ (j : Nat), j + d = l.length → Ev (fun k => impl_wordOf.l0 k ((wordv (l.take j) : Nat) : Int) l (l.length : Int) (j : Int)) ((wordv l : Nat) : Int) := by
 induction d with
 | zero =>
  intro j hd
  rw [List.take_of_length_le (by omega)]
  exact Ev.step (f := fun _ => some ((wordv l : Nat) : Int)) (fun k => by simp only [impl_wordOf.l0]; rw [if_neg (by omega)]) (Ev.now _)
 | succ d ih =>
  intro j hd
  have hj : j < l.length := by omega
  have hlt := wordv_lt (l.take j)
  rw [List.length_take, Nat.min_eq_left (by omega)] at hlt
  have hr : rdOf false l (j : Int) = l[j] := by simp [rdOf, hj]
  have ht : impl_truth.f l[j] = some (((l[j]).toNat : Nat) : Int) := by cases l[j] <;> rfl
  have hn : wordv (l.take j) + (l[j]).toNat * 2 ^ j = wordv (l.take (j + 1)) := by
   rw [List.take_succ_eq_append_getElem hj, wordv_snoc, List.length_take, Nat.min_eq_left (by omega)]
  refine Ev.step (fun k => by simp only [impl_wordOf.l0]; rw [if_pos (by omega), if_pos (by omega), if_pos (by omega), hr, ht, Option.bind_some, bit_put (by omega) hlt, hn, wsucc (by omega)]) (ih (j + 1) (by omega))
theorem wordOf_ev (l : List Bool) (hl : l.length ≤ 64) : Ev (fun k => impl_wordOf.f k l) ((wordv l : Nat) : Int) := wordOf_l0 l hl l.length 0 (by omega)
def FromOk (w : Int) (l : List Bool) : Prop := (1 ≤ w ∧ w ≤ 4) ∧ l.length % w.toNat = 0 ∧ 1 ≤ l.length / w.toNat ∧ l.length / w.toNat ≤ 4
instance (w : Int) (l : List Bool) : Decidable (FromOk w l) := by unfold FromOk; infer_instance
def fromW (w : Nat) (l : List Bool) : List Int := (List.range (l.length / w)).map (fun j => ((wordv ((l.drop (j * w)).take w) : Nat) : Int))
theorem rfList_ev {g : Nat → Nat → Option Int} {v : Nat → Int} : ∀ (m : Nat), (∀ j, j < m → Ev (fun k => g k j) (v j)) → Ev (fun k => rfList (g k) m) ((List.range m).map v)
 | 0, _ => Ev.now _
 | m + 1, h => by
  rw [List.range_succ, List.map_append]
  exact Ev.bind (rfList_ev m (fun j hj => h j (by omega))) (Ev.bind (h m (by omega)) (Ev.now _))
theorem impl_StateFrom_yes (w : Int) (l : List Bool) (h : FromOk w l) : Ev (fun k => impl_StateFrom.f k w l) (fromW w.toNat l, true) := by
 refine ev_pos h.1 (ev_pos h.2 (Ev.bind (rfList_ev (g := fun k j => impl_wordOf.f k ((l.drop (j * w.toNat)).take w.toNat)) _ (fun j _ => wordOf_ev _ ?_)) (Ev.now _)))
 have := h.1
 rw [List.length_take]; omega
theorem impl_StateFrom_no (w : Int) (l : List Bool) (h : ¬ FromOk w l) : Ev (fun k => impl_StateFrom.f k w l) ([], false) := by
 by_cases h1 : 1 ≤ w ∧ w ≤ 4
 ·exact ev_pos h1 (ev_neg (fun g => h ⟨h1, g⟩) (Ev.now _))
 ·exact ev_neg h1 (Ev.now _)
theorem sameWords_l0 (l : List Int) (hl : l.length ≤ 9223372036854775807) (d : Nat) : ∀ (j : Nat), j + d = l.length → Ev (fun k => laws_sameWords.l0 k l l (l.length : Int) (j : Int)) true := by
 induction d with
 | zero => exact fun j hd => Ev.step (f := fun _ => some true) (fun k => by simp only [laws_sameWords.l0]; rw [if_neg (by omega)]) (Ev.now _)
 | succ d ih => exact fun j hd => Ev.step (fun k => by simp only [laws_sameWords.l0]; rw [if_pos (by omega), if_pos (by omega), if_pos (by omega), if_pos (by omega), if_pos trivial, wsucc (by omega)]) (ih (j + 1) (by omega))
theorem sameWords_ev (l : List Int) (hl : l.length ≤ 9223372036854775807) : Ev (fun k => laws_sameWords.f k l l) true :=
 Ev.congr (fun k => by simp only [laws_sameWords.f, if_true]; rfl) (sameWords_l0 l hl l.length 0 (by omega))
def cutW (w : Nat) (l : List Bool) (k q : Nat) : Int := ((wordv ((l.drop (q * w)).take (min w (k - q * w))) : Nat) : Int)
theorem cutW_other (w : Nat) (hw : 0 < w) (l : List Bool) (k q : Nat) (h : q ≠ k / w) : cutW w l (k + 1) q = cutW w l k q := by
 have e1 := Nat.div_add_mod k w
 have e2 := Nat.mod_lt k hw
 have : min w (k + 1 - q * w) = min w (k - q * w) := by
  rcases Nat.lt_or_gt_of_ne h with h | h
  ·have h3 : (q + 1) * w ≤ (k / w) * w := Nat.mul_le_mul_right w h
   rw [Nat.add_mul, Nat.mul_comm (k / w) w] at h3
   omega
  ·have h3 : (k / w + 1) * w ≤ q * w := Nat.mul_le_mul_right w h
   rw [Nat.add_mul, Nat.mul_comm (k / w) w] at h3
   omega
 simp only [cutW, this]
theorem cutW_own (w : Nat) (hw : 0 < w) (l : List Bool) (k : Nat) (hk : k < l.length) : cutW w l k (k / w) = ((wordv ((l.drop (k / w * w)).take (k % w)) : Nat) : Int) ∧ cutW w l (k + 1) (k / w) = ((wordv ((l.drop (k / w * w)).take (k % w)) + (l[k]).toNat * 2 ^ (k % w) : Nat) : Int) := by
 have e1 := Nat.div_add_mod k w
 have e2 := Nat.mod_lt k hw
 rw [Nat.mul_comm] at e1
 have a1 : min w (k - k / w * w) = k % w := by omega
 have a2 : min w (k + 1 - k / w * w) = k % w + 1 := by omega
 refine ⟨by simp only [cutW, a1], ?_⟩
 have hd : k % w < (l.drop (k / w * w)).length := by rw [List.length_drop]; omega
 simp only [cutW, a2]
 rw [List.take_succ_eq_append_getElem hd, wordv_snoc, List.length_take, Nat.min_eq_left (by omega)]
 congr 4
 rw [List.getElem_drop]
 congr 1
theorem wid_nat {n : Nat} (h : n ≤ 9223372036854775807) : wrap64 (n : Int) = (n : Int) := wid (by omega) (by omega)
theorem wu_nat {n : Nat} (h : n ≤ 9223372036854775807) : IntKind.u64.wrap (n : Int) = (n : Int) := by rw [wu]; omega
theorem StateFrom_l0 (w m : Nat) (hw : 1 ≤ w) (hw2 : w ≤ 4) (l : List Bool) (hl : l.length = m * w) (hm : m ≤ 4) (d : Nat) : ∀ (k : Nat), k + d = l.length →
  Ev (fun n => spec_StateFrom.l0 n w ((List.range m).map (cutW w l k)) l (l.length : Int) (k : Int)) ((List.range m).map (cutW w l l.length), true) := by
 have h16 : m * w ≤ 4 * 4 := Nat.mul_le_mul hm hw2
 induction d with
 | zero =>
  intro k hd
  obtain rfl : k = l.length := by omega
  exact Ev.step (f := fun _ => some ((List.range m).map (cutW w l l.length), true)) (fun n => by simp only [spec_StateFrom.l0]; rw [if_neg (by omega)]) (Ev.now _)
 | succ d ih =>
  intro k hd
  have hk : k < l.length := by omega
  have hq : k / w < m := (Nat.div_lt_iff_lt_mul hw).2 (by omega)
  have e2 := Nat.mod_lt k hw
  have hle := Nat.div_le_self k w
  have t1 : wrap64 (Int.tdiv (k : Int) (w : Int)) = ((k / w : Nat) : Int) := by
   rw [Int.tdiv_eq_ediv_of_nonneg (by omega), ← Int.natCast_ediv, wid_nat (by omega)]
  have t2 : IntKind.u64.wrap (Int.tmod (k : Int) (w : Int)) = ((k % w : Nat) : Int) := by
   rw [Int.tmod_eq_emod_of_nonneg (by omega), ← Int.natCast_emod, wu_nat (by omega)]
  have hr : rdOf false l (k : Int) = l[k] := by simp [rdOf, hk]
  have hb : spec_l2Bool.f l[k] = some (((l[k]).toNat : Nat) : Int) := by cases l[k] <;> rfl
  obtain ⟨c1, c2⟩ := cutW_own w hw l k hk
  have hx : rd ((List.range m).map (cutW w l k)) ((k / w : Nat) : Int) = ((wordv ((l.drop (k / w * w)).take (k % w)) : Nat) : Int) := by
   rw [rd_nat, getD_eq (by simpa using hq), List.getElem_map, List.getElem_range, c1]
  have hlt := wordv_lt ((l.drop (k / w * w)).take (k % w))
  have e1 := Nat.div_add_mod k w
  rw [Nat.mul_comm] at e1
  rw [List.length_take, List.length_drop, Nat.min_eq_left (by omega)] at hlt
  have hs : ((List.range m).map (cutW w l k)).set (k / w) (((wordv ((l.drop (k / w * w)).take (k % w)) + (l[k]).toNat * 2 ^ (k % w) : Nat)) : Int) = (List.range m).map (cutW w l (k + 1)) := by
   apply List.ext_getElem
   ·simp
   ·intro i h1 h2
    rw [List.getElem_set, List.getElem_map, List.getElem_range]
    by_cases hi : k / w = i
    ·subst hi
     rw [if_pos rfl, List.getElem_map, List.getElem_range, c2]
    ·rw [if_neg hi, List.getElem_map, List.getElem_range, cutW_other w hw l k i (fun h => hi h.symm)]
  refine Ev.step (fun n => by
   simp only [spec_StateFrom.l0]
   rw [if_pos (by omega), if_pos (by omega), if_pos (by omega), if_neg (by omega), t1, if_pos (Int.natCast_nonneg _), if_pos (Int.ofNat_lt.2 (by simpa using hq)), hr, hb, Option.bind_some, t2, if_pos (Int.natCast_nonneg _), hx, bit_put (by omega) hlt, Int.toNat_natCast, hs, wsucc (by omega)]) (ih (k + 1) (by omega))
theorem spec_StateFrom_yes (w : Int) (l : List Bool) (h : FromOk w l) : Ev (fun k => spec_StateFrom.f k w l) (fromW w.toNat l, true) := by
 obtain ⟨w, rfl⟩ := Int.eq_ofNat_of_zero_le (show 0 ≤ w by have := h.1; omega)
 have h1 := h.1
 obtain ⟨_, h2, h3, h4⟩ := h
 rw [Int.toNat_natCast] at h2 h3 h4 ⊢
 have e1 := Nat.div_add_mod l.length w
 rw [h2, Nat.mul_comm, Nat.add_zero] at e1
 have h16 : l.length / w * w ≤ 4 * 4 := Nat.mul_le_mul h4 (by omega)
 have d1 : wrap64 ((l.length : Int) / (w : Int)) = ((l.length / w : Nat) : Int) := by rw [← Int.natCast_ediv, wid_nat (by omega)]
 have m1 : (l.length : Int) % (w : Int) = 0 := by rw [← Int.natCast_emod, h2]; rfl
 refine ev_ask (l5Wide_tells w) (fun _ => ev_pos rfl (ev_neg (by omega) (ev_pos m1 ?_))) (fun g => absurd h1 g)
 rw [d1]
 refine ev_ask (l1In_tells _ 1 4) (fun _ => ?_) (fun g => absurd (by omega) g)
 refine Ev.step (fun k => by simp only [spec_StateFrom.j0]; rw [if_neg (by simp), if_neg (by omega), d1, if_pos (by omega), if_pos (by omega)]) ?_
 have hz : List.replicate (((l.length / w : Nat) : Int)).toNat (0 : Int) = (List.range (l.length / w)).map (cutW w l 0) := by
  rw [Int.toNat_natCast]
  apply List.ext_getElem
  ·simp
  ·intro i _ _
   simp [cutW, wordv]
 have hf : (List.range (l.length / w)).map (cutW w l l.length) = fromW w l := by
  refine List.map_congr_left (fun q hq => ?_)
  have hq : q < l.length / w := by simpa using hq
  have h5 : (q + 1) * w ≤ (l.length / w) * w := Nat.mul_le_mul_right w hq
  rw [Nat.add_mul] at h5
  have : min w (l.length - q * w) = w := by omega
  simp only [cutW, this]
 rw [hz, ← hf]
 exact StateFrom_l0 w (l.length / w) (by omega) (by omega) l e1.symm h4 l.length 0 (by omega)
theorem spec_StateFrom_no (w : Int) (l : List Bool) (hl : l.length ≤ 9223372036854775807) (h : ¬ FromOk w l) : Ev (fun k => spec_StateFrom.f k w l) ([], false) := by
 have no : Ev (fun k => spec_StateFrom.j0 k w l true) ([], false) := Ev.step (f := fun _ => some ([], false)) (fun k => by rw [spec_StateFrom.j0, if_pos rfl]) (Ev.now _)
 refine ev_ask (l5Wide_tells w) (fun h1 => ev_pos rfl (ev_neg (by omega) ?_)) (fun g => ev_neg (by simp) no)
 obtain ⟨w, rfl⟩ := Int.eq_ofNat_of_zero_le (show 0 ≤ w by omega)
 by_cases h2 : (l.length : Int) % (w : Int) = 0
 ·refine ev_pos h2 ?_
  have hle : l.length / w ≤ l.length := Nat.div_le_self _ _
  have d1 : wrap64 ((l.length : Int) / (w : Int)) = ((l.length / w : Nat) : Int) := by rw [← Int.natCast_ediv, wid_nat (by omega)]
  rw [d1]
  refine ev_ask (l1In_tells _ 1 4) (fun h3 => absurd ⟨h1, ?_, ?_⟩ h) (fun g => no)
  ·rw [← Int.natCast_emod] at h2
   rw [Int.toNat_natCast]; omega
  ·rw [Int.toNat_natCast]; omega
 ·exact ev_neg h2 no
theorem chunk_flat (w : Nat) : ∀ (s : List Int) (j : Nat), j < s.length → ((s.flatMap (bitsW w)).drop (j * w)).take w = bitsW w (s.getD j 0)
 | [], j, h => by simp at h
 | a :: t, 0, h => by
  rw [Nat.zero_mul, List.drop_zero, List.flatMap_cons, List.take_left' (bitsW_len w a)]; simp
 | a :: t, j + 1, h => by
  have ih := chunk_flat w t j (by simpa using h)
  rw [List.flatMap_cons, show (j + 1) * w = w + j * w by rw [Nat.add_mul, Nat.one_mul, Nat.add_comm], ← List.drop_drop, List.drop_left' (bitsW_len w a), ih]; simp
theorem flat_len (w : Nat) : ∀ (s : List Int), (s.flatMap (bitsW w)).length = s.length * w
 | [] => by simp
 | a :: t => by rw [List.flatMap_cons, List.length_append, bitsW_len, flat_len w t, List.length_cons, Nat.add_mul]; omega
theorem from_bits (w : Nat) (hw : 1 ≤ w) (s : List Int) (hs : ∀ a ∈ s, 0 ≤ a) (hg : ∀ a ∈ s, a < 2 ^ w) : fromW w (s.flatMap (bitsW w)) = s := by
 unfold fromW
 rw [flat_len, Nat.mul_div_cancel _ (by omega)]
 apply List.ext_getElem
 ·simp
 ·intro i h1 h2
  rw [List.getElem_map, List.getElem_range, chunk_flat w s i h2, getD_eq h2]
  exact wordv_bitsW (hs _ (List.getElem_mem h2)) (hg _ (List.getElem_mem h2))
theorem flat_chunk (w : Nat) (l : List Bool) : ∀ m, (List.range m).flatMap (fun j => (l.drop (j * w)).take w) = l.take (m * w)
 | 0 => by simp
 | m + 1 => by
  rw [List.range_succ, List.flatMap_append, flat_chunk w l m, show (m + 1) * w = m * w + w by rw [Nat.add_mul, Nat.one_mul], List.take_add]; simp
theorem bits_from (w : Nat) (hw : 1 ≤ w) (l : List Bool) (h : l.length % w = 0) : (fromW w l).flatMap (bitsW w) = l := by
 have e1 := Nat.div_add_mod l.length w
 rw [h, Nat.mul_comm, Nat.add_zero] at e1
 unfold fromW
 rw [List.flatMap_map]
 have e : ∀ j ∈ List.range (l.length / w), bitsW w ((wordv ((l.drop (j * w)).take w) : Nat) : Int) = (l.drop (j * w)).take w := by
  intro j hj
  have hj : j < l.length / w := by simpa using hj
  have h3 : (j + 1) * w ≤ (l.length / w) * w := Nat.mul_le_mul_right w hj
  rw [Nat.add_mul] at h3
  have hlen : ((l.drop (j * w)).take w).length = w := by rw [List.length_take, List.length_drop]; omega
  have := bitsW_wordv ((l.drop (j * w)).take w)
  rw [hlen] at this
  exact this
 rw [show (List.range (l.length / w)).flatMap (fun j => bitsW w ((wordv ((l.drop (j * w)).take w) : Nat) : Int)) = (List.range (l.length / w)).flatMap (fun j => (l.drop (j * w)).take w) by
  rw [List.flatMap_def, List.flatMap_def, List.map_congr_left e], flat_chunk, e1, List.take_length]
theorem fromW_ok (w : Int) (l : List Bool) (h : FromOk w l) : (∀ a ∈ fromW w.toNat l, 0 ≤ a ∧ a < 18446744073709551616) ∧ BitsOk w (fromW w.toNat l) := by
 have h1 := h.1
 have hg : ∀ a ∈ fromW w.toNat l, 0 ≤ a ∧ a < 2 ^ w.toNat := by
  intro a ha
  obtain ⟨j, _, rfl⟩ := List.mem_map.1 ha
  have h2 := wordv_lt ((l.drop (j * w.toNat)).take w.toNat)
  have h3 : 2 ^ ((l.drop (j * w.toNat)).take w.toNat).length ≤ 2 ^ w.toNat := Nat.pow_le_pow_right (by omega) (by rw [List.length_take]; omega)
  rw [← two_nat]; omega
 have hp := two_le (n := w.toNat) (by omega)
 refine ⟨fun a ha => ⟨(hg a ha).1, by have := (hg a ha).2; omega⟩, h1, ?_, fun a ha => ⟨h1.1, by omega, (hg a ha).2⟩⟩
 have := h.2
 simp only [fromW, List.length_map, List.length_range]; omega

theorem FnBitsBack : ∀ (l0 : List (Int)) (l1 : List (Int)), (l0.length ≤ 9223372036854775807 ∧ ∀ x ∈ l0, InU8 x) → (l1.length ≤ 9223372036854775807 ∧ ∀ x ∈ l1, InU8 x) → ∃ k, laws_FnBitsBack.f k l0 l1 = some true := by
  intro l0 l1 h0 h1
  refine Ev.rounds ?_
  refine Ev.bind (ev_const (big_eq l0 l1 h0.1 h1.1)) ?_
  by_cases hs : l0.length + l1.length ≤ 1048576
  · refine ev_neg (by simpa using hs) ?_
    have part : Ev (fun k => laws_FnBitsBack.j1 k l1) true := by
      obtain ⟨w, b, hd, hb⟩ := DrawStateFrom_ex h1
      by_cases h : FromOk w b
      · have hh := h.1
        obtain ⟨g1, g2⟩ := fromW_ok w b h
        have hlen : (fromW w.toNat b).length ≤ 4 := g2.2.1.2
        refine Ev.step (fun k => by rw [laws_FnBitsBack.j1]) ?_
        refine Ev.bind hd (Ev.bind (impl_StateFrom_yes w b h) (Ev.bind (spec_StateFrom_yes w b h) (ev_neg (by simp) (Ev.bind (sameWords_ev _ (by show (fromW w.toNat b).length ≤ _; omega)) ?_))))
        refine Ev.step (fun k => by rw [laws_FnBitsBack.j2, if_neg (by simp)]) ?_
        refine ev_pos rfl (Ev.bind (impl_BitsOf_yes w (fromW w.toNat b) g1 g2) (ev_pos rfl ?_))
        have e := bits_from w.toNat (by omega) b h.2.1
        rw [e]
        exact Ev.bind (sameBools_ev b (by omega)) (Ev.now _)
      · refine Ev.step (fun k => by rw [laws_FnBitsBack.j1]) ?_
        refine Ev.bind hd (Ev.bind (impl_StateFrom_no w b h) (Ev.bind (spec_StateFrom_no w b (by omega) h) (ev_neg (by simp) (Ev.bind (sameWords_ev _ (by simp)) ?_))))
        refine Ev.step (fun k => by rw [laws_FnBitsBack.j2, if_neg (by simp)]) ?_
        exact ev_neg (by simp) (Ev.now _)
    obtain ⟨w, s, hd, hw0, hw5, hl, hsw⟩ := DrawBitsOf_ex h0
    by_cases h : BitsOk w s
    · have hh := h.1
      have hlen := flat_len w.toNat s
      have h20 : s.length * w.toNat ≤ 5 * 5 := Nat.mul_le_mul hl (by omega)
      have hf : FromOk w (s.flatMap (bitsW w.toNat)) := ⟨h.1, by rw [hlen, Nat.mul_mod_left], by rw [hlen, Nat.mul_div_cancel _ (by omega)]; exact h.2.1.1, by rw [hlen, Nat.mul_div_cancel _ (by omega)]; exact h.2.1.2⟩
      have e := from_bits w.toNat (by omega) s (fun a ha => (hsw a ha).1) (fun a ha => (h.2.2 a ha).2.2)
      refine Ev.bind hd (Ev.bind (impl_BitsOf_yes w s hsw h) (Ev.bind (spec_BitsOf_yes w s hsw h) (ev_neg (by simp) (Ev.bind (sameBools_ev _ (by show (s.flatMap (bitsW w.toNat)).length ≤ _; omega)) ?_))))
      refine Ev.step (fun k => by rw [laws_FnBitsBack.j0, if_neg (by simp)]) ?_
      refine ev_pos rfl (Ev.bind (impl_StateFrom_yes w _ hf) (ev_pos rfl ?_))
      rw [e]
      refine Ev.bind (sameWords_ev s (by omega)) (ev_pos rfl (ev_pos ?_ part))
      have h2 : w * (s.length : Int) = ((s.length * w.toNat : Nat) : Int) := by rw [Int.natCast_mul, Int.mul_comm]; congr 1; omega
      show ((s.flatMap (bitsW w.toNat)).length : Int) = wrap64 (w * (s.length : Int))
      rw [h2, hlen, wid_nat (by omega)]
    · refine Ev.bind hd (Ev.bind (impl_BitsOf_no w s h) (Ev.bind (spec_BitsOf_no w s hsw h) (ev_neg (by simp) (Ev.bind (sameBools_ev _ (by simp)) ?_))))
      refine Ev.step (fun k => by rw [laws_FnBitsBack.j0, if_neg (by simp)]) ?_
      exact ev_neg (by simp) part
  · exact ev_pos (by simpa using hs) (Ev.now _)

end Go.Proofs.Ytfjbdmeokbfhaaa.Pure
