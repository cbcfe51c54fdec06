/- The pure statement of the law FnDivided: what the printed functions compute makes the law true, for every input. No condition. -/
import Derived.Test.YtnobkmombpcinaaOpen
import Derived.Test.YtnobkmombpcinaaAid
import Derived.Test.YtnobkmombpcinaaMFnDivided5
set_option linter.unusedVariables false
set_option linter.unusedSimpArgs false
namespace Go.Proofs.Ytnobkmombpcinaa.Pure
open Go.RowKit Go.Proofs.YtnobkmombpcinaaW.PrintWords Go.Proofs.Ytnobkmombpcinaa.P Go.Proofs.Ytnobkmombpcinaa.Hof Go.Proofs.Ytnobkmombpcinaa.Open Go.Proofs.Ytnobkmombpcinaa.Aid
-- LEMMAS
theorem big_eq (a b : List Int) (ha : a.length ≤ 9223372036854775807) (hb : b.length ≤ 9223372036854775807) : laws_big.f a b = some (decide (¬ (a.length + b.length ≤ 1048576))) := by
  unfold laws_big.f
  by_cases h : (a.length : Int) > 1048576
  · rw [if_pos h, decide_eq_true (by omega)]
  · rw [if_neg h, wid (by omega) (by omega)]
    congr 1
    rw [decide_eq_decide]; omega

theorem wu (x : Int) : IntKind.u64.wrap x = x % 18446744073709551616 := IntKind.wrap_u64 x
theorem wu_in (x : Int) : 0 ≤ IntKind.u64.wrap x ∧ IntKind.u64.wrap x < 18446744073709551616 := by rw [wu]; omega
theorem two_pos (n : Nat) : (0 : Int) < 2 ^ n := Int.pow_pos (by decide)
theorem two_dvd {n : Nat} (h : n ≤ 64) : ((2 : Int) ^ n) ∣ 18446744073709551616 := ⟨2 ^ (64 - n), by rw [← Int.pow_add, show n + (64 - n) = 64 by omega]; rfl⟩
theorem two_le {n : Nat} (h : n ≤ 64) : ((2 : Int) ^ n) ≤ 18446744073709551616 := Int.le_of_dvd (by decide) (two_dvd h)
theorem two_nat (n : Nat) : ((2 ^ n : Nat) : Int) = (2 : Int) ^ n := by simp
theorem and_mask (a : Int) (n : Nat) (hn : n ≤ 64) (h0 : 0 ≤ a) (h1 : a < 18446744073709551616) : Go.bits .and .u64 a (2 ^ n - 1) = a % 2 ^ n := by
  obtain ⟨m, rfl⟩ := Int.eq_ofNat_of_zero_le h0
  have h2 : (2 ^ n : Nat) ≤ 18446744073709551616 := by have := two_le hn; rw [← two_nat] at this; omega
  have h3 : 0 < (2 ^ n : Nat) := Nat.two_pow_pos n
  rw [show (2 : Int) ^ n - 1 = ((2 ^ n - 1 : Nat) : Int) by rw [← two_nat]; omega, bits_and_u64_nat _ _ (by omega) (by omega), Nat.and_two_pow_sub_one_eq_mod, ← two_nat]
  rfl
theorem mask_pow : ∀ m : Nat, m < 65 → (18446744073709551615 : Nat) / 2 ^ (64 - m) = 2 ^ m - 1 := by decide
theorem shr_mask {w : Int} (h0 : 1 ≤ w) (h1 : w ≤ 64) : shr .u64 18446744073709551615 (wrap64 (64 - w)) = 2 ^ w.toNat - 1 := by
  rw [wid (by omega) (by omega)]
  have hb : IntKind.u64.bits = 64 := rfl
  simp only [shr, hb]
  rw [Nat.min_eq_left (by omega), show (64 - w).toNat = 64 - w.toNat by omega]
  have h := mask_pow w.toNat (by omega)
  have h3 : 0 < (2 ^ w.toNat : Nat) := Nat.two_pow_pos _
  rw [← two_nat, ← two_nat, show (18446744073709551615 : Int) = ((18446744073709551615 : Nat) : Int) by rfl, ← Int.natCast_ediv, h]
  omega
theorem cut_nat (a i : Nat) : (a % 2 ^ i) ||| (a &&& 2 ^ i) = a % 2 ^ (i + 1) := by
  apply Nat.eq_of_testBit_eq
  intro j
  rw [Nat.testBit_or, Nat.testBit_and, Nat.testBit_mod_two_pow, Nat.testBit_mod_two_pow, Nat.testBit_two_pow]
  by_cases h : i = j
  · subst h; simp
  · by_cases h2 : j < i
    · simp [h, h2, show j < i + 1 by omega]
    · simp [h, h2, show ¬ j < i + 1 by omega]
theorem mod_small {a : Nat} (ha : a < 18446744073709551616) {i : Nat} (h : 64 ≤ i) : a % 2 ^ i = a := by
  refine Nat.mod_eq_of_lt (Nat.lt_of_lt_of_le ha ?_)
  have := Nat.pow_le_pow_right (show 0 < 2 by decide) h
  exact this
theorem shl_one {i : Nat} (h : i < 64) : shl .u64 1 (i : Int) = ((2 ^ i : Nat) : Int) := by
  have hb : IntKind.u64.bits = 64 := rfl
  have h2 : (2 ^ i : Nat) < 18446744073709551616 := Nat.pow_lt_pow_right (by decide : 1 < 2) h
  simp only [shl, hb]
  rw [wu, Int.toNat_natCast, Nat.min_eq_left (by omega), ← two_nat, Int.one_mul]; exact Int.emod_eq_of_lt (Int.natCast_nonneg _) (Int.ofNat_lt.2 h2)
theorem shl_big {i : Nat} (h : 64 ≤ i) : shl .u64 1 (i : Int) = 0 := by
  have hb : IntKind.u64.bits = 64 := rfl
  simp only [shl, hb]
  rw [wu, Int.toNat_natCast, Nat.min_eq_right (by omega)]; rfl
theorem cut_step (a i : Nat) (ha : a < 18446744073709551616) : Go.bits .or .u64 ((a % 2 ^ i : Nat) : Int) (Go.bits .and .u64 (a : Int) (shl .u64 1 (i : Int))) = ((a % 2 ^ (i + 1) : Nat) : Int) := by
  have h1 : a % 2 ^ i ≤ a := Nat.mod_le _ _
  by_cases h : i < 64
  · have h2 : (2 ^ i : Nat) < 18446744073709551616 := Nat.pow_lt_pow_right (by decide : 1 < 2) h
    have h3 : a &&& 2 ^ i ≤ a := Nat.and_le_left
    rw [shl_one h, bits_and_u64_nat _ _ ha h2, bits_or_u64_nat _ _ (by omega) (by omega), cut_nat]
  · have e : Go.bits .and .u64 (a : Int) ((0 : Nat) : Int) = ((0 : Nat) : Int) := by rw [bits_and_u64_nat _ _ ha (by decide), Nat.and_zero]
    have e2 : Go.bits .or .u64 (a : Int) ((0 : Nat) : Int) = (a : Int) := by rw [bits_or_u64_nat _ _ ha (by decide), Nat.or_zero]
    rw [shl_big (by omega), mod_small ha (by omega), mod_small ha (by omega)]
    exact (congrArg _ e).trans e2
theorem not_nat (a : Nat) (ha : a < 18446744073709551616) : 18446744073709551615 ^^^ a = 18446744073709551615 - a := by
  rw [show 18446744073709551615 - a = 2 ^ 64 - (a + 1) by omega]
  apply Nat.eq_of_testBit_eq
  intro j
  rw [Nat.testBit_xor, Nat.testBit_two_pow_sub_succ (by omega), show (18446744073709551615 : Nat) = 2 ^ 64 - 1 by rfl, Nat.testBit_two_pow_sub_one]
  by_cases h : j < 64
  · simp [h]
  · have : a.testBit j = false := Nat.testBit_lt_two_pow (Nat.lt_of_lt_of_le ha (Nat.pow_le_pow_right (by decide : 0 < 2) (by omega : 64 ≤ j)))
    simp [h, this]
theorem not_word (a : Int) (h0 : 0 ≤ a) (h1 : a < 18446744073709551616) : Go.bits .xor .u64 18446744073709551615 a = 18446744073709551615 - a := by
  obtain ⟨m, rfl⟩ := Int.eq_ofNat_of_zero_le h0
  rw [show (18446744073709551615 : Int) = ((18446744073709551615 : Nat) : Int) by rfl, bits_xor_u64_nat _ _ (by decide) (by omega), not_nat m (by omega)]
  omega
/-- A word of a width. -/
def GW (w a : Int) : Prop := 1 ≤ w ∧ w ≤ 64 ∧ a < 2 ^ w.toNat
instance (w a : Int) : Decidable (GW w a) := by unfold GW; infer_instance
theorem GW.le {w a : Int} (h : GW w a) : a < 18446744073709551616 := by have := two_le (n := w.toNat) (by have := h.2.1; omega); have := h.2.2; omega
theorem mod_word (x : Int) {w : Int} (h : w ≤ 64) : x % 18446744073709551616 % 2 ^ w.toNat = x % 2 ^ w.toNat := Int.emod_emod_of_dvd _ (two_dvd (by omega))

/-- A cursor over drawn bytes: its place is at most n. -/
def Cu (n p s : Int) : Prop := 0 ≤ p ∧ p ≤ n ∧ 0 ≤ s ∧ s < 18446744073709551616
theorem Cu.up {n m p s : Int} (h : Cu n p s) (hm : n ≤ m) : Cu m p s := ⟨h.1, by have := h.2.1; omega, h.2.2⟩
theorem Cu.zero : Cu 0 0 0 := ⟨by omega, by omega, by omega, by omega⟩
theorem emod_self_le {x a : Int} (h : 0 ≤ x) (ha : 0 < a := by omega) : x % a ≤ x := by
  have h1 := Int.emod_add_mul_ediv x a
  have h2 : 0 ≤ a * (x / a) := Int.mul_nonneg (by omega) (Int.ediv_nonneg h (by omega))
  omega

theorem byte_of (X : Int) (h0 : 0 ≤ X) (h1 : X < 18446744073709551616) : Go.bits .and .u64 (X / 1099511627776) 255 = X / 1099511627776 % 256 := by
  have := and_mask (X / 1099511627776) 8 (by omega) (by omega) (by omega)
  simpa using this
theorem next_ex {l : List Int} (hl : l.length ≤ 9223372036854775807 ∧ ∀ x ∈ l, InU8 x) {n p s : Int} (h : Cu n p s) (hn : n < 4611686018427387904) :
    ∃ v p' s', spec_l1Cur_next.f l p s = some (v, p', s') ∧ 0 ≤ v ∧ v ≤ 255 ∧ Cu (n + 1) p' s' := by
  obtain ⟨h1, h2, h3, h4⟩ := h
  unfold spec_l1Cur_next.f
  have e : wrap64 (p + 1) = p + 1 := wid (by omega) (by omega)
  rw [e]
  have fin : ∀ v S : Int, (0 ≤ v ∧ v ≤ 255) → (0 ≤ S ∧ S < 18446744073709551616) → ∃ v' p' s', some (v, p + 1, S) = some (v', p', s') ∧ 0 ≤ v' ∧ v' ≤ 255 ∧ Cu (n + 1) p' s' := fun v S hv hS => ⟨v, p + 1, S, rfl, hv.1, hv.2, by omega, by omega, hS.1, hS.2⟩
  have big : ∀ X : Int, (0 ≤ X ∧ X < 18446744073709551616) → 0 ≤ wrap64 (Go.bits .and .u64 (X / 1099511627776) 255) ∧ wrap64 (Go.bits .and .u64 (X / 1099511627776) 255) ≤ 255 := fun X hX => by
    rw [byte_of X hX.1 hX.2, wid (by omega) (by omega)]; omega
  by_cases hp : p < (l.length : Int)
  · rw [if_pos hp, if_pos h1, if_pos (by omega)]
    refine fin _ _ ?_ (wu_in _)
    obtain ⟨j, rfl⟩ := Int.eq_ofNat_of_zero_le h1
    have hm := hl.2 _ (getD_mem (l := l) (j := j) (by omega) 0)
    have hm1 := hm.1; have hm2 := hm.2
    rw [show rd l ((j : Nat) : Int) = l.getD j 0 from rd_nat l j, wid (by omega) (by omega)]
    exact hm
  · rw [if_neg hp]
    by_cases h5 : p + 1 ≤ (l.length : Int)
    · omega
    · rw [if_neg h5]
      exact fin _ _ (big _ (wu_in _)) (wu_in _)

theorem pick_ex {l : List Int} (hl : l.length ≤ 9223372036854775807 ∧ ∀ x ∈ l, InU8 x) {n p s : Int} (h : Cu n p s) (hn : n < 4611686018427387900) (a : Int) (ha : a ≤ 9223372036854775807) :
    ∃ v p' s', spec_l1Cur_pick.f l p s a = some (v, p', s') ∧ 0 ≤ v ∧ v ≤ 65535 ∧ (1 ≤ a → v < a) ∧ Cu (n + 2) p' s' := by
  unfold spec_l1Cur_pick.f
  by_cases h1 : a ≤ 1
  · rw [if_pos h1]; exact ⟨0, p, s, rfl, by omega, by omega, by omega, h.up (by omega)⟩
  · rw [if_neg h1]
    obtain ⟨v, p1, s1, e1, hv0, hv1, hc1⟩ := next_ex hl h (by omega)
    rw [e1, Option.bind_some]
    by_cases h2 : a > 200
    · rw [if_pos h2]
      obtain ⟨u, p2, s2, e2, hu0, hu1, hc2⟩ := next_ex hl hc1 (by omega)
      simp only
      rw [e2, Option.bind_some, if_neg (by omega)]
      refine ⟨_, p2, s2, rfl, ?_⟩
      simp only
      rw [wid (x := v * 256) (by omega) (by omega), wid (by omega) (by omega), Int.tmod_eq_emod_of_nonneg (by omega)]
      have h3 := Int.emod_nonneg (v * 256 + u) (show a ≠ 0 by omega)
      have h4 := Int.emod_lt_of_pos (v * 256 + u) (show 0 < a by omega)
      have h5 : (v * 256 + u) % a ≤ v * 256 + u := emod_self_le (by omega)
      exact ⟨h3, by omega, fun _ => h4, hc2.up (by omega)⟩
    · rw [if_neg h2, if_neg (by omega)]
      refine ⟨_, p1, s1, rfl, ?_⟩
      simp only
      rw [Int.tmod_eq_emod_of_nonneg (by omega)]
      have h3 := Int.emod_nonneg v (show a ≠ 0 by omega)
      have h4 := Int.emod_lt_of_pos v (show 0 < a by omega)
      exact ⟨h3, by omega, fun _ => h4, hc1.up (by omega)⟩

theorem among_ex {l : List Int} (hl : l.length ≤ 9223372036854775807 ∧ ∀ x ∈ l, InU8 x) {n p s : Int} (h : Cu n p s) (hn : n < 4611686018427387900) (xs : List Int) (hx : 1 ≤ xs.length) (hx2 : xs.length ≤ 1048576) :
    ∃ v p' s', spec_l1Cur_among.f l p s xs = some (v, p', s') ∧ v ∈ xs ∧ Cu (n + 2) p' s' := by
  obtain ⟨v, p', s', e, h0, _, h2, hc⟩ := pick_ex hl h hn (xs.length : Int) (by omega)
  have h2 := h2 (by omega)
  refine ⟨rd xs v, p', s', ?_, ?_, hc⟩
  · unfold spec_l1Cur_among.f
    rw [e, Option.bind_some, if_pos h0, if_pos h2]
  · obtain ⟨j, rfl⟩ := Int.eq_ofNat_of_zero_le h0
    rw [show rd xs ((j : Nat) : Int) = xs.getD j 0 from rd_nat xs j]
    exact getD_mem (by omega) 0

theorem width_ex {l : List Int} (hl : l.length ≤ 9223372036854775807 ∧ ∀ x ∈ l, InU8 x) {n p s : Int} (h : Cu n p s) (hn : n < 4611686018427387900) :
    ∃ v p' s', spec_l1Cur_width.f l p s = some (v, p', s') ∧ 0 ≤ v ∧ v ≤ 65 ∧ Cu (n + 2) p' s' := by
  obtain ⟨v, p', s', e, hv, hc⟩ := among_ex hl h hn [1, 2, 3, 4, 8, 16, 32, 63, 64, 0, 65] (by simp) (by simp)
  refine ⟨v, p', s', by unfold spec_l1Cur_width.f; rw [e]; rfl, ?_, ?_, hc⟩
  all_goals (simp only [List.mem_cons, List.not_mem_nil, or_false] at hv; omega)

theorem l1Cut_l0 (a : Nat) (ha : a < 18446744073709551616) (w : Int) (hw : w ≤ 65) (d : Nat) : ∀ i : Nat, (i : Int) + d = max w 0 → Ev (fun k => spec_l1Cut.l0 k w (a : Int) ((a % 2 ^ i : Nat) : Int) (i : Int)) ((a % 2 ^ w.toNat : Nat) : Int) := by
  induction d with
  | zero =>
    intro i hi
    refine ev_eq (Ev.step (f := fun _ => some ((a % 2 ^ i : Nat) : Int)) (fun k => by simp only [spec_l1Cut.l0]; rw [if_neg (by omega)]) (Ev.now _)) ?_
    rw [show w.toNat = i by omega]
  | succ d ih =>
    intro i hi
    have e : IntKind.u64.wrap (i : Int) = (i : Int) := by rw [wu]; omega
    exact Ev.step (fun k => by simp only [spec_l1Cut.l0]; rw [if_pos (by omega), e, if_pos (by omega), cut_step a i ha, wsucc (by omega)]) (ih (i + 1) (by omega))
theorem l1Cut_ev (w a : Int) (hw : w ≤ 65) (h0 : 0 ≤ a) (h1 : a < 18446744073709551616) : Ev (fun k => spec_l1Cut.f k w a) (a % 2 ^ w.toNat) := by
  obtain ⟨m, rfl⟩ := Int.eq_ofNat_of_zero_le h0
  have := l1Cut_l0 m (by omega) w hw (max w 0).toNat 0 (by omega)
  rw [show m % 2 ^ 0 = 0 by simp [Nat.mod_one]] at this
  exact ev_eq this (by rw [← two_nat]; rfl)

theorem long_l0 {l : List Int} (hl : l.length ≤ 9223372036854775807 ∧ ∀ x ∈ l, InU8 x) (d : Nat) : ∀ (j : Nat) (x n p s : Int), j + d = 8 → Cu n p s → n + d < 4611686018427387810 → 0 ≤ x → x < 18446744073709551616 →
    ∃ v p' s', Ev (fun k => spec_l1Cur_long.l0 k x (j : Int) l p s) (v, p', s') ∧ 0 ≤ v ∧ v < 18446744073709551616 ∧ Cu (n + d) p' s' := by
  induction d with
  | zero =>
    intro j x n p s hj hc hn h0 h1
    exact ⟨x, p, s, Ev.step (f := fun _ => some (x, p, s)) (fun k => by simp only [spec_l1Cur_long.l0]; rw [if_neg (by omega)]) (Ev.now _), h0, h1, by simpa using hc⟩
  | succ d ih =>
    intro j x n p s hj hc hn h0 h1
    obtain ⟨v, p1, s1, e1, hv0, hv1, hc1⟩ := next_ex hl hc (by omega)
    have hx := wu_in (x * 256)
    obtain ⟨a, ea⟩ := Int.eq_ofNat_of_zero_le hx.1
    obtain ⟨b, rfl⟩ := Int.eq_ofNat_of_zero_le hv0
    have ho : (a ||| b : Nat) < 18446744073709551616 := Nat.or_lt_two_pow (n := 64) (by omega) (by omega)
    have eo : Go.bits .or .u64 (IntKind.u64.wrap (x * 256)) (IntKind.u64.wrap (b : Int)) = ((a ||| b : Nat) : Int) := by
      rw [ea, show IntKind.u64.wrap (b : Int) = (b : Int) by rw [wu]; omega, bits_or_u64_nat _ _ (by omega) (by omega)]
    generalize a ||| b = c at ho eo
    obtain ⟨v', p', s', e', h2, h3, h4⟩ := ih (j + 1) (c : Int) (n + 1) p1 s1 (by omega) hc1 (by omega) (Int.natCast_nonneg _) (Int.ofNat_lt.2 ho)
    refine ⟨v', p', s', ?_, h2, h3, h4.up (by omega)⟩
    refine Ev.step (fun k => by simp only [spec_l1Cur_long.l0]; rw [if_pos (by omega), e1, Option.bind_some]; simp only; rw [eo, wsucc (by omega)]) e'
theorem long_ex {l : List Int} (hl : l.length ≤ 9223372036854775807 ∧ ∀ x ∈ l, InU8 x) {n p s : Int} (h : Cu n p s) (hn : n < 4611686018427387800) :
    ∃ v p' s', Ev (fun k => spec_l1Cur_long.f k l p s) (v, p', s') ∧ 0 ≤ v ∧ v < 18446744073709551616 ∧ Cu (n + 8) p' s' :=
  long_l0 hl 8 0 0 n p s (by omega) h (by omega) (by omega) (by omega)

theorem one_ex {l : List Int} (hl : l.length ≤ 9223372036854775807 ∧ ∀ x ∈ l, InU8 x) {n p s : Int} (h : Cu n p s) (hn : n < 4611686018427387900) (a : Int) (ha : a ≤ 9223372036854775807) :
    ∃ b p' s', spec_l1Cur_one.f l p s a = some (b, p', s') ∧ Cu (n + 2) p' s' := by
  obtain ⟨v, p', s', e, _, _, _, hc⟩ := pick_ex hl h hn a ha
  exact ⟨v == 0, p', s', by unfold spec_l1Cur_one.f; rw [e]; rfl, hc⟩

theorem word_j0 {l : List Int} (hl : l.length ≤ 9223372036854775807 ∧ ∀ x ∈ l, InU8 x) {n p s : Int} (h : Cu n p s) (hn : n < 4611686018427387800) (w x : Int) (hw : w ≤ 65) (h0 : 0 ≤ x) (h1 : x < 18446744073709551616) :
    ∃ v p' s', Ev (fun k => spec_l1Cur_word.j0 k w x l p s) (v, p', s') ∧ 0 ≤ v ∧ v < 18446744073709551616 ∧ Cu (n + 2) p' s' := by
  obtain ⟨b, p', s', e, hc⟩ := one_ex hl h (by omega) 30 (by omega)
  cases b with
  | true => exact ⟨x, p', s', Ev.step (f := fun _ => some (x, p', s')) (fun k => by simp only [spec_l1Cur_word.j0]; rw [e, Option.bind_some, if_pos rfl]) (Ev.now _), h0, h1, hc⟩
  | false =>
    have hp := two_pos w.toNat
    refine ⟨x % 2 ^ w.toNat, p', s', Ev.step (fun k => by simp only [spec_l1Cur_word.j0]; rw [e, Option.bind_some, if_neg (by simp)]) (Ev.bind (l1Cut_ev w x hw h0 h1) (Ev.now _)), Int.emod_nonneg _ (by omega), ?_, hc⟩
    have := emod_self_le (a := 2 ^ w.toNat) h0 hp
    omega
theorem word_ex {l : List Int} (hl : l.length ≤ 9223372036854775807 ∧ ∀ x ∈ l, InU8 x) {n p s : Int} (h : Cu n p s) (hn : n < 4611686018427387700) (w : Int) (hw : w ≤ 65) :
    ∃ v p' s', Ev (fun k => spec_l1Cur_word.f k l p s w) (v, p', s') ∧ 0 ≤ v ∧ v < 18446744073709551616 ∧ Cu (n + 14) p' s' := by
  obtain ⟨x, p1, s1, e1, hx0, hx1, _, hc1⟩ := pick_ex hl h (by omega) 5 (by omega)
  obtain ⟨y, p2, s2, e2, hy0, hy1, _, hc2⟩ := pick_ex hl hc1 (by omega) 5 (by omega)
  by_cases h0 : y = 0
  · obtain ⟨u, p3, s3, e3, hu0, hu1, hc3⟩ := long_ex hl hc2 (by omega)
    obtain ⟨v, p', s', ev, hv0, hv1, hc⟩ := word_j0 hl hc3 (by omega) w u hw hu0 hu1
    exact ⟨v, p', s', Ev.bind (ev_const e1) (Ev.bind (ev_const e2) (ev_pos h0 (Ev.bind e3 ev))), hv0, hv1, hc.up (by omega)⟩
  · by_cases h1 : y = 1
    · obtain ⟨u, p3, s3, e3, _, _, _, hc3⟩ := pick_ex hl hc2 (by omega) 3 (by omega)
      have hw2 := wu_in (18446744073709551615 - IntKind.u64.wrap u)
      obtain ⟨v, p', s', ev, hv0, hv1, hc⟩ := word_j0 hl hc3 (by omega) w _ hw hw2.1 hw2.2
      exact ⟨v, p', s', Ev.bind (ev_const e1) (Ev.bind (ev_const e2) (ev_neg h0 (ev_pos h1 (Ev.bind (ev_const e3) ev)))), hv0, hv1, hc.up (by omega)⟩
    · by_cases h2 : y = 2
      · obtain ⟨u, p3, s3, e3, hu0, _, _, hc3⟩ := pick_ex hl hc2 (by omega) 64 (by omega)
        have hs : 0 ≤ shl .u64 1 (IntKind.u64.wrap u) ∧ shl .u64 1 (IntKind.u64.wrap u) < 18446744073709551616 := wu_in _
        obtain ⟨v, p', s', ev, hv0, hv1, hc⟩ := word_j0 hl hc3 (by omega) w _ hw hs.1 hs.2
        exact ⟨v, p', s', Ev.bind (ev_const e1) (Ev.bind (ev_const e2) (ev_neg h0 (ev_neg h1 (ev_pos h2 (Ev.bind (ev_const e3) (ev_pos (wu_in u).1 ev)))))), hv0, hv1, hc.up (by omega)⟩
      · have hw2 := wu_in x
        obtain ⟨v, p', s', ev, hv0, hv1, hc⟩ := word_j0 hl hc2 (by omega) w _ hw hw2.1 hw2.2
        exact ⟨v, p', s', Ev.bind (ev_const e1) (Ev.bind (ev_const e2) (ev_neg h0 (ev_neg h1 (ev_neg h2 ev)))), hv0, hv1, hc.up (by omega)⟩

theorem DrawAddWord_ex {l : List Int} (hl : l.length ≤ 9223372036854775807 ∧ ∀ x ∈ l, InU8 x) :
    ∃ w a b, Ev (fun k => spec_DrawAddWord.f k l) (w, a, b) ∧ 0 ≤ a ∧ a < 18446744073709551616 ∧ 0 ≤ b ∧ b < 18446744073709551616 := by
  obtain ⟨w, p1, s1, e1, hw0, hw1, hc1⟩ := width_ex hl Cu.zero (by omega)
  obtain ⟨a, p2, s2, e2, ha0, ha1, hc2⟩ := word_ex hl hc1 (by omega) w hw1
  obtain ⟨b, p3, s3, e3, hb0, hb1, hc3⟩ := word_ex hl hc2 (by omega) w hw1
  exact ⟨w, a, b, Ev.bind (ev_const e1) (Ev.bind e2 (Ev.bind e3 (Ev.now _))), ha0, ha1, hb0, hb1⟩

theorem DrawDivWord_ex {l : List Int} (hl : l.length ≤ 9223372036854775807 ∧ ∀ x ∈ l, InU8 x) :
    ∃ w a b, Ev (fun k => spec_DrawDivWord.f k l) (w, a, b) ∧ 0 ≤ a ∧ a < 18446744073709551616 ∧ 0 ≤ b ∧ b < 18446744073709551616 := by
  obtain ⟨w, a, b, h, h1, h2, h3, h4⟩ := DrawAddWord_ex hl
  exact ⟨w, a, b, Ev.bind h (Ev.now _), h1, h2, h3, h4⟩

theorem mask_eq {w : Int} (h0 : 1 ≤ w) (h1 : w ≤ 64) : impl_mask.f w = some (2 ^ w.toNat - 1) := by
  unfold impl_mask.f
  rw [if_pos (by rw [wid (by omega) (by omega)]; omega), shr_mask h0 h1]

theorem isWide_eq (w : Int) : impl_isWide.f w = some (decide (1 ≤ w ∧ w ≤ 64)) := by
  unfold impl_isWide.f
  by_cases h : w ≥ 1
  · rw [if_pos h]; simp [show (1 : Int) ≤ w by omega]
  · rw [if_neg h]; simp [show ¬ (1 : Int) ≤ w by omega]

theorem impl_GoodWord_eq (w a : Int) : impl_GoodWord.f w a = some (decide (GW w a)) := by
  unfold impl_GoodWord.f
  rw [isWide_eq, Option.bind_some]
  by_cases h : 1 ≤ w ∧ w ≤ 64
  · rw [decide_eq_true h, if_pos rfl, mask_eq h.1 h.2, Option.bind_some]
    congr 1
    rw [decide_eq_decide]
    exact ⟨fun g => ⟨h.1, h.2, by omega⟩, fun g => by have := g.2.2; omega⟩
  · rw [decide_eq_false h, if_neg (by simp), decide_eq_false (fun g => h ⟨g.1, g.2.1⟩)]

theorem areWords_eq (w a b : Int) : impl_areWords.f w a b = some (decide (GW w a ∧ GW w b)) := by
  unfold impl_areWords.f
  rw [impl_GoodWord_eq, impl_GoodWord_eq, Option.bind_some]
  by_cases h : GW w a
  · rw [decide_eq_true h, if_pos rfl, Option.bind_some]; simp [h]
  · rw [decide_eq_false h, if_neg (by simp)]; simp [h]

theorem quo_word {a b : Int} (h0 : 0 ≤ a) (h1 : a < 18446744073709551616) (hb : 0 < b) : IntKind.u64.wrap (Int.tdiv a b) = a / b ∧ Int.tmod a b = a % b := by
  have h2 : 0 ≤ a / b := Int.ediv_nonneg h0 (by omega)
  have h3 : a / b ≤ a := Int.ediv_le_self b h0
  rw [Int.tdiv_eq_ediv_of_nonneg h0, Int.tmod_eq_emod_of_nonneg h0, wu]
  exact ⟨Int.emod_eq_of_lt h2 (by omega), rfl⟩
theorem DivWord_no {w a b : Int} (h : ¬ (GW w a ∧ GW w b)) : impl_DivWord.f w a b = some (0, 0, false) := by
  unfold impl_DivWord.f
  rw [areWords_eq, Option.bind_some, decide_eq_false h, if_neg (by simp)]
theorem DivWord_zero {w a : Int} (ha : GW w a) (hb : GW w 0) : impl_DivWord.f w a 0 = some (2 ^ w.toNat - 1, a, true) := by
  unfold impl_DivWord.f
  rw [areWords_eq, Option.bind_some, decide_eq_true (And.intro ha hb), if_pos rfl, if_pos rfl, mask_eq ha.1 ha.2.1, Option.bind_some]
theorem DivWord_yes {w a b : Int} (ha : GW w a) (hb : GW w b) (h0 : 0 ≤ a) (hb0 : 0 < b) : impl_DivWord.f w a b = some (a / b, a % b, true) := by
  unfold impl_DivWord.f
  obtain ⟨e1, e2⟩ := quo_word h0 ha.le hb0
  rw [areWords_eq, Option.bind_some, decide_eq_true (And.intro ha hb), if_pos rfl, if_neg (by omega), bits_Div64.f, if_pos ⟨rfl, hb0⟩, Option.bind_some, e1, e2]

theorem l1In_eq (n lo hi : Int) : spec_l1In.f n lo hi = some (decide (lo ≤ n ∧ n ≤ hi)) := by
  simp only [spec_l1In.f]
  by_cases h : n ≥ lo
  · rw [if_pos h]; congr 1; simp; intro _; exact h
  · rw [if_neg h]; congr 1; simp; intro h'; omega
theorem l1In_tells (n lo hi : Int) : Tells (fun _ => spec_l1In.f n lo hi) (lo ≤ n ∧ n ≤ hi) := by
  simp only [l1In_eq]; exact tells_some (by simp)

theorem l1Wide_eq (w : Int) : spec_l1Wide.f w = some (decide (1 ≤ w ∧ w ≤ 64)) := by
  unfold spec_l1Wide.f; rw [l1In_eq]; rfl

theorem spec_GoodWord_tells (w a : Int) (h0 : 0 ≤ a) (h1 : a < 18446744073709551616) : Tells (fun k => spec_GoodWord.f k w a) (GW w a) := by
  refine tells_bind (ev_const (l1Wide_eq w)) ?_
  by_cases h : 1 ≤ w ∧ w ≤ 64
  · refine tells_pos (by simpa using h) (tells_bind (l1Cut_ev w a (by omega) h0 h1) (tells_some ?_))
    have := two_pos w.toNat
    constructor
    · intro g
      have g : a % 2 ^ w.toNat = a := by simpa using g
      exact ⟨h.1, h.2, by have := Int.emod_lt_of_pos a this; omega⟩
    · intro g
      rw [Int.emod_eq_of_lt h0 g.2.2]; simp
  · exact tells_neg (by simpa using h) (tells_no (fun g => h ⟨g.1, g.2.1⟩))

theorem l1Both_tells (w a b : Int) (ha0 : 0 ≤ a) (ha1 : a < 18446744073709551616) (hb0 : 0 ≤ b) (hb1 : b < 18446744073709551616) : Tells (fun k => spec_l1Both.f k w a b) (GW w a ∧ GW w b) := by
  refine tells_ask (spec_GoodWord_tells w a ha0 ha1) (fun h => tells_pos rfl ?_) (fun h => tells_neg (by simp) (tells_no (fun g => h g.1)))
  obtain ⟨c, hc, e⟩ := spec_GoodWord_tells w b hb0 hb1
  exact ⟨c, Ev.bind hc (Ev.now _), e.trans ⟨fun g => ⟨h, g⟩, fun g => g.2⟩⟩

theorem spec_DivWord_no {w a b : Int} (h : ¬ (GW w a ∧ GW w b)) (ha0 : 0 ≤ a) (ha1 : a < 18446744073709551616) (hb0 : 0 ≤ b) (hb1 : b < 18446744073709551616) : Ev (fun k => spec_DivWord.f k w a b) (0, 0, false) :=
  Ev.bind (tells_ev_not (l1Both_tells w a b ha0 ha1 hb0 hb1) h) (ev_neg (by simp) (Ev.now _))
theorem spec_DivWord_zero {w a : Int} (ha : GW w a) (hb : GW w 0) (h0 : 0 ≤ a) : Ev (fun k => spec_DivWord.f k w a 0) (18446744073709551615 % 2 ^ w.toNat, a, true) :=
  Ev.bind (tells_ev (l1Both_tells w a 0 h0 ha.le (by omega) (by omega)) ⟨ha, hb⟩) (ev_pos rfl (ev_pos rfl (Ev.bind (l1Cut_ev w _ (by have := ha.2.1; omega) (by omega) (by omega)) (Ev.now _))))
theorem spec_DivWord_yes {w a b : Int} (ha : GW w a) (hb : GW w b) (h0 : 0 ≤ a) (hb0 : 0 < b) : Ev (fun k => spec_DivWord.f k w a b) (a / b, a % b, true) := by
  obtain ⟨e1, e2⟩ := quo_word h0 ha.le hb0
  refine Ev.bind (tells_ev (l1Both_tells w a b h0 ha.le (by omega) hb.le) ⟨ha, hb⟩) (ev_pos rfl (ev_neg (by omega) ?_))
  rw [e1, e2]; exact Ev.now _

theorem impl_MulWord_yes {w a b : Int} (ha : GW w a) (hb : GW w b) : impl_MulWord.f w a b = some ((a * b) % 2 ^ w.toNat, true) := by
  unfold impl_MulWord.f
  have h := wu_in (a * b)
  rw [areWords_eq, Option.bind_some, decide_eq_true (And.intro ha hb), if_pos rfl, mask_eq ha.1 ha.2.1, Option.bind_some, and_mask _ _ (by have := ha.2.1; omega) h.1 h.2, wu, mod_word _ ha.2.1]
theorem impl_MulWord_no {w a b : Int} (h : ¬ (GW w a ∧ GW w b)) : impl_MulWord.f w a b = some (0, false) := by
  unfold impl_MulWord.f
  rw [areWords_eq, Option.bind_some, decide_eq_false h, if_neg (by simp)]

theorem impl_AddWord_yes {w a b : Int} (ha : GW w a) (hb : GW w b) : impl_AddWord.f w a b = some ((a + b) % 2 ^ w.toNat, true) := by
  unfold impl_AddWord.f
  have h := wu_in (a + b)
  rw [areWords_eq, Option.bind_some, decide_eq_true (And.intro ha hb), if_pos rfl, mask_eq ha.1 ha.2.1, Option.bind_some, and_mask _ _ (by have := ha.2.1; omega) h.1 h.2, wu, mod_word _ ha.2.1]
theorem impl_AddWord_no {w a b : Int} (h : ¬ (GW w a ∧ GW w b)) : impl_AddWord.f w a b = some (0, false) := by
  unfold impl_AddWord.f
  rw [areWords_eq, Option.bind_some, decide_eq_false h, if_neg (by simp)]

theorem numberOf_l0 (l : List Int) (hl : l.length ≤ 1048576 ∧ ∀ x ∈ l, InU8 x) (d : Nat) : ∀ (j : Nat) (x : Int), j + d = l.length → 0 ≤ x → x < 1000003 → ∃ r, Ev (fun k => laws_numberOf.l0 k x l (l.length : Int) (j : Int)) r ∧ 0 ≤ r ∧ r < 1000003 := by
  induction d with
  | zero =>
    intro j x hj h0 h1
    exact ⟨x, Ev.step (f := fun _ => some x) (fun k => by simp only [laws_numberOf.l0]; rw [if_neg (by omega)]) (Ev.now _), h0, h1⟩
  | succ d ih =>
    intro j x hj h0 h1
    have hm := hl.2 _ (getD_mem (l := l) (j := j) (by omega) 0)
    have hm1 := hm.1; have hm2 := hm.2
    obtain ⟨r, hr, h2, h3⟩ := ih (j + 1) ((31 * x + l.getD j 0).tmod 1000003) (by omega) (by rw [Int.tmod_eq_emod_of_nonneg (by omega)]; omega) (by rw [Int.tmod_eq_emod_of_nonneg (by omega)]; omega)
    refine ⟨r, ?_, h2, h3⟩
    exact Ev.step (fun k => by simp only [laws_numberOf.l0]; rw [if_pos (by omega), if_pos (by omega), if_pos (by omega), rd_nat, wid (x := l.getD j 0) (by omega) (by omega), wid (x := 31 * x) (by omega) (by omega), wid (by omega) (by omega), wsucc (by omega)]) hr
theorem numberOf_ex (l : List Int) (hl : l.length ≤ 1048576 ∧ ∀ x ∈ l, InU8 x) : ∃ r, Ev (fun k => laws_numberOf.f k l) r ∧ 0 ≤ r ∧ r < 1000003 := numberOf_l0 l hl l.length 0 0 (by omega) (by omega) (by omega)

theorem shl_word {a : Int} {n : Nat} (hn : n < 64) : shl .u64 a (n : Int) = (a * 2 ^ n) % 18446744073709551616 := by
  have hb : IntKind.u64.bits = 64 := rfl
  simp only [shl, hb]
  rw [Int.toNat_natCast, Nat.min_eq_left (by omega), wu]
theorem shr_word {a : Int} {n : Nat} (hn : n < 64) : shr .u64 a (n : Int) = a / 2 ^ n := by
  have hb : IntKind.u64.bits = 64 := rfl
  simp only [shr, hb]
  rw [Int.toNat_natCast, Nat.min_eq_left (by omega)]
theorem ShiftWord_left {w a : Int} {n : Nat} (ha : GW w a) (hn : GW w n) (h : (n : Int) < w) : impl_ShiftWord.f w a n true = some ((a * 2 ^ n) % 2 ^ w.toNat, true) := by
  have h2 := ha.2.1
  have ew : IntKind.u64.wrap w = w := by rw [wu]; omega
  have hw := wu_in (a * 2 ^ n)
  have e : impl_shift.f w a n true = some ((a * 2 ^ n) % 2 ^ w.toNat) := by
    unfold impl_shift.f
    rw [ew, if_neg (by omega), if_pos rfl, if_pos (by omega), mask_eq ha.1 h2, Option.bind_some, shl_word (by omega), ← wu, and_mask _ _ (by omega) hw.1 hw.2, wu, mod_word _ h2]
  unfold impl_ShiftWord.f
  rw [areWords_eq, Option.bind_some, decide_eq_true (And.intro ha hn), if_pos rfl, e, Option.bind_some]
theorem ShiftWord_right {w a : Int} {n : Nat} (ha : GW w a) (hn : GW w n) (h : (n : Int) < w) : impl_ShiftWord.f w a n false = some (a / 2 ^ n, true) := by
  have h2 := ha.2.1
  have ew : IntKind.u64.wrap w = w := by rw [wu]; omega
  have e : impl_shift.f w a n false = some (a / 2 ^ n) := by
    unfold impl_shift.f
    rw [ew, if_neg (by omega), if_neg (by simp), if_pos (by omega), shr_word (by omega)]
  unfold impl_ShiftWord.f
  rw [areWords_eq, Option.bind_some, decide_eq_true (And.intro ha hn), if_pos rfl, e, Option.bind_some]

/-- The signed value of a word. -/
def sgn (w a : Int) : Int := if a * 2 ^ (64 - w.toNat) < 9223372036854775808 then a else a - 2 ^ w.toNat
theorem signed_eq {w a : Int} (h : GW w a) (h0 : 0 ≤ a) : impl_signed.f w a = some (sgn w a) := by
  unfold impl_signed.f
  obtain ⟨h1, h2, h3⟩ := h
  have e : wrap64 (64 - w) = 64 - w := wid (by omega) (by omega)
  have hb : IntKind.u64.bits = 64 := rfl
  have hb2 : IntKind.i64.bits = 64 := rfl
  rw [e, if_pos (by omega)]
  simp only [shl, shr, hb, hb2]
  rw [show (64 - w).toNat = 64 - w.toNat by omega, Nat.min_eq_left (by omega), wu]
  have hp := two_pos (64 - w.toNat)
  have hM : (2 : Int) ^ w.toNat * 2 ^ (64 - w.toNat) = 18446744073709551616 := by rw [← Int.pow_add, show w.toNat + (64 - w.toNat) = 64 by omega]; rfl
  have hA0 : 0 ≤ a * 2 ^ (64 - w.toNat) := Int.mul_nonneg h0 (by omega)
  have hA1 : a * 2 ^ (64 - w.toNat) < 18446744073709551616 := by rw [← hM]; exact Int.mul_lt_mul_of_pos_right h3 hp
  rw [Int.emod_eq_of_lt hA0 hA1]
  unfold sgn
  by_cases hs : a * 2 ^ (64 - w.toNat) < 9223372036854775808
  · rw [if_pos hs, wid (by omega) (by omega), Int.mul_ediv_cancel _ (by omega)]
  · rw [if_neg hs, show wrap64 (a * 2 ^ (64 - w.toNat)) = a * 2 ^ (64 - w.toNat) - 18446744073709551616 by unfold wrap64; omega, ← hM, ← Int.sub_mul, Int.mul_ediv_cancel _ (by omega)]
theorem sgn_mod {w a : Int} (h : GW w a) (h0 : 0 ≤ a) : sgn w a % 2 ^ w.toNat = a := by
  unfold sgn
  split
  · exact Int.emod_eq_of_lt h0 h.2.2
  · rw [Int.sub_emod_right, Int.emod_eq_of_lt h0 h.2.2]

theorem impl_SignedOf_yes {w a : Int} (h : GW w a) (h0 : 0 ≤ a) : impl_SignedOf.f w a = some (sgn w a, true) := by
  unfold impl_SignedOf.f
  rw [impl_GoodWord_eq, Option.bind_some, decide_eq_true h, if_pos rfl, signed_eq h h0, Option.bind_some]

theorem impl_CutTo_yes {w a : Int} (h0 : 1 ≤ w) (h1 : w ≤ 64) (ha0 : 0 ≤ a) (ha1 : a < 18446744073709551616) : impl_CutTo.f w a = some (a % 2 ^ w.toNat, true) := by
  unfold impl_CutTo.f
  rw [isWide_eq, Option.bind_some, decide_eq_true ⟨h0, h1⟩, if_pos rfl, mask_eq h0 h1, Option.bind_some, and_mask _ _ (by omega) ha0 ha1]

theorem impl_FromSigned_yes {w : Int} (h0 : 1 ≤ w) (h1 : w ≤ 64) (n : Int) : impl_FromSigned.f w n = some (n % 2 ^ w.toNat, true) := by
  unfold impl_FromSigned.f
  have h := wu_in n
  rw [impl_CutTo_yes h0 h1 h.1 h.2, Option.bind_some, wu, mod_word _ h1]

theorem impl_LessSigned_yes {w a b : Int} (ha : GW w a) (hb : GW w b) (ha0 : 0 ≤ a) (hb0 : 0 ≤ b) : impl_LessSigned.f w a b = some (decide (sgn w a < sgn w b), true) := by
  unfold impl_LessSigned.f
  rw [areWords_eq, Option.bind_some, decide_eq_true (And.intro ha hb), if_pos rfl, signed_eq ha ha0, Option.bind_some, signed_eq hb hb0, Option.bind_some]

theorem divided_j1 (l1 : List Int) (h1 : l1.length ≤ 1048576 ∧ ∀ x ∈ l1, InU8 x) {w a b : Int} (ha : GW w a) (hb : GW w b) (ha0 : 0 ≤ a) (hb0 : 0 ≤ b) : Ev (fun k => laws_FnDivided.j1 k l1 w a b false) true := by
  obtain ⟨c, hc, hc0, hc1⟩ := numberOf_ex l1 h1
  obtain ⟨hw0, hw1, haM⟩ := id ha
  have hM := two_pos w.toNat
  refine Ev.step (fun k => by simp only [laws_FnDivided.j1]; rw [if_neg (by simp)]) ?_
  refine Ev.bind hc (ev_neg (show ¬ w = 0 by omega) ?_)
  have hm0 := Int.emod_nonneg c (show w ≠ 0 by omega)
  have hm1 := Int.emod_lt_of_pos c (show 0 < w by omega)
  have en : IntKind.u64.wrap (Int.tmod c w) = c % w := by rw [Int.tmod_eq_emod_of_nonneg hc0, wu]; omega
  rw [en]
  obtain ⟨n, hn⟩ := Int.eq_ofNat_of_zero_le hm0
  rw [hn] at hm1 ⊢
  refine ev_ask (spec_GoodWord_tells w n (by omega) (by omega)) (fun hg => ev_pos rfl (ev_pos (by omega) ?_)) (fun _ => ev_neg (by simp) (Ev.now _))
  have hnw : n < w.toNat := by omega
  have hp := two_pos n
  have hlt : (2 : Int) ^ n < 2 ^ w.toNat := by
    rw [← two_nat, ← two_nat]
    exact Int.ofNat_lt.2 (Nat.pow_lt_pow_right (by decide) hnw)
  have hM64 := two_le (n := w.toNat) (by omega)
  have ep : shl .u64 1 (n : Int) = 2 ^ n := by rw [shl_one (by omega), two_nat]
  have gp : GW w (2 ^ n) := ⟨hw0, hw1, hlt⟩
  have gs : ∀ x : Int, GW w (x % 2 ^ w.toNat) := fun x => ⟨hw0, hw1, Int.emod_lt_of_pos _ hM⟩
  rw [ep]
  refine Ev.bind (ev_const (ShiftWord_left ha hg hm1)) (Ev.bind (ev_const (impl_MulWord_yes ha gp)) (Ev.bind (ev_const (ShiftWord_right ha hg hm1)) (Ev.bind (ev_const (DivWord_yes ha gp ha0 hp)) ?_)))
  refine Ev.bind (ev_const (impl_SignedOf_yes ha ha0)) (Ev.bind (ev_const (impl_FromSigned_yes hw0 hw1 _)) (Ev.bind (ev_const (impl_SignedOf_yes hb hb0)) (Ev.bind (ev_const (impl_LessSigned_yes ha hb ha0 hb0)) ?_)))
  refine ev_pos rfl (ev_pos rfl (ev_pos rfl (ev_pos rfl (ev_pos rfl (ev_pos rfl (ev_pos rfl (ev_pos rfl (ev_pos rfl (ev_pos rfl (ev_pos (sgn_mod ha ha0) ?_))))))))))
  exact ev_eq (Ev.now _) (by simp)

theorem FnDivided : ∀ (l0 : List (Int)) (l1 : List (Int)), (l0.length ≤ 9223372036854775807 ∧ ∀ x ∈ l0, InU8 x) → (l1.length ≤ 9223372036854775807 ∧ ∀ x ∈ l1, InU8 x) → ∃ k, laws_FnDivided.f k l0 l1 = some true := by
  intro l0 l1 h0 h1
  refine Ev.rounds ?_
  refine Ev.bind (ev_const (big_eq l0 l1 h0.1 h1.1)) ?_
  by_cases hs : l0.length + l1.length ≤ 1048576
  · refine ev_neg (by simpa using hs) ?_
    obtain ⟨w, a, b, hd, ha0, ha1, hb0, hb1⟩ := DrawDivWord_ex h0
    refine Ev.bind hd ?_
    by_cases h : GW w a ∧ GW w b
    · obtain ⟨ha, hb⟩ := h
      have hM := two_pos w.toNat
      have hj := divided_j1 l1 ⟨by omega, h1.2⟩ ha hb ha0 hb0
      rcases Int.lt_or_eq_of_le hb0 with hp | hz
      · refine Ev.bind (ev_const (DivWord_yes ha hb ha0 hp)) (Ev.bind (spec_DivWord_yes ha hb ha0 hp) (ev_neg (by simp) (ev_pos rfl ?_)))
        refine Ev.step (fun k => by simp only [laws_FnDivided.j0]; rw [if_neg (by simp)]) ?_
        refine ev_pos trivial ?_
        have hq0 : 0 ≤ a / b := Int.ediv_nonneg ha0 hb0
        have hq1 : a / b ≤ a := Int.ediv_le_self b ha0
        have hq : GW w (a / b) := ⟨ha.1, ha.2.1, by have := ha.2.2; omega⟩
        have hr0 := Int.emod_nonneg a (show b ≠ 0 by omega)
        have hr1 := Int.emod_lt_of_pos a hp
        have hr : GW w (a % b) := ⟨ha.1, ha.2.1, by have := hb.2.2; omega⟩
        have hm : GW w ((a / b * b) % 2 ^ w.toNat) := ⟨ha.1, ha.2.1, Int.emod_lt_of_pos _ hM⟩
        refine Ev.bind (ev_const (impl_MulWord_yes hq hb)) (Ev.bind (ev_const (impl_AddWord_yes hm hr)) (ev_pos rfl (ev_pos rfl (ev_neg (by omega) (ev_pos ?_ ?_)))))
        · show ((a / b * b) % 2 ^ w.toNat + a % b) % 2 ^ w.toNat = a
          rw [Int.emod_add_emod, Int.ediv_mul_add_emod, Int.emod_eq_of_lt ha0 ha.2.2]
        · show Ev (fun k => laws_FnDivided.j1 k l1 w a b (decide (a % b ≥ b))) true
          rw [decide_eq_false (by omega)]; exact hj
      · subst hz
        have e : (18446744073709551615 : Int) % 2 ^ w.toNat = 2 ^ w.toNat - 1 := by
          obtain ⟨q, hq⟩ := two_dvd (n := w.toNat) (by have := ha.2.1; omega)
          rw [show (18446744073709551615 : Int) = (2 ^ w.toNat - 1) + 2 ^ w.toNat * (q - 1) by rw [Int.mul_sub, ← hq]; omega, Int.add_mul_emod_self_left, Int.emod_eq_of_lt (by omega) (by omega)]
        have hsz := spec_DivWord_zero ha hb ha0
        rw [e] at hsz
        refine Ev.bind (ev_const (DivWord_zero ha hb)) (Ev.bind hsz (ev_neg (by simp) (ev_pos rfl ?_)))
        refine Ev.step (fun k => by simp only [laws_FnDivided.j0]; rw [if_neg (by simp)]) ?_
        refine ev_pos trivial ?_
        have hq : GW w (2 ^ w.toNat - 1) := ⟨ha.1, ha.2.1, by omega⟩
        have hm : GW w (((2 ^ w.toNat - 1) * 0) % 2 ^ w.toNat) := ⟨ha.1, ha.2.1, Int.emod_lt_of_pos _ hM⟩
        exact Ev.bind (ev_const (impl_MulWord_yes hq hb)) (Ev.bind (ev_const (impl_AddWord_yes hm ha)) (ev_pos rfl (ev_pos rfl (ev_pos trivial hj))))
    · refine Ev.bind (ev_const (DivWord_no h)) (Ev.bind (spec_DivWord_no h ha0 ha1 hb0 hb1) (ev_neg (by simp) (ev_pos rfl ?_)))
      exact Ev.step (f := fun _ => some true) (fun k => by simp only [laws_FnDivided.j0]; rw [if_neg (by simp), if_neg (by simp)]) (Ev.now _)
  · exact ev_pos (by simpa using hs) (Ev.now _)

end Go.Proofs.Ytnobkmombpcinaa.Pure
