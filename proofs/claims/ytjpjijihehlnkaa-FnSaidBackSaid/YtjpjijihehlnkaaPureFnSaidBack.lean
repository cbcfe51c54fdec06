/- The pure statement of the law FnSaidBack: what the printed functions compute makes the law true, for every input. No condition. -/
import Derived.Test.YtjpjijihehlnkaaOpen
import Derived.Test.YtjpjijihehlnkaaAid
import Derived.Test.YtjpjijihehlnkaaMFnSaidBack3
set_option linter.unusedVariables false
set_option linter.unusedSimpArgs false
namespace Go.Proofs.Ytjpjijihehlnkaa.Pure
open Go.RowKit Go.Proofs.YtjpjijihehlnkaaW.PrintWords Go.Proofs.Ytjpjijihehlnkaa.P Go.Proofs.Ytjpjijihehlnkaa.Hof Go.Proofs.Ytjpjijihehlnkaa.Open Go.Proofs.Ytjpjijihehlnkaa.Aid
-- LEMMAS
theorem big_eq (a b : List Int) (ha : a.length ≤ 9223372036854775807) (hb : b.length ≤ 9223372036854775807) : laws_big.f a b = some (decide (¬ (a.length + b.length ≤ 1048576))) := by
 unfold laws_big.f
 by_cases h : (a.length : Int) > 1048576
 ·rw [if_pos h, decide_eq_true (by omega)]
 ·rw [if_neg h, wid (by omega) (by omega)]
  congr 1
  rw [decide_eq_decide]; omega
theorem wu (x : Int) : IntKind.u64.wrap x = x % 18446744073709551616 := IntKind.wrap_u64 x
theorem wu_in (x : Int) : 0 ≤ IntKind.u64.wrap x ∧ IntKind.u64.wrap x < 18446744073709551616 := by rw [wu]; omega
theorem two_pos (n : Nat) : (0 : Int) < 2 ^ n := Int.pow_pos (by decide)
theorem two_dvd {n : Nat} (h : n ≤ 64) : ((2 : Int) ^ n) ∣ 18446744073709551616 := ⟨2 ^ (64 - n), by rw [← Int.pow_add, show n + (64 - n) = 64 by omega]; rfl⟩
theorem two_le {n : Nat} (h : n ≤ 64) : ((2 : Int) ^ n) ≤ 18446744073709551616 := Int.le_of_dvd (by decide) (two_dvd h)
theorem two_nat (n : Nat) : ((2 ^ n : Nat) : Int) = (2 : Int) ^ n := by simp
theorem and_mask (a : Int) (n : Nat) (hn : n ≤ 64) (h0 : 0 ≤ a) (h1 : a < 18446744073709551616) : Go.bits .and .u64 a (2 ^ n - 1) = a % 2 ^ n := by
 obtain ⟨m, rfl⟩ := Int.eq_ofNat_of_zero_le h0
 have h2 : (2 ^ n : Nat) ≤ 18446744073709551616 := by have := two_le hn; rw [← two_nat] at this; omega
 have h3 : 0 < (2 ^ n : Nat) := Nat.two_pow_pos n
 rw [show (2 : Int) ^ n - 1 = ((2 ^ n - 1 : Nat) : Int) by rw [← two_nat]; omega, bits_and_u64_nat _ _ (by omega) (by omega), Nat.and_two_pow_sub_one_eq_mod, ← two_nat]
 rfl
theorem mask_pow : ∀ m : Nat, m < 65 → (18446744073709551615 : Nat) / 2 ^ (64 - m) = 2 ^ m - 1 := by decide
theorem shr_mask {w : Int} (h0 : 1 ≤ w) (h1 : w ≤ 64) : shr .u64 18446744073709551615 (wrap64 (64 - w)) = 2 ^ w.toNat - 1 := by
 rw [wid (by omega) (by omega)]
 have hb : IntKind.u64.bits = 64 := rfl
 simp only [shr, hb]
 rw [Nat.min_eq_left (by omega), show (64 - w).toNat = 64 - w.toNat by omega]
 have h := mask_pow w.toNat (by omega)
 have h3 : 0 < (2 ^ w.toNat : Nat) := Nat.two_pow_pos _
 rw [← two_nat, ← two_nat, show (18446744073709551615 : Int) = ((18446744073709551615 : Nat) : Int) by rfl, ← Int.natCast_ediv, h]
 omega
theorem cut_nat (a i : Nat) : (a % 2 ^ i) ||| (a &&& 2 ^ i) = a % 2 ^ (i + 1) := by
 apply Nat.eq_of_testBit_eq
 intro j
 rw [Nat.testBit_or, Nat.testBit_and, Nat.testBit_mod_two_pow, Nat.testBit_mod_two_pow, Nat.testBit_two_pow]
 by_cases h : i = j
 ·subst h; simp
 ·by_cases h2 : j < i
  ·simp [h, h2, show j < i + 1 by omega]
  ·simp [h, h2, show ¬ j < i + 1 by omega]
theorem mod_small {a : Nat} (ha : a < 18446744073709551616) {i : Nat} (h : 64 ≤ i) : a % 2 ^ i = a := by
 refine Nat.mod_eq_of_lt (Nat.lt_of_lt_of_le ha ?_)
 have := Nat.pow_le_pow_right (show 0 < 2 by decide) h
 exact this
theorem shl_one {i : Nat} (h : i < 64) : shl .u64 1 (i : Int) = ((2 ^ i : Nat) : Int) := by
 have hb : IntKind.u64.bits = 64 := rfl
 have h2 : (2 ^ i : Nat) < 18446744073709551616 := Nat.pow_lt_pow_right (by decide : 1 < 2) h
 simp only [shl, hb]
 rw [wu, Int.toNat_natCast, Nat.min_eq_left (by omega), ← two_nat, Int.one_mul]; exact Int.emod_eq_of_lt (Int.natCast_nonneg _) (Int.ofNat_lt.2 h2)
theorem shl_big {i : Nat} (h : 64 ≤ i) : shl .u64 1 (i : Int) = 0 := by
 have hb : IntKind.u64.bits = 64 := rfl
 simp only [shl, hb]
 rw [wu, Int.toNat_natCast, Nat.min_eq_right (by omega)]; rfl
theorem cut_step (a i : Nat) (ha : a < 18446744073709551616) : Go.bits .or .u64 ((a % 2 ^ i : Nat) : Int) (Go.bits .and .u64 (a : Int) (shl .u64 1 (i : Int))) = ((a % 2 ^ (i + 1) : Nat) : Int) := by
 have h1 : a % 2 ^ i ≤ a := Nat.mod_le _ _
 by_cases h : i < 64
 ·have h2 : (2 ^ i : Nat) < 18446744073709551616 := Nat.pow_lt_pow_right (by decide : 1 < 2) h
  have h3 : a &&& 2 ^ i ≤ a := Nat.and_le_left
  rw [shl_one h, bits_and_u64_nat _ _ ha h2, bits_or_u64_nat _ _ (by omega) (by omega), cut_nat]
 ·have e : Go.bits .and .u64 (a : Int) ((0 : Nat) : Int) = ((0 : Nat) : Int) := by rw [bits_and_u64_nat _ _ ha (by decide), Nat.and_zero]
  have e2 : Go.bits .or .u64 (a : Int) ((0 : Nat) : Int) = (a : Int) := by rw [bits_or_u64_nat _ _ ha (by decide), Nat.or_zero]
  rw [shl_big (by omega), mod_small ha (by omega), mod_small ha (by omega)]
  exact (congrArg _ e).trans e2
theorem not_nat (a : Nat) (ha : a < 18446744073709551616) : 18446744073709551615 ^^^ a = 18446744073709551615 - a := by
 rw [show 18446744073709551615 - a = 2 ^ 64 - (a + 1) by omega]
 apply Nat.eq_of_testBit_eq
 intro j
 rw [Nat.testBit_xor, Nat.testBit_two_pow_sub_succ (by omega), show (18446744073709551615 : Nat) = 2 ^ 64 - 1 by rfl, Nat.testBit_two_pow_sub_one]
 by_cases h : j < 64
 ·simp [h]
 ·have : a.testBit j = false := Nat.testBit_lt_two_pow (Nat.lt_of_lt_of_le ha (Nat.pow_le_pow_right (by decide : 0 < 2) (by omega : 64 ≤ j)))
  simp [h, this]
theorem not_word (a : Int) (h0 : 0 ≤ a) (h1 : a < 18446744073709551616) : Go.bits .xor .u64 18446744073709551615 a = 18446744073709551615 - a := by
 obtain ⟨m, rfl⟩ := Int.eq_ofNat_of_zero_le h0
 rw [show (18446744073709551615 : Int) = ((18446744073709551615 : Nat) : Int) by rfl, bits_xor_u64_nat _ _ (by decide) (by omega), not_nat m (by omega)]
 omega
def GW (w a : Int) : Prop := 1 ≤ w ∧ w ≤ 64 ∧ a < 2 ^ w.toNat
instance (w a : Int) : Decidable (GW w a) := by unfold GW; infer_instance
theorem GW.le {w a : Int} (h : GW w a) : a < 18446744073709551616 := by have := two_le (n := w.toNat) (by have := h.2.1; omega); have := h.2.2; omega
theorem mod_word (x : Int) {w : Int} (h : w ≤ 64) : x % 18446744073709551616 % 2 ^ w.toNat = x % 2 ^ w.toNat := Int.emod_emod_of_dvd _ (two_dvd (by omega))
def Cu (n p s : Int) : Prop := 0 ≤ p ∧ p ≤ n ∧ 0 ≤ s ∧ s < 18446744073709551616
theorem Cu.up {n m p s : Int} (h : Cu n p s) (hm : n ≤ m) : Cu m p s := ⟨h.1, by have := h.2.1; omega, h.2.2⟩
theorem Cu.zero : Cu 0 0 0 := ⟨by omega, by omega, by omega, by omega⟩
theorem emod_self_le {x a : Int} (h : 0 ≤ x) (ha : 0 < a := by omega) : x % a ≤ x := by
 have h1 := Int.emod_add_mul_ediv x a
 have h2 : 0 ≤ a * (x / a) := Int.mul_nonneg (by omega) (Int.ediv_nonneg h (by omega))
 omega
theorem byte_of (X : Int) (h0 : 0 ≤ X) (h1 : X < 18446744073709551616) : Go.bits .and .u64 (X / 1099511627776) 255 = X / 1099511627776 % 256 := by
 have := and_mask (X / 1099511627776) 8 (by omega) (by omega) (by omega)
 simpa using this
theorem next_ex {l : List Int} (hl : l.length ≤ 9223372036854775807 ∧ ∀ x ∈ l, InU8 x) {n p s : Int} (h : Cu n p s) (hn : n < 4611686018427387904) :
  ∃ v p' s', spec_l1Cur_next.f l p s = some (v, p', s') ∧ 0 ≤ v ∧ v ≤ 255 ∧ Cu (n + 1) p' s' := by
 obtain ⟨h1, h2, h3, h4⟩ := h
 unfold spec_l1Cur_next.f
 have e : wrap64 (p + 1) = p + 1 := wid (by omega) (by omega)
 rw [e]
 have fin : ∀ v S : Int, (0 ≤ v ∧ v ≤ 255) → (0 ≤ S ∧ S < 18446744073709551616) → ∃ v' p' s', some (v, p + 1, S) = some (v', p', s') ∧ 0 ≤ v' ∧ v' ≤ 255 ∧ Cu (n + 1) p' s' := fun v S hv hS => ⟨v, p + 1, S, rfl, hv.1, hv.2, by omega, by omega, hS.1, hS.2⟩
 have big : ∀ X : Int, (0 ≤ X ∧ X < 18446744073709551616) → 0 ≤ wrap64 (Go.bits .and .u64 (X / 1099511627776) 255) ∧ wrap64 (Go.bits .and .u64 (X / 1099511627776) 255) ≤ 255 := fun X hX => by
  rw [byte_of X hX.1 hX.2, wid (by omega) (by omega)]; omega
 by_cases hp : p < (l.length : Int)
 ·rw [if_pos hp, if_pos h1, if_pos (by omega)]
  refine fin _ _ ?_ (wu_in _)
  obtain ⟨j, rfl⟩ := Int.eq_ofNat_of_zero_le h1
  have hm := hl.2 _ (getD_mem (l := l) (j := j) (by omega) 0)
  have hm1 := hm.1; have hm2 := hm.2
  rw [show rd l ((j : Nat) : Int) = l.getD j 0 from rd_nat l j, wid (by omega) (by omega)]
  exact hm
 ·rw [if_neg hp]
  by_cases h5 : p + 1 ≤ (l.length : Int)
  ·omega
  ·rw [if_neg h5]
   exact fin _ _ (big _ (wu_in _)) (wu_in _)
theorem pick_ex {l : List Int} (hl : l.length ≤ 9223372036854775807 ∧ ∀ x ∈ l, InU8 x) {n p s : Int} (h : Cu n p s) (hn : n < 4611686018427387900) (a : Int) (ha : a ≤ 9223372036854775807) :
  ∃ v p' s', spec_l1Cur_pick.f l p s a = some (v, p', s') ∧ 0 ≤ v ∧ v ≤ 65535 ∧ (1 ≤ a → v < a) ∧ Cu (n + 2) p' s' := by
 unfold spec_l1Cur_pick.f
 by_cases h1 : a ≤ 1
 ·rw [if_pos h1]; exact ⟨0, p, s, rfl, by omega, by omega, by omega, h.up (by omega)⟩
 ·rw [if_neg h1]
  obtain ⟨v, p1, s1, e1, hv0, hv1, hc1⟩ := next_ex hl h (by omega)
  rw [e1, Option.bind_some]
  by_cases h2 : a > 200
  ·rw [if_pos h2]
   obtain ⟨u, p2, s2, e2, hu0, hu1, hc2⟩ := next_ex hl hc1 (by omega)
   simp only
   rw [e2, Option.bind_some, if_neg (by omega)]
   refine ⟨_, p2, s2, rfl, ?_⟩
   simp only
   rw [wid (x := v * 256) (by omega) (by omega), wid (by omega) (by omega), Int.tmod_eq_emod_of_nonneg (by omega)]
   have h3 := Int.emod_nonneg (v * 256 + u) (show a ≠ 0 by omega)
   have h4 := Int.emod_lt_of_pos (v * 256 + u) (show 0 < a by omega)
   have h5 : (v * 256 + u) % a ≤ v * 256 + u := emod_self_le (by omega)
   exact ⟨h3, by omega, fun _ => h4, hc2.up (by omega)⟩
  ·rw [if_neg h2, if_neg (by omega)]
   refine ⟨_, p1, s1, rfl, ?_⟩
   simp only
   rw [Int.tmod_eq_emod_of_nonneg (by omega)]
   have h3 := Int.emod_nonneg v (show a ≠ 0 by omega)
   have h4 := Int.emod_lt_of_pos v (show 0 < a by omega)
   exact ⟨h3, by omega, fun _ => h4, hc1.up (by omega)⟩
theorem one_ex {l : List Int} (hl : l.length ≤ 9223372036854775807 ∧ ∀ x ∈ l, InU8 x) {n p s : Int} (h : Cu n p s) (hn : n < 4611686018427387900) (a : Int) (ha : a ≤ 9223372036854775807) :
  ∃ b p' s', spec_l1Cur_one.f l p s a = some (b, p', s') ∧ Cu (n + 2) p' s' := by
 obtain ⟨v, p', s', e, _, _, _, hc⟩ := pick_ex hl h hn a ha
 exact ⟨v == 0, p', s', by unfold spec_l1Cur_one.f; rw [e]; rfl, hc⟩
theorem among_ex {l : List Int} (hl : l.length ≤ 9223372036854775807 ∧ ∀ x ∈ l, InU8 x) {n p s : Int} (h : Cu n p s) (hn : n < 4611686018427387900) (xs : List Int) (hx : 1 ≤ xs.length) (hx2 : xs.length ≤ 1048576) :
  ∃ v p' s', spec_l1Cur_among.f l p s xs = some (v, p', s') ∧ v ∈ xs ∧ Cu (n + 2) p' s' := by
 obtain ⟨v, p', s', e, h0, _, h2, hc⟩ := pick_ex hl h hn (xs.length : Int) (by omega)
 have h2 := h2 (by omega)
 refine ⟨rd xs v, p', s', ?_, ?_, hc⟩
 ·unfold spec_l1Cur_among.f
  rw [e, Option.bind_some, if_pos h0, if_pos h2]
 ·obtain ⟨j, rfl⟩ := Int.eq_ofNat_of_zero_le h0
  rw [show rd xs ((j : Nat) : Int) = xs.getD j 0 from rd_nat xs j]
  exact getD_mem (by omega) 0
def needS (op : Int) : Int := if op = 1 ∨ op = 2 then 0 else if op = 3 ∨ op = 4 then 1 else if op = 5 ∨ op = 6 ∨ op = 7 ∨ op = 8 then 2 else -1
def nOk (x : S35) : Prop := if x.f0 = 1 then 0 ≤ x.f1 ∧ x.f1 ≤ 2 else if x.f0 = 2 then 0 ≤ x.f1 ∧ x.f1 ≤ 1 else x.f1 = 0
def gs : List S35 → Int → Prop
 | [], c => c = 1
 | x :: t, c => 0 ≤ needS x.f0 ∧ nOk x ∧ needS x.f0 ≤ c ∧ gs t (c + (1 - needS x.f0))
def GoodS (l : List S35) : Prop := 1 ≤ l.length ∧ l.length ≤ 16 ∧ gs l 0
theorem need_cases (op : Int) : (needS op = 0 ∧ (op = 1 ∨ op = 2)) ∨ (needS op = 1 ∧ (op = 3 ∨ op = 4)) ∨ (needS op = 2 ∧ (op = 5 ∨ op = 6 ∨ op = 7 ∨ op = 8)) ∨ (needS op = -1 ∧ op ≠ 1 ∧ op ≠ 2 ∧ op ≠ 3 ∧ op ≠ 4 ∧ op ≠ 5 ∧ op ≠ 6 ∧ op ≠ 7 ∧ op ≠ 8) := by
 unfold needS
 by_cases h1 : op = 1 ∨ op = 2
 ·rw [if_pos h1]; exact .inl ⟨rfl, h1⟩
 rw [if_neg h1]
 by_cases h2 : op = 3 ∨ op = 4
 ·rw [if_pos h2]; exact .inr (.inl ⟨rfl, h2⟩)
 rw [if_neg h2]
 by_cases h3 : op = 5 ∨ op = 6 ∨ op = 7 ∨ op = 8
 ·rw [if_pos h3]; exact .inr (.inr (.inl ⟨rfl, h3⟩))
 rw [if_neg h3]
 exact .inr (.inr (.inr ⟨rfl, by omega, by omega, by omega, by omega, by omega, by omega, by omega, by omega⟩))
theorem need_le (op : Int) : -1 ≤ needS op ∧ needS op ≤ 2 := by rcases need_cases op with ⟨h, _⟩ | ⟨h, _⟩ | ⟨h, _⟩ | ⟨h, _⟩ <;> omega
theorem formula_leaf {l : List Int} (hl : l.length ≤ 9223372036854775807 ∧ ∀ x ∈ l, InU8 x) (a : Int) {n p s : Int} (h : Cu n p s) (hn : n < 1000000000) :
  ∃ f p' s', Ev (fun k => spec_l1Cur_formula.j0 k a true l p s) (f, p', s') ∧ f.length = 1 ∧ Cu (n + 4) p' s' := by
 obtain ⟨b, p1, s1, e1, hc1⟩ := one_ex hl h (by omega) 12 (by omega)
 cases b with
 | true =>
  obtain ⟨v, p2, s2, e2, _, _, _, hc2⟩ := pick_ex hl hc1 (by omega) 2 (by omega)
  refine ⟨[(⟨2, v⟩ : S35)], p2, s2, ?_, rfl, hc2.up (by omega)⟩
  refine Ev.step (fun k => by rw [spec_l1Cur_formula.j0, if_pos rfl]) ?_
  exact Ev.bind (ev_const e1) (ev_pos rfl (Ev.bind (ev_const e2) (Ev.now _)))
 | false =>
  obtain ⟨v, p2, s2, e2, _, _, _, hc2⟩ := pick_ex hl hc1 (by omega) 3 (by omega)
  refine ⟨[(⟨1, v⟩ : S35)], p2, s2, ?_, rfl, hc2.up (by omega)⟩
  refine Ev.step (fun k => by rw [spec_l1Cur_formula.j0, if_pos rfl]) ?_
  exact Ev.bind (ev_const e1) (ev_neg (by simp) (Ev.bind (ev_const e2) (Ev.now _)))
theorem formula_ex {l : List Int} (hl : l.length ≤ 9223372036854775807 ∧ ∀ x ∈ l, InU8 x) : ∀ (d : Nat), d ≤ 3 → ∀ {n p s : Int}, Cu n p s → n + 100 * (d : Int) < 10000 →
  ∃ f p' s', Ev (fun k => spec_l1Cur_formula.f k l p s (d : Int)) (f, p', s') ∧ 1 ≤ f.length ∧ f.length + 1 ≤ 2 * 2 ^ d ∧ Cu (n + 12 * ((2 ^ d : Nat) : Int) - 6) p' s'
 | 0, _, n, p, s, h, hn => by
  obtain ⟨f, p', s', e, h1, hc⟩ := formula_leaf hl 0 h (by omega)
  refine ⟨f, p', s', Ev.step (fun k => by rw [spec_l1Cur_formula.f, if_pos (by omega)]; rfl) e, by omega, by omega, hc.up (by omega)⟩
 | d + 1, hd, n, p, s, h, hn => by
  have hp : 1 ≤ 2 ^ d := Nat.one_le_two_pow
  have hp8 : 2 ^ d ≤ 2 ^ 2 := Nat.pow_le_pow_right (by omega) (by omega)
  have h2 : (2 : Nat) ^ (d + 1) = 2 * 2 ^ d := by rw [Nat.pow_succ]; omega
  have hw : wrap64 (((d + 1 : Nat) : Int) - 1) = (d : Int) := by rw [wid (by omega) (by omega)]; omega
  obtain ⟨b, p1, s1, e1, hc1⟩ := one_ex hl h (by omega) 6 (by omega)
  have go : ∀ {r : List S35 × Int × Int}, Ev (fun k => spec_l1Cur_formula.j0 k ((d + 1 : Nat) : Int) b l p1 s1) r → Ev (fun k => spec_l1Cur_formula.f k l p s ((d + 1 : Nat) : Int)) r := fun hr => by
   refine Ev.step (fun k => by rw [spec_l1Cur_formula.f, if_neg (by omega)]) ?_
   exact Ev.bind (ev_const e1) hr
  cases b with
  | true =>
   obtain ⟨f, p', s', e, h1, hc⟩ := formula_leaf hl ((d + 1 : Nat) : Int) hc1 (by omega)
   exact ⟨f, p', s', go e, by omega, by omega, hc.up (by omega)⟩
  | false =>
   obtain ⟨b2, p2, s2, e2, hc2⟩ := one_ex hl hc1 (by omega) 3 (by omega)
   cases b2 with
   | true =>
    obtain ⟨f, p3, s3, e3, hf0, hf, hc3⟩ := formula_ex hl d (by omega) hc2 (by omega)
    obtain ⟨o, p4, s4, e4, _, hc4⟩ := among_ex hl hc3 (by omega) [3, 3, 4] (by simp) (by simp)
    refine ⟨f ++ [(⟨o, 0⟩ : S35)], p4, s4, go ?_, by simp, by simp; omega, hc4.up (by omega)⟩
    refine Ev.step (fun k => by rw [spec_l1Cur_formula.j0, if_neg (by simp), hw]) ?_
    exact Ev.bind (ev_const e2) (ev_pos rfl (Ev.bind e3 (Ev.bind (ev_const e4) (ev_pos (by show f.length < _; omega) (Ev.now _)))))
   | false =>
    obtain ⟨o, p3, s3, e3, _, hc3⟩ := among_ex hl hc2 (by omega) [5, 6, 7, 7, 8] (by simp) (by simp)
    obtain ⟨f, p4, s4, e4, hf0, hf, hc4⟩ := formula_ex hl d (by omega) hc3 (by omega)
    obtain ⟨g, p5, s5, e5, hg0, hg, hc5⟩ := formula_ex hl d (by omega) hc4 (by omega)
    refine ⟨(f ++ g) ++ [(⟨o, 0⟩ : S35)], p5, s5, go ?_, by simp; omega, by simp; omega, hc5.up (by omega)⟩
    refine Ev.step (fun k => by rw [spec_l1Cur_formula.j0, if_neg (by simp), hw]) ?_
    refine Ev.bind (ev_const e2) (ev_neg (by simp) (Ev.bind (ev_const e3) (Ev.bind e4 (Ev.bind e5 (ev_pos (by show f.length + g.length < _; omega) ?_)))))
    exact Ev.bind (ev_const (r := f ++ g) rfl) (ev_pos (by show (f ++ g).length < _; rw [List.length_append]; omega) (Ev.now _))
theorem said_j1 {l : List Int} (hl : l.length ≤ 9223372036854775807 ∧ ∀ x ∈ l, InU8 x) (f : List S35) (h1 : 1 ≤ f.length) (h2 : f.length ≤ 1000) {n p s : Int} (h : Cu n p s) (hn : n < 10000) :
  ∃ g p' s', Ev (fun k => spec_l1Cur_said.j1 k f l p s) (g, p', s') ∧ g.length ≤ f.length ∧ Cu (n + 4) p' s' := by
 obtain ⟨v, p1, s1, e1, _, _, _, hc1⟩ := pick_ex hl h (by omega) 40 (by omega)
 obtain ⟨u, p2, s2, e2, _, _, _, hc2⟩ := pick_ex hl hc1 (by omega) 10 (by omega)
 have go : ∀ {F : Nat → Int × Int × Int → Option (List S35 × Int × Int)} {r : List S35 × Int × Int}, Ev (fun k => F k (v, p1, s1)) r → Ev (fun k => (spec_l1Cur_pick.f l p s 40).bind (F k)) r := fun hr => Ev.bind (ev_const e1) hr
 have hw : wrap64 ((f.length : Int) - 1) = (f.length : Int) - 1 := wid (by omega) (by omega)
 by_cases h0 : v = 0
 ·refine ⟨f.drop (1 : Int).toNat, p1, s1, ?_, by simp, hc1.up (by omega)⟩
  refine Ev.step (fun k => by rw [spec_l1Cur_said.j1]) (go ?_)
  exact ev_pos h0 (ev_pos (by omega) (Ev.now _))
 by_cases h1' : v = 1
 ·refine ⟨f.set (0 : Int).toNat (⟨(rd_T35 f 0).f0, 3⟩ : S35), p1, s1, ?_, by simp, hc1.up (by omega)⟩
  refine Ev.step (fun k => by rw [spec_l1Cur_said.j1]) (go ?_)
  exact ev_neg h0 (ev_pos h1' (ev_pos (by omega) (Ev.now _)))
 by_cases h2' : v = 2
 ·refine ⟨f.set ((f.length : Int) - 1).toNat (⟨u, (rd_T35 f ((f.length : Int) - 1)).f1⟩ : S35), p2, s2, Ev.step (fun k => by rw [spec_l1Cur_said.j1]) (go ?_), ?_, hc2.up (by omega)⟩
  ·refine ev_neg h0 (ev_neg h1' (ev_pos h2' (Ev.bind (ev_const e2) ?_)))
   rw [hw]
   exact ev_pos (by omega) (ev_pos (by omega) (Ev.now _))
  ·simp
 ·refine ⟨f, p1, s1, Ev.step (fun k => by rw [spec_l1Cur_said.j1]) (go ?_), by omega, hc1.up (by omega)⟩
  exact ev_neg h0 (ev_neg h1' (ev_neg h2' (Ev.now _)))
theorem said_ex {l : List Int} (hl : l.length ≤ 9223372036854775807 ∧ ∀ x ∈ l, InU8 x) {n p s : Int} (h : Cu n p s) (hn : n < 1000) :
  ∃ f p' s', Ev (fun k => spec_l1Cur_said.f k l p s) (f, p', s') ∧ f.length ≤ 15 ∧ Cu (n + 96) p' s' := by
 obtain ⟨v, p1, s1, e1, hv0, _, hv2, hc1⟩ := pick_ex hl h (by omega) 2 (by omega)
 have hv := hv2 (by omega)
 have hp3 : (2 : Nat) ^ 3 = 8 := rfl
 have hp2 : (2 : Nat) ^ 2 = 4 := rfl
 obtain ⟨f, p2, s2, e2, hf0, hf, hc2⟩ : ∃ f p' s', Ev (fun k => spec_l1Cur_formula.f k l p1 s1 (wrap64 (2 + v))) (f, p', s') ∧ 1 ≤ f.length ∧ f.length ≤ 15 ∧ Cu (n + 92) p' s' := by
  rcases (show v = 0 ∨ v = 1 by omega) with rfl | rfl
  ·obtain ⟨f, p2, s2, e2, hf0, hf, hc2⟩ := formula_ex hl 2 (by omega) hc1 (by omega)
   exact ⟨f, p2, s2, Ev.congr (fun k => by rw [wid (by omega) (by omega)]; rfl) e2, hf0, by omega, hc2.up (by omega)⟩
  ·obtain ⟨f, p2, s2, e2, hf0, hf, hc2⟩ := formula_ex hl 3 (by omega) hc1 (by omega)
   exact ⟨f, p2, s2, Ev.congr (fun k => by rw [wid (by omega) (by omega)]; rfl) e2, hf0, by omega, hc2.up (by omega)⟩
 obtain ⟨g, p3, s3, e3, hg, hc3⟩ := said_j1 hl f hf0 (by omega) hc2 (by omega)
 refine ⟨g, p3, s3, ?_, by omega, hc3.up (by omega)⟩
 refine Ev.bind (ev_const e1) (Ev.bind e2 (ev_neg (by show ¬ (f.length : Int) > 16; omega) ?_))
 exact Ev.step (fun k => by simp only [spec_l1Cur_said.j0]; rw [if_neg (by simp)]) e3
theorem operandsOfSaid_ev (op : Int) : Ev (fun k => impl_operandsOfSaid.f k op) (needS op) := by
 refine ev_from 2 (fun m => ?_)
 simp only [impl_operandsOfSaid.f, impl_operandsOfSaid.j0, impl_operandsOfSaid.j1]
 rcases need_cases op with ⟨e, h⟩ | ⟨e, h⟩ | ⟨e, h⟩ | ⟨e, h⟩ <;> rw [e]
 ·rcases h with rfl | rfl <;> simp
 ·rcases h with rfl | rfl <;> simp
 ·rcases h with rfl | rfl | rfl | rfl <;> simp
 ·simp [h]
theorem isSaid_tells (x : S35) : Tells (fun k => impl_isSaid.f k x.f0 x.f1) (0 ≤ needS x.f0 ∧ nOk x) := by
 simp only [impl_isSaid.f, nOk]
 rcases need_cases x.f0 with ⟨e, h⟩ | ⟨e, h⟩ | ⟨e, h⟩ | ⟨e, h⟩
 ·rcases h with h | h
  ·simp only [h, if_true]
   refine tells_if (fun h1 => tells_some ?_) (fun h1 => tells_no (fun g => by have := g.2.1; omega))
   simp [needS]; omega
  ·simp only [h, if_neg (show ¬ ((2 : Int) = 1) by decide), if_true]
   refine tells_if (fun h1 => tells_yes ⟨by simp [needS], by omega, by omega⟩) (fun h1 => tells_some ?_)
   simp [needS]; omega
 ·have h1 : ¬ (x.f0 = 1) := by omega
  have h2 : ¬ (x.f0 = 2) := by omega
  simp only [if_neg h1, if_neg h2]
  refine tells_bind (operandsOfSaid_ev x.f0) (tells_pos (by omega) (tells_some ?_))
  simp [e]
 ·have h1 : ¬ (x.f0 = 1) := by omega
  have h2 : ¬ (x.f0 = 2) := by omega
  simp only [if_neg h1, if_neg h2]
  refine tells_bind (operandsOfSaid_ev x.f0) (tells_pos (by omega) (tells_some ?_))
  simp [e]
 ·simp only [if_neg h.1, if_neg h.2.1]
  refine tells_bind (operandsOfSaid_ev x.f0) (tells_neg (by omega) (tells_no (fun g => by omega)))
theorem impl_GoodSaid_l0 (l : List S35) (hl : l.length ≤ 16) (d : Nat) : ∀ (j : Nat) (c : Int), 0 ≤ c → c ≤ j → j + d = l.length →
  Tells (fun k => impl_GoodSaid.l0 k c l (l.length : Int) (j : Int)) (gs (l.drop j) c) := by
 induction d with
 | zero =>
  intro j c h0 h1 hd
  refine tells_step (f := fun _ => some (c == 1)) (fun k => by simp only [impl_GoodSaid.l0]; rw [if_neg (by omega)]) (tells_some ?_)
  rw [List.drop_of_length_le (by omega)]; simp [gs]
 | succ d ih =>
  intro j c h0 h1 hd
  have hj : j < l.length := by omega
  have er : rd_T35 l (j : Int) = l.getD j z35 := by simp [rd_T35]
  refine tells_step (fun k => by simp only [impl_GoodSaid.l0]; rw [if_pos (by omega), if_pos (by omega), if_pos (by omega), wsucc (by omega), er]) ?_
  rw [drop_cons hj z35]
  generalize l.getD j z35 = x
  have hn := need_le x.f0
  refine tells_bind (operandsOfSaid_ev x.f0) ?_
  refine tells_ask (isSaid_tells x) (fun hx => tells_pos rfl ?_) (fun hx => tells_neg (by simp) (tells_no (fun g => hx ⟨g.1, g.2.1⟩)))
  refine tells_if (fun h2 => tells_no (fun g => by have := g.2.2.1; omega)) (fun h2 => ?_)
  rw [wid (x := 1 - needS x.f0) (by omega) (by omega), wid (by omega) (by omega)]
  exact tells_iff (ih (j + 1) _ (by omega) (by omega) (by omega)) ⟨fun g => ⟨hx.1, hx.2, by omega, g⟩, fun g => g.2.2.2⟩
theorem impl_GoodSaid_tells (l : List S35) (hl : l.length ≤ 9223372036854775807) : Tells (fun k => impl_GoodSaid.f k l) (GoodS l) := by
 refine tells_if (fun h => ?_) (fun h => ?_)
 ·exact tells_step (f := fun _ => some false) (fun k => by simp only [impl_GoodSaid.j0, if_true]) (tells_no (fun g => by have := g.1; omega))
 ·by_cases h2 : (l.length : Int) > 16
  ·exact tells_step (f := fun _ => some false) (fun k => by simp only [impl_GoodSaid.j0]; rw [if_pos (by simpa using h2)]) (tells_no (fun g => by have := g.2.1; omega))
  ·refine tells_step (f := fun k => impl_GoodSaid.l0 k 0 l (l.length : Int) 0) (fun k => by simp only [impl_GoodSaid.j0]; rw [if_neg (by simpa using h2)]) ?_
   exact tells_iff (impl_GoodSaid_l0 l (by omega) l.length 0 0 (by omega) (by omega) (by omega)) ⟨fun g => ⟨by omega, by omega, by simpa using g⟩, fun g => by simpa using g.2.2⟩
inductive Tr where
 | leaf (x : S35) : Tr
 | un (a : Tr) (x : S35) : Tr
 | bin (a b : Tr) (x : S35) : Tr
def post : Tr → List S35
 | .leaf x => [x]
 | .un a x => post a ++ [x]
 | .bin a b x => post a ++ (post b ++ [x])
def okT : Tr → Prop
 | .leaf x => needS x.f0 = 0 ∧ nOk x
 | .un a x => okT a ∧ needS x.f0 = 1 ∧ nOk x
 | .bin a b x => okT a ∧ okT b ∧ needS x.f0 = 2 ∧ nOk x
def posts (ts : List Tr) : List S35 := (ts.map post).flatten
theorem posts_append (a b : List Tr) : posts (a ++ b) = posts a ++ posts b := by simp [posts]
theorem posts_one (a : Tr) : posts [a] = post a := by simp [posts]
theorem posts_cons (a : Tr) (b : List Tr) : posts (a :: b) = post a ++ posts b := by simp [posts]
theorem post_pos (t : Tr) : 0 < (post t).length := by cases t <;> simp [post] <;> omega
theorem last_split {ts : List Tr} (h : 0 < ts.length) : ∃ a b, ts = a ++ [b] := by
 refine ⟨ts.dropLast, ts.getLast (by intro e; simp [e] at h), ?_⟩
 rw [List.dropLast_concat_getLast]
theorem trees_of : ∀ (l : List S35) (ts : List Tr), (∀ t ∈ ts, okT t) → gs l (ts.length : Int) → ∃ t, okT t ∧ posts ts ++ l = post t
 | [], ts, hts, h => by
  have h1 : ts.length = 1 := by have h2 : (ts.length : Int) = 1 := h; omega
  obtain ⟨t, rfl⟩ := List.length_eq_one_iff.1 h1
  exact ⟨t, hts t (by simp), by simp [posts]⟩
 | x :: l, ts, hts, h => by
  obtain ⟨h1, h2, h3, h4⟩ := h
  rcases need_cases x.f0 with ⟨e, _⟩ | ⟨e, _⟩ | ⟨e, _⟩ | ⟨e, _⟩
  ·obtain ⟨t, ht, hp⟩ := trees_of l (ts ++ [.leaf x]) (fun t ht => by
    rcases List.mem_append.1 ht with ht | ht
    ·exact hts t ht
    ·rw [List.mem_singleton.1 ht]; exact ⟨e, h2⟩) (by rw [e] at h4; simpa using h4)
   exact ⟨t, ht, by rw [← hp, posts_append, posts_one]; simp [post]⟩
  ·obtain ⟨a, b, rfl⟩ := last_split (ts := ts) (by omega)
   obtain ⟨t, ht, hp⟩ := trees_of l (a ++ [.un b x]) (fun t ht => by
    rcases List.mem_append.1 ht with ht | ht
    ·exact hts t (List.mem_append_left _ ht)
    ·rw [List.mem_singleton.1 ht]; exact ⟨hts b (by simp), e, h2⟩) (by rw [e] at h4; simpa using h4)
   exact ⟨t, ht, by rw [← hp, posts_append, posts_append, posts_one, posts_one]; simp [post]⟩
  ·obtain ⟨a0, c, rfl⟩ := last_split (ts := ts) (by omega)
   obtain ⟨a, b, rfl⟩ := last_split (ts := a0) (by simp at h3; omega)
   obtain ⟨t, ht, hp⟩ := trees_of l (a ++ [.bin b c x]) (fun t ht => by
    rcases List.mem_append.1 ht with ht | ht
    ·exact hts t (List.mem_append_left _ (List.mem_append_left _ ht))
    ·rw [List.mem_singleton.1 ht]; exact ⟨hts b (by simp), hts c (by simp), e, h2⟩) (by rw [e] at h4; simp at h4 ⊢; exact (by omega : ((a.length : Int) + 1 + 1 + -1) = (a.length : Int) + 1) ▸ h4)
   exact ⟨t, ht, by rw [← hp, posts_append, posts_append, posts_append, posts_one, posts_one, posts_one]; simp [post]⟩
  ·omega
theorem tree_of {l : List S35} (h : GoodS l) : ∃ t, okT t ∧ l = post t := by
 obtain ⟨t, ht, hp⟩ := trees_of l [] (fun t ht => by simp at ht) (by simpa using h.2.2)
 exact ⟨t, ht, by simpa [posts] using hp⟩
def At (l : List S35) (t : Tr) (i : Nat) : Prop := ∃ p s, l = p ++ (post t ++ s) ∧ p.length = i
theorem At.lt {l : List S35} {t : Tr} {i : Nat} (h : At l t i) : i + (post t).length ≤ l.length := by
 obtain ⟨p, s, rfl, rfl⟩ := h; simp <;> omega
theorem At.un {l : List S35} {a : Tr} {x : S35} {i : Nat} (h : At l (.un a x) i) : At l a i := by
 obtain ⟨p, s, rfl, rfl⟩ := h; exact ⟨p, [x] ++ s, by simp [post], rfl⟩
theorem At.left {l : List S35} {a b : Tr} {x : S35} {i : Nat} (h : At l (.bin a b x) i) : At l a i := by
 obtain ⟨p, s, rfl, rfl⟩ := h; exact ⟨p, post b ++ [x] ++ s, by simp [post], rfl⟩
theorem At.right {l : List S35} {a b : Tr} {x : S35} {i : Nat} (h : At l (.bin a b x) i) : At l b (i + (post a).length) := by
 obtain ⟨p, s, rfl, rfl⟩ := h; exact ⟨p ++ post a, [x] ++ s, by simp [post], by simp⟩
def root : Tr → S35
 | .leaf x => x
 | .un _ x => x
 | .bin _ _ x => x
theorem getD_mid {α : Type} (p m s : List α) (d : α) {j : Nat} (h : j < m.length) : (p ++ (m ++ s)).getD (p.length + j) d = m.getD j d := by
 rw [List.getD_eq_getElem?_getD, List.getElem?_append_right (by omega), List.getElem?_append_left (by omega), List.getD_eq_getElem?_getD]
 congr 2; omega
theorem post_last (t : Tr) (d : S35) : (post t).getD ((post t).length - 1) d = root t := by
 cases t <;> simp [post, root, List.getD_eq_getElem?_getD]
theorem At.root {l : List S35} {t : Tr} {i : Nat} (h : At l t i) (d : S35) : l.getD (i + (post t).length - 1) d = root t := by
 obtain ⟨p, s, rfl, rfl⟩ := h
 have hp := post_pos t
 rw [show p.length + (post t).length - 1 = p.length + ((post t).length - 1) from by omega, getD_mid _ _ _ _ (by omega), post_last]
theorem At.whole (t : Tr) : At (post t) t 0 := ⟨[], [], by simp, rfl⟩
theorem l10Need_ev (op : Int) : Ev (fun k => spec_l10Need.f k op) (needS op) := by
 refine ev_from 2 (fun m => ?_)
 simp only [spec_l10Need.f, spec_l10Need.j0, spec_l10Need.j1]
 rcases need_cases op with ⟨e, h⟩ | ⟨e, h⟩ | ⟨e, h⟩ | ⟨e, h⟩ <;> rw [e]
 ·rcases h with rfl | rfl <;> simp
 ·rcases h with rfl | rfl <;> simp
 ·rcases h with rfl | rfl | rfl | rfl <;> simp
 ·simp [h]
theorem rdS (l : List S35) (i : Nat) : rd_T35 l (i : Int) = l.getD i z35 := by simp [rd_T35]
theorem At.un_root {l : List S35} {a : Tr} {x : S35} {i : Nat} (h : At l (.un a x) i) : i + (post a).length < l.length ∧ l.getD (i + (post a).length) z35 = x := by
 have h1 := h.lt
 have h2 := h.root z35
 simp only [post, List.length_append, List.length_singleton] at h1 h2
 rw [show i + ((post a).length + 1) - 1 = i + (post a).length from by omega] at h2
 exact ⟨by omega, h2⟩
theorem At.bin_root {l : List S35} {a b : Tr} {x : S35} {i : Nat} (h : At l (.bin a b x) i) : i + (post a).length + (post b).length < l.length ∧ l.getD (i + (post a).length + (post b).length) z35 = x := by
 have h1 := h.lt
 have h2 := h.root z35
 simp only [post, List.length_append, List.length_singleton] at h1 h2
 rw [show i + ((post a).length + ((post b).length + 1)) - 1 = i + (post a).length + (post b).length from by omega] at h2
 exact ⟨by omega, h2⟩
theorem At.leaf_root {l : List S35} {x : S35} {i : Nat} (h : At l (.leaf x) i) : i < l.length ∧ l.getD i z35 = x := by
 have h1 := h.lt
 have h2 := h.root z35
 simp only [post, List.length_singleton, Nat.add_sub_cancel] at h1 h2
 exact ⟨by omega, h2⟩
theorem last_un (a : Tr) (x : S35) (i : Nat) : i + (post (.un a x)).length - 1 = i + (post a).length := by simp [post]
theorem last_bin (a b : Tr) (x : S35) (i : Nat) : i + (post (.bin a b x)).length - 1 = i + (post a).length + (post b).length := by simp [post]; omega
theorem l10From_ev (l : List S35) (hl : l.length ≤ 1048576) : ∀ (t : Tr) (i : Nat), okT t → At l t i → Ev (fun k => spec_l10From.f k l ((i + (post t).length - 1 : Nat) : Int)) (i : Int)
 | .leaf x, i, ok, h => by
  obtain ⟨h1, h2⟩ := h.leaf_root
  rw [show i + (post (.leaf x)).length - 1 = i from by simp [post]]
  refine Ev.step (fun k => by simp only [spec_l10From.f]; rw [if_pos (by omega), if_pos (by omega), rdS, h2]) ?_
  refine Ev.bind (l10Need_ev _) ?_
  rw [show needS x.f0 = 0 from ok.1]
  exact Ev.step (f := fun _ => some (i : Int)) (fun k => by simp only [spec_l10From.l0]; rw [if_neg (by omega)]) (Ev.now _)
 | .un a x, i, ok, h => by
  obtain ⟨h1, h2⟩ := h.un_root
  have ha := post_pos a
  rw [last_un]
  refine Ev.step (fun k => by simp only [spec_l10From.f]; rw [if_pos (by omega), if_pos (by omega), rdS, h2]) ?_
  refine Ev.bind (l10Need_ev _) ?_
  rw [show needS x.f0 = 1 from ok.2.1]
  refine Ev.step (fun k => by simp only [spec_l10From.l0]; rw [if_pos (by omega), wpred (by omega) (by omega)]) ?_
  refine Ev.bind (l10From_ev l hl a i ok.1 h.un) ?_
  exact Ev.step (f := fun _ => some (i : Int)) (fun k => by simp only [spec_l10From.l0]; rw [if_neg (by unfold wrap64; omega)]) (Ev.now _)
 | .bin a b x, i, ok, h => by
  obtain ⟨h1, h2⟩ := h.bin_root
  have ha := post_pos a
  have hb := post_pos b
  rw [last_bin]
  refine Ev.step (fun k => by simp only [spec_l10From.f]; rw [if_pos (by omega), if_pos (by omega), rdS, h2]) ?_
  refine Ev.bind (l10Need_ev _) ?_
  rw [show needS x.f0 = 2 from ok.2.2.1]
  refine Ev.step (fun k => by simp only [spec_l10From.l0]; rw [if_pos (by omega), wpred (by omega) (by omega)]) ?_
  refine Ev.bind (l10From_ev l hl b (i + (post a).length) ok.2.1 h.right) ?_
  refine Ev.step (fun k => by simp only [spec_l10From.l0]; rw [if_pos (by unfold wrap64; omega), wpred (by omega) (by omega)]) ?_
  refine Ev.bind (l10From_ev l hl a i ok.1 h.left) ?_
  exact Ev.step (f := fun _ => some (i : Int)) (fun k => by simp only [spec_l10From.l0]; rw [if_neg (by unfold wrap64; omega)]) (Ev.now _)
def opp (n : Bool) (op : Int) : Int := if n = true then (if op = 5 then 6 else if op = 6 then 5 else if op = 7 then 8 else 7) else op
def pushT : Tr → Bool → List S35
 | .leaf x, n => if n = true then (if x.f0 = 1 then [x, ⟨3, 0⟩] else [⟨2, 1 - x.f1⟩]) else [x]
 | .un a x, n => if x.f0 = 3 then pushT a (!n) else pushT a n ++ [⟨4, 0⟩]
 | .bin a b x, n => pushT a n ++ (pushT b n ++ [⟨opp n x.f0, 0⟩])
theorem pushT_len : ∀ (t : Tr) (n : Bool), (pushT t n).length ≤ 2 * (post t).length
 | .leaf x, n => by
  simp only [pushT, post, List.length_singleton]
  split
  ·split <;> simp
  ·simp
 | .un a x, n => by
  have h1 := pushT_len a n
  have h2 := pushT_len a (!n)
  simp only [pushT, post, List.length_append, List.length_singleton]
  split
  ·omega
  ·rw [List.length_append, List.length_singleton]; omega
 | .bin a b x, n => by
  have h1 := pushT_len a n
  have h2 := pushT_len b n
  simp only [pushT, post, List.length_append, List.length_singleton]
  omega
theorem leaf_of {x : S35} (h : okT (.leaf x)) : (x.f0 = 1 ∨ x.f0 = 2) ∧ -1 ≤ x.f1 ∧ x.f1 ≤ 2 := by
 obtain ⟨h1, h2⟩ := h
 rcases need_cases x.f0 with ⟨_, e⟩ | ⟨e, _⟩ | ⟨e, _⟩ | ⟨e, _⟩
 ·refine ⟨e, ?_⟩
  unfold nOk at h2
  split at h2
  ·omega
  ·split at h2 <;> omega
 all_goals omega
theorem un_of {a : Tr} {x : S35} (h : okT (.un a x)) : (x.f0 = 3 ∨ x.f0 = 4) ∧ x.f1 = 0 := by
 obtain ⟨_, h1, h2⟩ := h
 rcases need_cases x.f0 with ⟨e, _⟩ | ⟨_, e⟩ | ⟨e, _⟩ | ⟨e, _⟩
 ·omega
 ·refine ⟨e, ?_⟩
  unfold nOk at h2
  rw [if_neg (by omega), if_neg (by omega)] at h2; exact h2
 all_goals omega
theorem bin_of {a b : Tr} {x : S35} (h : okT (.bin a b x)) : (x.f0 = 5 ∨ x.f0 = 6 ∨ x.f0 = 7 ∨ x.f0 = 8) ∧ x.f1 = 0 := by
 obtain ⟨_, _, h1, h2⟩ := h
 rcases need_cases x.f0 with ⟨e, _⟩ | ⟨e, _⟩ | ⟨_, e⟩ | ⟨e, _⟩
 ·omega
 ·omega
 ·refine ⟨e, ?_⟩
  unfold nOk at h2
  rw [if_neg (by omega), if_neg (by omega)] at h2; exact h2
 ·omega
theorem At.seg {l : List S35} {t : Tr} {i : Nat} (h : At l t i) : (l.take (i + (post t).length)).drop i = post t := by
 obtain ⟨p, s, rfl, rfl⟩ := h
 rw [← List.append_assoc, List.take_left' (by rw [List.length_append]), List.drop_left' rfl]
def sgn (op : Int) : ByteArray := (⟨#[32, 32, 32, 33, 88, 38, 124, 85, 82]⟩ : ByteArray).extract op.toNat (op + 1).toNat
def atomB (op n : Int) : ByteArray := if op = 1 then (⟨#[112, 113, 114]⟩ : ByteArray).extract n.toNat (n + 1).toNat else (⟨#[48, 49]⟩ : ByteArray).extract n.toNat (n + 1).toNat
def textT : Tr → ByteArray
 | .leaf x => atomB x.f0 x.f1
 | .un a x => sgn x.f0 ++ textT a
 | .bin a b x => (((⟨#[40]⟩ : ByteArray) ++ textT a) ++ sgn x.f0) ++ textT b ++ (⟨#[41]⟩ : ByteArray)
theorem sgn_size {op : Int} (h0 : 0 ≤ op) (h1 : op ≤ 8) : (sgn op).size = 1 := by
 unfold sgn
 rw [ByteArray.size_extract]
 show min _ 9 - _ = 1
 omega
theorem leaf_n {x : S35} (h : okT (.leaf x)) : (x.f0 = 1 ∧ 0 ≤ x.f1 ∧ x.f1 ≤ 2) ∨ (x.f0 = 2 ∧ 0 ≤ x.f1 ∧ x.f1 ≤ 1) := by
 obtain ⟨h1, h2⟩ := h
 rcases need_cases x.f0 with ⟨_, e⟩ | ⟨e, _⟩ | ⟨e, _⟩ | ⟨e, _⟩
 ·unfold nOk at h2
  rcases e with e | e
  ·rw [if_pos e] at h2; exact .inl ⟨e, h2⟩
  ·rw [if_neg (by omega), if_pos e] at h2; exact .inr ⟨e, h2⟩
 all_goals omega
theorem atomB_size {x : S35} (h : okT (.leaf x)) : (atomB x.f0 x.f1).size = 1 := by
 unfold atomB
 rcases leaf_n h with ⟨e, h0, h1⟩ | ⟨e, h0, h1⟩
 ·rw [if_pos e, ByteArray.size_extract]
  show min _ 3 - _ = 1
  omega
 ·rw [if_neg (by omega), ByteArray.size_extract]
  show min _ 2 - _ = 1
  omega
theorem textT_size : ∀ t : Tr, okT t → (textT t).size ≤ 3 * (post t).length
 | .leaf x, h => by rw [textT, atomB_size h]; simp [post]
 | .un a x, h => by
  have h1 := textT_size a h.1
  have h2 := un_of h
  rw [textT, ByteArray.size_append, sgn_size (by omega) (by omega)]
  simp only [post, List.length_append, List.length_singleton]; omega
 | .bin a b x, h => by
  have h1 := textT_size a h.1
  have h2 := textT_size b h.2.1
  have h3 := bin_of h
  rw [textT, ByteArray.size_append, ByteArray.size_append, ByteArray.size_append, ByteArray.size_append, sgn_size (by omega) (by omega)]
  simp only [post, List.length_append, List.length_singleton]
  show 1 + _ + 1 + _ + 1 ≤ _
  omega
theorem sg3 : (⟨#[33]⟩ : ByteArray) = sgn 3 := by decide +kernel
theorem sg4 : (⟨#[88]⟩ : ByteArray) = sgn 4 := by decide +kernel
theorem sg5 : (⟨#[38, 124, 85, 82]⟩ : ByteArray).extract 0 1 = sgn 5 := by decide +kernel
theorem sg6 : (⟨#[38, 124, 85, 82]⟩ : ByteArray).extract 1 2 = sgn 6 := by decide +kernel
theorem sg7 : (⟨#[38, 124, 85, 82]⟩ : ByteArray).extract 2 3 = sgn 7 := by decide +kernel
theorem sg8 : (⟨#[38, 124, 85, 82]⟩ : ByteArray).extract 3 4 = sgn 8 := by decide +kernel
theorem at1 : ∀ n : Nat, n < 3 → strOfNums [wrap64 (112 + (n : Int)) % 256] = atomB 1 n := by decide +kernel
theorem at2 : ∀ n : Nat, n < 2 → strOfNums [IntKind.u64.wrap (48 + IntKind.u64.wrap (n : Int)) % 256] = atomB 2 n := by decide +kernel
theorem at3 : ∀ n : Nat, n < 2 → IntKind.u64.wrap (n : Int) < 10 := by decide +kernel
theorem l10Text_ev (l : List S35) (hl : l.length ≤ 1048576) : ∀ (t : Tr) (i : Nat), okT t → At l t i → Ev (fun k => spec_l10Text.f k l ((i + (post t).length - 1 : Nat) : Int)) (textT t)
 | .leaf x, i, ok, h => by
  obtain ⟨h1, h2⟩ := h.leaf_root
  rw [show i + (post (.leaf x)).length - 1 = i from by simp [post]]
  refine Ev.step (fun k => by simp only [spec_l10Text.f]; rw [if_pos (by omega), if_pos (by omega), rdS, h2]) ?_
  rcases leaf_n ok with ⟨e, n0, n1⟩ | ⟨e, n0, n1⟩
  ·obtain ⟨n, hn⟩ := Int.eq_ofNat_of_zero_le n0
   refine ev_pos e (ev_eq (Ev.now _) ?_)
   rw [textT, e, hn]; exact at1 n (by omega)
  ·obtain ⟨n, hn⟩ := Int.eq_ofNat_of_zero_le n0
   refine ev_neg (by omega) (ev_pos e ?_)
   refine Ev.bind (a := atomB x.f0 x.f1) ?_ (Ev.now _)
   rw [hn]
   refine Ev.step (f := fun _ => some (strOfNums [IntKind.u64.wrap (48 + IntKind.u64.wrap (n : Int)) % 256])) (fun k => by rw [spec_l1Num.f, if_pos (at3 n (by omega))]) (ev_eq (Ev.now _) ?_)
   rw [e]; exact at2 n (by omega)
 | .un a x, i, ok, h => by
  obtain ⟨h1, h2⟩ := h.un_root
  obtain ⟨hx, hx1⟩ := un_of ok
  have ha := post_pos a
  have hs := textT_size a ok.1
  have hlt := h.un.lt
  rw [last_un]
  refine Ev.step (fun k => by simp only [spec_l10Text.f]; rw [if_pos (by omega), if_pos (by omega), rdS, h2, wpred (by omega) (by omega)]) ?_
  have ih := l10Text_ev l hl a i ok.1 h.un
  refine ev_neg (by omega) (ev_neg (by omega) ?_)
  by_cases h3 : x.f0 = 3
  ·exact ev_pos h3 (Ev.bind ih (ev_pos (by omega) (ev_eq (Ev.now _) (by rw [textT, h3, sg3]))))
  ·exact ev_neg h3 (ev_pos (by omega) (Ev.bind ih (ev_pos (by omega) (ev_eq (Ev.now _) (by rw [textT, show x.f0 = 4 by omega, sg4])))))
 | .bin a b x, i, ok, h => by
  obtain ⟨h1, h2⟩ := h.bin_root
  obtain ⟨hx, hx1⟩ := bin_of ok
  have ha := post_pos a
  have hb := post_pos b
  have sa := textT_size a ok.1
  have sb := textT_size b ok.2.1
  have la := h.left.lt
  have lb := h.right.lt
  rw [last_bin]
  refine Ev.step (fun k => by simp only [spec_l10Text.f]; rw [if_pos (by omega), if_pos (by omega), rdS, h2, wpred (by omega) (by omega)]) ?_
  refine ev_neg (by omega) (ev_neg (by omega) (ev_neg (by omega) (ev_neg (by omega) ?_)))
  have fB := l10From_ev l hl b (i + (post a).length) ok.2.1 h.right
  have pA := l10Text_ev l hl a i ok.1 h.left
  have pB := l10Text_ev l hl b (i + (post a).length) ok.2.1 h.right
  have w1 : wrap64 (((i + (post a).length : Nat) : Int) - 1) = ((i + (post a).length - 1 : Nat) : Int) := wpred (by omega) (by omega)
  have e1 : wrap64 (x.f0 - 5) = x.f0 - 5 := wid (by omega) (by omega)
  have e2 : wrap64 (x.f0 - 5 + 1) = x.f0 - 4 := by rw [wid (by omega) (by omega)]; omega
  have e3 : (⟨#[38, 124, 85, 82]⟩ : ByteArray).extract (x.f0 - 5).toNat (x.f0 - 4).toNat = sgn x.f0 := by
   rcases hx with e | e | e | e <;> rw [e]
   ·exact sg5
   ·exact sg6
   ·exact sg7
   ·exact sg8
  have sz := sgn_size (op := x.f0) (by omega) (by omega)
  have s40 : (⟨#[40]⟩ : ByteArray).size = 1 := rfl
  refine Ev.bind fB ?_
  rw [w1]
  refine Ev.bind pA (ev_pos (by omega) ?_)
  rw [e1, e2, e3]
  refine ev_pos (by omega) (ev_pos (by omega) (ev_pos (by omega) (ev_pos (by rw [ByteArray.size_append]; omega) ?_)))
  refine Ev.bind pB (ev_pos (by rw [ByteArray.size_append, ByteArray.size_append]; omega) (ev_pos (by rw [ByteArray.size_append, ByteArray.size_append, ByteArray.size_append]; omega) (ev_eq (Ev.now _) ?_)))
  rw [textT]
theorem l1In_eq (n lo hi : Int) : spec_l1In.f n lo hi = some (decide (lo ≤ n ∧ n ≤ hi)) := by
 simp only [spec_l1In.f]
 by_cases h : n ≥ lo
 ·rw [if_pos h]; congr 1; simp; intro _; exact h
 ·rw [if_neg h]; congr 1; simp; intro h'; omega
theorem l1In_tells (n lo hi : Int) : Tells (fun _ => spec_l1In.f n lo hi) (lo ≤ n ∧ n ≤ hi) := by
 simp only [l1In_eq]; exact tells_some (by simp)
theorem l10N_tells (x : S35) : Tells (fun _ => spec_l10N.f x.f0 x.f1) (nOk x) := by
 simp only [spec_l10N.f, nOk]
 by_cases h1 : x.f0 = 1
 ·simp only [if_pos h1]
  exact tells_ask (l1In_tells _ _ _) (fun h => tells_yes h) (fun h => tells_no h)
 simp only [if_neg h1]
 by_cases h2 : x.f0 = 2
 ·simp only [if_pos h2]
  exact tells_ask (l1In_tells _ _ _) (fun h => tells_yes h) (fun h => tells_no h)
 simp only [if_neg h2]
 exact tells_some (by simp)
theorem spec_GoodSaid_l0 (l : List S35) (hl : l.length ≤ 16) (d : Nat) : ∀ (j : Nat) (c : Int), 0 ≤ c → c ≤ j → j + d = l.length →
  Tells (fun k => spec_GoodSaid.l0 k c l (l.length : Int) (j : Int)) (gs (l.drop j) c) := by
 induction d with
 | zero =>
  intro j c h0 h1 hd
  refine tells_step (f := fun _ => some (c == 1)) (fun k => by simp only [spec_GoodSaid.l0]; rw [if_neg (by omega)]) (tells_some ?_)
  rw [List.drop_of_length_le (by omega)]; simp [gs]
 | succ d ih =>
  intro j c h0 h1 hd
  have hj : j < l.length := by omega
  have er : rd_T35 l (j : Int) = l.getD j z35 := by simp [rd_T35]
  refine tells_step (fun k => by simp only [spec_GoodSaid.l0]; rw [if_pos (by omega), if_pos (by omega), if_pos (by omega), wsucc (by omega), er]) ?_
  rw [drop_cons hj z35]
  generalize l.getD j z35 = x
  have hn := need_le x.f0
  refine tells_bind (l10Need_ev x.f0) (tells_if (fun h => tells_no (fun g => by have := g.1; omega)) (fun h => ?_))
  refine tells_ask (l10N_tells x) (fun hx => tells_pos rfl ?_) (fun hx => tells_neg (by simp) (tells_no (fun g => hx g.2.1)))
  refine tells_if (fun h2 => tells_no (fun g => by have := g.2.2.1; omega)) (fun h2 => ?_)
  rw [wid (x := 1 - needS x.f0) (by omega) (by omega), wid (by omega) (by omega)]
  exact tells_iff (ih (j + 1) _ (by omega) (by omega) (by omega)) ⟨fun g => ⟨by omega, hx, by omega, g⟩, fun g => g.2.2.2⟩
theorem spec_GoodSaid_tells (l : List S35) (hl : l.length ≤ 9223372036854775807) : Tells (fun k => spec_GoodSaid.f k l) (GoodS l) := by
 refine tells_ask (l1In_tells _ _ _) (fun h => tells_pos rfl ?_) (fun h => tells_neg (by simp) (tells_no (fun g => h ⟨by have := g.1; omega, by have := g.2.1; omega⟩)))
 exact tells_iff (spec_GoodSaid_l0 l (by omega) l.length 0 0 (by omega) (by omega) (by omega)) ⟨fun g => ⟨by omega, by omega, by simpa using g⟩, fun g => by simpa using g.2.2⟩
def ixA (c : Int) : Int := Go.Lib.indexByte [112, 113, 114, 48, 49, 33, 88, 40] c.toNat.toUInt8
def ixO (c : Int) : Int := Go.Lib.indexByte [38, 124, 85, 82] c.toNat.toUInt8
def ixC (c : Int) : Int := Go.Lib.indexByte [41] c.toNat.toUInt8
def opOf (c : Int) : Int := if 82 = c then 8 else if 85 = c then 7 else if 124 = c then 6 else if 38 = c then 5 else 0
theorem ixA_nat : ∀ n : Nat, n < 256 → ixA n = if n = 112 then 0 else if n = 113 then 1 else if n = 114 then 2 else if n = 48 then 3 else if n = 49 then 4 else if n = 33 then 5 else if n = 88 then 6 else if n = 40 then 7 else -1 := by decide +kernel
theorem ixO_nat : ∀ n : Nat, n < 256 → (ixO n = -1 ∧ opOf n = 0) ∨ (0 ≤ ixO n ∧ ixO n ≤ 3 ∧ opOf n = 5 + ixO n) := by decide +kernel
theorem ixC_nat : ∀ n : Nat, n < 256 → ixC n = if n = 41 then 0 else -1 := by decide +kernel
theorem gs_post : ∀ (t : Tr) (l : List S35) (c : Int), okT t → 0 ≤ c → gs l (c + 1) → gs (post t ++ l) c
 | .leaf x, l, c, ok, hc, h => by
  rw [post]
  exact ⟨by rw [ok.1]; omega, ok.2, by rw [ok.1]; omega, by rw [ok.1]; exact h⟩
 | .un a x, l, c, ok, hc, h => by
  rw [post, List.append_assoc]
  refine gs_post a _ c ok.1 hc ?_
  have e := ok.2.1
  exact ⟨by rw [e]; omega, ok.2.2, by rw [e]; omega, by rw [e, show c + 1 + (1 - 1) = c + 1 by omega]; exact h⟩
 | .bin a b x, l, c, ok, hc, h => by
  rw [post, List.append_assoc, List.append_assoc]
  refine gs_post a _ c ok.1 hc ?_
  refine gs_post b _ (c + 1) ok.2.1 (by omega) ?_
  have e := ok.2.2.1
  exact ⟨by rw [e]; omega, ok.2.2.2, by rw [e]; omega, by rw [e, show c + 1 + 1 + (1 - 2) = c + 1 by omega]; exact h⟩
theorem post_good {t : Tr} (h : okT t) (hl : (post t).length ≤ 16) : GoodS (post t) := by
 have h1 := post_pos t
 have h2 := gs_post t [] 0 h (by omega) (by show (0 : Int) + 1 = 1; omega)
 rw [List.append_nil] at h2
 exact ⟨h1, hl, h2⟩
section
variable {l : List S35} (hl : l.length ≤ 16) {r : ByteArray × Bool}
include hl
theorem txt_leaf {j : Nat} (hj : j < l.length) {x : S35} (hx : l.getD j z35 = x) (ok : okT (.leaf x)) (st : List ByteArray) (hs : st.length ≤ 16)
  (h : Ev (fun k => impl_SaidText.l0 k (st ++ [atomB x.f0 x.f1]) l (l.length : Int) ((j + 1 : Nat) : Int)) r) : Ev (fun k => impl_SaidText.l0 k st l (l.length : Int) (j : Int)) r := by
 have er : rd_T35 l (j : Int) = x := by rw [rdS, hx]
 have hn := leaf_n ok
 have e1 : wrap64 (x.f0 + 1) = x.f0 + 1 := wid (by omega) (by omega)
 have e2 : wrap64 (x.f1 + 1) = x.f1 + 1 := wid (by omega) (by omega)
 refine Ev.step (fun k => by rw [impl_SaidText.l0, if_pos (by omega), if_pos (by omega), if_pos (by omega), er, e1, e2, if_pos (by omega), if_pos (by omega), if_pos (by omega), wsucc (by omega)]) ?_
 refine Ev.bind (operandsOfSaid_ev _) ?_
 rw [show needS x.f0 = 0 from ok.1]
 refine ev_pos rfl ?_
 rcases hn with ⟨e, n0, n1⟩ | ⟨e, n0, n1⟩
 ·refine Ev.bind (a := (⟨#[112, 113, 114]⟩ : ByteArray)) (ev_const (by rw [mapAt.f, if_pos e])) (ev_pos n0 (ev_pos (by omega) (ev_pos (by show x.f1 + 1 ≤ ((3 : Nat) : Int); omega) (ev_pos (by omega) ?_))))
  rw [atomB, if_pos e] at h; exact h
 ·refine Ev.bind (a := (⟨#[48, 49]⟩ : ByteArray)) (ev_const (by rw [mapAt.f, if_neg (by omega), if_pos e])) (ev_pos n0 (ev_pos (by omega) (ev_pos (by show x.f1 + 1 ≤ ((2 : Nat) : Int); omega) (ev_pos (by omega) ?_))))
  rw [atomB, if_neg (by omega)] at h; exact h
theorem txt_un {j : Nat} (hj : j < l.length) {a : Tr} {x : S35} (hx : l.getD j z35 = x) (ok : okT (.un a x)) (st : List ByteArray) (hs : st.length ≤ 16) (ta : ByteArray) (hta : ta.size ≤ 1000)
  (h : Ev (fun k => impl_SaidText.l0 k (st ++ [sgn x.f0 ++ ta]) l (l.length : Int) ((j + 1 : Nat) : Int)) r) : Ev (fun k => impl_SaidText.l0 k (st ++ [ta]) l (l.length : Int) (j : Int)) r := by
 have er : rd_T35 l (j : Int) = x := by rw [rdS, hx]
 obtain ⟨hn, _⟩ := un_of ok
 have e1 : wrap64 (x.f0 + 1) = x.f0 + 1 := wid (by omega) (by omega)
 have el : ((st ++ [ta]).length : Int) = (st.length : Int) + 1 := by rw [List.length_append, List.length_singleton]; omega
 have e2 : wrap64 ((st.length : Int) + 1 - 1) = (st.length : Int) := by rw [wid (by omega) (by omega)]; omega
 have e3 : rdOf ByteArray.empty (st ++ [ta]) (st.length : Int) = ta := by simp [rdOf]
 have e4 : (st ++ [ta]).set ((st.length : Int)).toNat (sgn x.f0 ++ ta) = st ++ [sgn x.f0 ++ ta] := by simp
 have sz := sgn_size (op := x.f0) (by omega) (by omega)
 refine Ev.step (fun k => by rw [impl_SaidText.l0, if_pos (by omega), if_pos (by omega), if_pos (by omega), er, e1, if_pos (by omega), if_pos (by omega), if_pos (by omega), wsucc (by omega), el, e2, e3]) ?_
 refine Ev.bind (operandsOfSaid_ev _) ?_
 rw [show needS x.f0 = 1 from ok.2.1]
 refine ev_neg (by omega) (ev_pos rfl (ev_pos (by omega) (ev_pos (by omega) (ev_pos (by show (sgn x.f0).size + ta.size ≤ _; omega) ?_))))
 show Ev (fun k => impl_SaidText.l0 k ((st ++ [ta]).set ((st.length : Int)).toNat (sgn x.f0 ++ ta)) l (l.length : Int) ((j + 1 : Nat) : Int)) r
 rw [e4]; exact h
theorem txt_bin {j : Nat} (hj : j < l.length) {a b : Tr} {x : S35} (hx : l.getD j z35 = x) (ok : okT (.bin a b x)) (st : List ByteArray) (hs : st.length ≤ 16) (ta tb : ByteArray) (hta : ta.size ≤ 1000) (htb : tb.size ≤ 1000)
  (h : Ev (fun k => impl_SaidText.l0 k (st ++ [(((⟨#[40]⟩ : ByteArray) ++ ta) ++ sgn x.f0) ++ tb ++ (⟨#[41]⟩ : ByteArray)]) l (l.length : Int) ((j + 1 : Nat) : Int)) r) : Ev (fun k => impl_SaidText.l0 k (st ++ [ta, tb]) l (l.length : Int) (j : Int)) r := by
 have er : rd_T35 l (j : Int) = x := by rw [rdS, hx]
 obtain ⟨hn, _⟩ := bin_of ok
 have e1 : wrap64 (x.f0 + 1) = x.f0 + 1 := wid (by omega) (by omega)
 have el : ((st ++ [ta, tb]).length : Int) = (st.length : Int) + 2 := by rw [List.length_append]; simp
 have e2 : wrap64 ((st.length : Int) + 2 - 1) = ((st.length + 1 : Nat) : Int) := by rw [wid (by omega) (by omega)]; omega
 have e2' : wrap64 (((st.length + 1 : Nat) : Int) - 1) = (st.length : Int) := by rw [wid (by omega) (by omega)]; omega
 have e3 : rdOf ByteArray.empty (st ++ [ta, tb]) (st.length : Int) = ta := by simp [rdOf]
 have e3' : rdOf ByteArray.empty (st ++ [ta, tb]) ((st.length + 1 : Nat) : Int) = tb := by
  unfold rdOf
  rw [Int.toNat_natCast, List.getD_eq_getElem?_getD, List.getElem?_append_right (by omega), show st.length + 1 - st.length = 1 by omega]; rfl
 have e4 : (st ++ [ta, tb]).take ((st.length : Int)).toNat = st := by simp
 have sz := sgn_size (op := x.f0) (by omega) (by omega)
 have s40 : (⟨#[40]⟩ : ByteArray).size = 1 := rfl
 refine Ev.step (fun k => by rw [impl_SaidText.l0, if_pos (by omega), if_pos (by omega), if_pos (by omega), er, e1, if_pos (by omega), if_pos (by omega), if_pos (by omega), wsucc (by omega), el, e2, e2', e3, e3', e4]) ?_
 refine Ev.bind (operandsOfSaid_ev _) ?_
 rw [show needS x.f0 = 2 from ok.2.2.1]
 refine ev_neg (by omega) (ev_neg (by omega) (ev_pos (by omega) (ev_pos (by omega) (ev_pos (by omega) ?_))))
 refine ev_pos (by show ((⟨#[40]⟩ : ByteArray) ++ ta).size + (sgn x.f0).size ≤ _; rw [ByteArray.size_append]; omega) (ev_pos (by omega) (ev_pos (by omega) (ev_pos (by omega) (Ev.bind (Ev.now _) ?_))))
 refine ev_pos (by show (((⟨#[40]⟩ : ByteArray) ++ ta) ++ sgn x.f0).size + tb.size ≤ _; rw [ByteArray.size_append, ByteArray.size_append]; omega) (ev_pos (by show ((((⟨#[40]⟩ : ByteArray) ++ ta) ++ sgn x.f0) ++ tb).size + 1 ≤ _; rw [ByteArray.size_append, ByteArray.size_append, ByteArray.size_append]; omega) (ev_pos (by omega) ?_))
 exact h
theorem txt_tree : ∀ (t : Tr) (i : Nat) (st : List ByteArray), okT t → At l t i → st.length ≤ i → Ev (fun k => impl_SaidText.l0 k (st ++ [textT t]) l (l.length : Int) ((i + (post t).length : Nat) : Int)) r → Ev (fun k => impl_SaidText.l0 k st l (l.length : Int) (i : Int)) r
 | .leaf x, i, st, ok, h, hs, hr => by
  obtain ⟨h1, h2⟩ := h.leaf_root
  rw [show i + (post (.leaf x)).length = i + 1 from by simp [post]] at hr
  exact txt_leaf hl h1 h2 ok st (by omega) hr
 | .un a x, i, st, ok, h, hs, hr => by
  obtain ⟨h1, h2⟩ := h.un_root
  have hz := textT_size a ok.1
  have hlt := h.un.lt
  rw [show i + (post (.un a x)).length = i + (post a).length + 1 from by simp [post]; omega] at hr
  exact txt_tree a i st ok.1 h.un hs (txt_un hl h1 h2 ok st (by omega) _ (by omega) hr)
 | .bin a b x, i, st, ok, h, hs, hr => by
  obtain ⟨h1, h2⟩ := h.bin_root
  have ha := post_pos a
  have za := textT_size a ok.1
  have zb := textT_size b ok.2.1
  have la := h.left.lt
  have lb := h.right.lt
  rw [show i + (post (.bin a b x)).length = i + (post a).length + (post b).length + 1 from by simp [post]; omega] at hr
  refine txt_tree a i st ok.1 h.left hs (txt_tree b (i + (post a).length) (st ++ [textT a]) ok.2.1 h.right (by rw [List.length_append, List.length_singleton]; omega) ?_)
  rw [show st ++ [textT a] ++ [textT b] = st ++ [textT a, textT b] from by simp]
  exact txt_bin hl h1 h2 ok st (by omega) _ _ (by omega) (by omega) hr
end
theorem SaidText_tree (t : Tr) (ok : okT t) (h16 : (post t).length ≤ 16) : Ev (fun k => spec_SaidText.f k (post t)) (textT t, true) ∧ Ev (fun k => impl_SaidText.f k (post t)) (textT t, true) := by
 have hg := post_good ok h16
 have hp := post_pos t
 refine ⟨Ev.bind (tells_ev (spec_GoodSaid_tells _ (by omega)) hg) (ev_pos rfl ?_), Ev.bind (tells_ev (impl_GoodSaid_tells _ (by omega)) hg) (ev_pos rfl ?_)⟩
 ·rw [wpred hp (by omega)]
  have := l10Text_ev (post t) (by omega) t 0 ok (At.whole t)
  rw [Nat.zero_add] at this
  exact Ev.bind this (Ev.now _)
 ·refine txt_tree h16 t 0 [] ok (At.whole t) (by simp) ?_
  exact Ev.step (f := fun _ => some (textT t, true)) (fun k => by rw [impl_SaidText.l0, if_neg (by omega), if_pos (by simp)]; simp [rdOf]) (Ev.now _)
theorem SaidText_no (l : List S35) (hl : l.length ≤ 9223372036854775807) (hg : ¬ GoodS l) : Ev (fun k => spec_SaidText.f k l) ((⟨#[]⟩ : ByteArray), false) ∧ Ev (fun k => impl_SaidText.f k l) ((⟨#[]⟩ : ByteArray), false) :=
 ⟨Ev.bind (tells_ev_not (spec_GoodSaid_tells l hl) hg) (ev_neg (by simp) (Ev.now _)), Ev.bind (tells_ev_not (impl_GoodSaid_tells l hl) hg) (ev_neg (by simp) (Ev.now _))⟩
theorem SaidText_both (l : List S35) (hl : l.length ≤ 9223372036854775807) : ∃ r, Ev (fun k => spec_SaidText.f k l) r ∧ Ev (fun k => impl_SaidText.f k l) r := by
 by_cases hg : GoodS l
 ·obtain ⟨t, ok, rfl⟩ := tree_of hg
  exact ⟨_, SaidText_tree t ok hg.2.1⟩
 ·exact ⟨_, SaidText_no l hl hg⟩
theorem growSaid_eq (x : Int) (h0 : 0 ≤ x) (h1 : x ≤ 1048576) : impl_Said_35.f x = some [] := by
 rw [impl_Said_35.f, if_pos h0, if_pos (by omega)]
theorem concatSaid_l1 (ls : List (List S35)) (hf : ls.flatten.length ≤ 1048576) (hl : ls.length ≤ 1048576) (d : Nat) : ∀ (j : Nat), j + d = ls.length → Ev (fun k => impl_Said_30.l1 k (ls.take j).flatten ls (ls.length : Int) (j : Int)) ls.flatten := by
 induction d with
 | zero =>
  intro j hd
  refine ev_eq (Ev.step (f := fun _ => some (ls.take j).flatten) (fun k => by simp only [impl_Said_30.l1]; rw [if_neg (by omega)]) (Ev.now _)) ?_
  rw [List.take_of_length_le (by omega)]
 | succ d ih =>
  intro j hd
  have hj : j < ls.length := by omega
  have er : rd_L4 ls (j : Int) = ls[j] := by simp [rd_L4, List.getElem?_eq_getElem hj]
  have et : (ls.take (j + 1)).flatten = (ls.take j).flatten ++ ls[j] := by rw [List.take_succ_eq_append_getElem hj, List.flatten_append]; simp
  have eL : (ls.take (j + 1)).flatten.length ≤ ls.flatten.length := by
   conv => rhs; rw [← List.take_append_drop (j + 1) ls, List.flatten_append, List.length_append]
   omega
  have e3 := congrArg List.length et
  rw [List.length_append] at e3
  refine Ev.step (fun k => by simp only [impl_Said_30.l1]; rw [if_pos (by omega), if_pos (by omega), if_pos (by omega), er, if_pos (by omega), wsucc (by omega), ← et]) (ih (j + 1) (by omega))
theorem concatSaid_l0 (ls : List (List S35)) (hf : ls.flatten.length ≤ 1048576) (hl : ls.length ≤ 1048576) (d : Nat) : ∀ (j : Nat), j + d = ls.length → Ev (fun k => impl_Said_30.l0 k ls ((ls.take j).flatten.length : Int) ls (ls.length : Int) (j : Int)) ls.flatten := by
 induction d with
 | zero =>
  intro j hd
  have e1 : ls.take j = ls := List.take_of_length_le (by omega)
  rw [e1]
  refine Ev.step (fun k => by simp only [impl_Said_30.l0]; rw [if_neg (by omega), growSaid_eq _ (by omega) (by omega), Option.bind_some]) ?_
  exact concatSaid_l1 ls hf hl ls.length 0 (by omega)
 | succ d ih =>
  intro j hd
  have hj : j < ls.length := by omega
  have er : rd_L4 ls (j : Int) = ls[j] := by simp [rd_L4, List.getElem?_eq_getElem hj]
  have et : (ls.take (j + 1)).flatten = (ls.take j).flatten ++ ls[j] := by rw [List.take_succ_eq_append_getElem hj, List.flatten_append]; simp
  have eL : (ls.take (j + 1)).flatten.length ≤ ls.flatten.length := by
   conv => rhs; rw [← List.take_append_drop (j + 1) ls, List.flatten_append, List.length_append]
   omega
  have e3 := congrArg List.length et
  rw [List.length_append] at e3
  have e4 : wrap64 (((ls.take j).flatten.length : Int) + (ls[j].length : Int)) = ((ls.take (j + 1)).flatten.length : Int) := by rw [wid (by omega) (by omega)]; omega
  refine Ev.step (fun k => by simp only [impl_Said_30.l0]; rw [if_pos (by omega), if_pos (by omega), if_pos (by omega), er, e4, if_neg (by omega), wsucc (by omega)]) (ih (j + 1) (by omega))
theorem concatSaid_ev (ls : List (List S35)) (hf : ls.flatten.length ≤ 1048576) (hl : ls.length ≤ 1048576) : Ev (fun k => impl_Said_30.f k ls) ls.flatten :=
 concatSaid_l0 ls hf hl ls.length 0 (by omega)
theorem bt_eq (s : ByteArray) (j : Nat) (h : j < s.size) : bt s (j : Int) = (s[j].toNat : Int) := by
 unfold bt
 rw [dif_pos (show ((j : Nat) : Int).toNat < s.size by rw [Int.toNat_natCast]; exact h)]
 congr 2
theorem bt_left (A B : ByteArray) (j : Nat) (h : j < A.size) : bt (A ++ B) (j : Int) = bt A (j : Int) := by
 rw [bt_eq (A ++ B) j (by rw [ByteArray.size_append]; omega), bt_eq A j h, ByteArray.getElem_append_left h]
theorem bt_right (A B : ByteArray) (j : Nat) (h : j < B.size) : bt (A ++ B) ((A.size + j : Nat) : Int) = bt B (j : Int) := by
 rw [bt_eq (A ++ B) (A.size + j) (by rw [ByteArray.size_append]; omega), bt_eq B j h, ByteArray.getElem_append_right (by omega)]
 congr 3; omega
def TAt (x q : ByteArray) (a : Nat) : Prop := a + q.size ≤ x.size ∧ ∀ j, j < q.size → bt x ((a + j : Nat) : Int) = bt q (j : Int)
theorem TAt.left {x A B : ByteArray} {a : Nat} (h : TAt x (A ++ B) a) : TAt x A a := by
 have h1 := h.1
 rw [ByteArray.size_append] at h1
 exact ⟨by omega, fun j hj => by rw [h.2 j (by rw [ByteArray.size_append]; omega), bt_left A B j hj]⟩
theorem TAt.right {x A B : ByteArray} {a : Nat} (h : TAt x (A ++ B) a) : TAt x B (a + A.size) := by
 have h1 := h.1
 rw [ByteArray.size_append] at h1
 exact ⟨by omega, fun j hj => by rw [Nat.add_assoc, h.2 (A.size + j) (by rw [ByteArray.size_append]; omega), bt_right A B j hj]⟩
theorem TAt.append {x A B : ByteArray} {a : Nat} (hA : TAt x A a) (hB : TAt x B (a + A.size)) : TAt x (A ++ B) a := by
 have h1 := hB.1
 refine ⟨by rw [ByteArray.size_append]; omega, fun j hj => ?_⟩
 rw [ByteArray.size_append] at hj
 by_cases h : j < A.size
 ·rw [hA.2 j h, bt_left A B j h]
 ·have e : j = A.size + (j - A.size) := by omega
  rw [e, ← Nat.add_assoc, hB.2 _ (by omega), bt_right A B _ (by omega)]
theorem TAt.one {x q : ByteArray} {a : Nat} (hq : q.size = 1) (ha : a < x.size) (h : bt x (a : Int) = bt q 0) : TAt x q a :=
 ⟨by omega, fun j hj => by
  obtain rfl : j = 0 := by omega
  exact h⟩
theorem TAt.byte {x q : ByteArray} {a : Nat} (h : TAt x q a) (hq : q.size = 1) : a < x.size ∧ bt x (a : Int) = bt q 0 := ⟨by have := h.1; omega, h.2 0 (by omega)⟩
theorem TAt.whole (q : ByteArray) : TAt q q 0 := ⟨by omega, fun j _ => by rw [Nat.zero_add]⟩
theorem TAt.eq {x q : ByteArray} (h : TAt x q 0) (hs : x.size = q.size) : x = q := by
 refine ByteArray.ext_getElem hs (fun i hi hi' => ?_)
 have h1 := h.2 i hi'
 rw [Nat.zero_add, bt_eq x i hi, bt_eq q i hi'] at h1
 exact UInt8.toNat_inj.1 (by omega)
theorem b40 : bt (⟨#[40]⟩ : ByteArray) 0 = 40 := by decide +kernel
theorem b41 : bt (⟨#[41]⟩ : ByteArray) 0 = 41 := by decide +kernel
theorem bsg : ∀ n : Nat, 3 ≤ n → n ≤ 8 → bt (sgn n) 0 = if n = 3 then 33 else if n = 4 then 88 else if n = 5 then 38 else if n = 6 then 124 else if n = 7 then 85 else 82 := by
 have h : ∀ n : Nat, n < 9 → 3 ≤ n → bt (sgn n) 0 = if n = 3 then 33 else if n = 4 then 88 else if n = 5 then 38 else if n = 6 then 124 else if n = 7 then 85 else 82 := by decide +kernel
 exact fun n h3 h8 => h n (by omega) h3
theorem ba1 : ∀ n : Nat, n < 3 → bt (atomB 1 n) 0 = 112 + n := by decide +kernel
theorem ba2 : ∀ n : Nat, n < 2 → bt (atomB 2 n) 0 = 48 + n := by decide +kernel
theorem opOf_sgn : ∀ n : Nat, n < 256 → opOf n = 0 ∨ bt (sgn (opOf n)) 0 = n := by decide +kernel
abbrev bsA : ByteArray := ⟨#[112, 113, 114, 48, 49, 33, 88, 40]⟩
abbrev bsO : ByteArray := ⟨#[38, 124, 85, 82]⟩
abbrev bsC : ByteArray := ⟨#[41]⟩
section
variable {x : ByteArray}
theorem take_wrong (bs : ByteArray) (a : Int) : Ev (fun k => impl_saidReader_take.f k x a true bs) (-1, x, a, true) :=
 Ev.congr (fun k => by rw [impl_saidReader_take.f, if_pos rfl]) (Ev.step (f := fun _ => some (-1, x, a, true)) (fun k => by simp only [impl_saidReader_take.j0]; rw [if_pos trivial]) (Ev.now _))
theorem take_end (bs : ByteArray) : Ev (fun k => impl_saidReader_take.f k x (x.size : Int) false bs) (-1, x, (x.size : Int), true) :=
 Ev.congr (fun k => by rw [impl_saidReader_take.f, if_neg (by simp)]) (Ev.step (f := fun _ => some (-1, x, (x.size : Int), true)) (fun k => by simp only [impl_saidReader_take.j0]; rw [if_pos (beq_self_eq_true _)]) (Ev.now _))
theorem take_no {bs : ByteArray} {a : Nat} (ha : a < x.size) {i : Int} (hi : Go.Lib.indexByte bs.data.toList (bt x (a : Int)).toNat.toUInt8 = i) (h : i < 0) : Ev (fun k => impl_saidReader_take.f k x (a : Int) false bs) (-1, x, (a : Int), true) := by
 have e : ((a : Int) == (x.size : Int)) = false := by simp; omega
 refine Ev.congr (fun k => by rw [impl_saidReader_take.f, if_neg (by simp), e]) (Ev.step (f := fun _ => some (-1, x, (a : Int), true)) (fun k => ?_) (Ev.now _))
 simp only [impl_saidReader_take.j0, strings_IndexByte.f, Option.bind_some, hi]
 rw [if_neg (by simp), if_pos (by omega), if_pos (by omega), if_pos h]
theorem take_yes {bs : ByteArray} {a : Nat} (ha : a < x.size) (hs : x.size ≤ 1000) {i : Int} (hi : Go.Lib.indexByte bs.data.toList (bt x (a : Int)).toNat.toUInt8 = i) (h : 0 ≤ i) : Ev (fun k => impl_saidReader_take.f k x (a : Int) false bs) (i, x, ((a + 1 : Nat) : Int), false) := by
 have e : ((a : Int) == (x.size : Int)) = false := by simp; omega
 refine Ev.congr (fun k => by rw [impl_saidReader_take.f, if_neg (by simp), e]) (Ev.step (f := fun _ => some (i, x, ((a + 1 : Nat) : Int), false)) (fun k => ?_) (Ev.now _))
 simp only [impl_saidReader_take.j0, strings_IndexByte.f, Option.bind_some, hi]
 rw [if_neg (by simp), if_pos (by omega), if_pos (by omega), if_neg (by omega), wsucc (by omega)]
theorem said_wrong (a : Int) : Ev (fun k => impl_saidReader_said.f k x a true) ([], x, a, true) := by
 refine Ev.step (fun k => by rw [impl_saidReader_said.f]) ?_
 exact Ev.bind (take_wrong bsA a) (ev_pos (by show (-1 : Int) < 0; decide) (Ev.now _))
theorem said_in {a : Nat} (ha : a < x.size) (hs : x.size ≤ 1000) (hc : ixA (bt x (a : Int)) = 7) {f g : List S35} {e1 e2 e3 e4 i j : Int} {w1 w2 w3 w4 : Bool} (h1 : Ev (fun k => impl_saidReader_said.f k x ((a + 1 : Nat) : Int) false) (f, x, e1, w1))
  (h2 : Ev (fun k => impl_saidReader_take.f k x e1 w1 bsO) (i, x, e2, w2)) (h3 : Ev (fun k => impl_saidReader_said.f k x e2 w2) (g, x, e3, w3)) (h4 : Ev (fun k => impl_saidReader_take.f k x e3 w3 bsC) (j, x, e4, w4)) (hl : f.length + g.length ≤ 1000) :
  Ev (fun k => impl_saidReader_said.f k x (a : Int) false) (f ++ (g ++ [⟨wrap64 (5 + i), 0⟩]), x, e4, w4) := by
 refine Ev.step (fun k => by rw [impl_saidReader_said.f]) ?_
 refine Ev.bind (take_yes (bs := bsA) ha hs hc (by omega)) (ev_neg (by omega) (ev_neg (by omega) (ev_neg (by omega) (ev_neg (by omega) ?_))))
 refine Ev.bind h1 (Ev.bind h2 (Ev.bind h3 (Ev.bind h4 ?_)))
 have h5 := concatSaid_ev [f, g, [⟨wrap64 (5 + i), 0⟩]] (by simp; omega) (by simp)
 refine Ev.bind h5 (ev_eq (Ev.now _) ?_)
 simp
theorem op_step {e : Nat} (he : e < x.size) (f : List S35) (o : Int) {j : Nat} (hj : j < 4) {v : Int} (hv : bt bsO (j : Int) = v) {r : List S35 × Int × Bool}
  (h : Ev (fun k => spec_l10Read.l0 k x f (e : Int) (if v = bt x (e : Int) then 5 + (j : Int) else o) (5 + (j : Int) + 1)) r) : Ev (fun k => spec_l10Read.l0 k x f (e : Int) o (5 + (j : Int))) r := by
 have e1 : wrap64 (5 + (j : Int) - 5) = (j : Int) := by rw [wid (by omega) (by omega)]; omega
 have e2 : wrap64 (5 + (j : Int) + 1) = 5 + (j : Int) + 1 := wid (by omega) (by omega)
 by_cases c : v = bt x (e : Int)
 ·rw [if_pos c] at h
  exact Ev.step (fun k => by simp only [spec_l10Read.l0]; rw [if_pos (by omega), e1, if_pos (by omega), if_pos (by omega), if_pos (by omega), if_pos (by omega), hv, if_pos c, e2]) h
 ·rw [if_neg c] at h
  exact Ev.step (fun k => by simp only [spec_l10Read.l0]; rw [if_pos (by omega), e1, if_pos (by omega), if_pos (by omega), if_pos (by omega), if_pos (by omega), hv, if_neg c, e2]) h
theorem op_loop {e : Nat} (he : e < x.size) (f : List S35) {r : List S35 × Int × Bool} (h : Ev (fun k => spec_l10Read.l0 k x f (e : Int) (opOf (bt x (e : Int))) 9) r) : Ev (fun k => spec_l10Read.l0 k x f (e : Int) 0 5) r := by
 refine op_step he f 0 (j := 0) (by omega) (v := 38) (by decide +kernel) ?_
 refine op_step he f _ (j := 1) (by omega) (v := 124) (by decide +kernel) ?_
 refine op_step he f _ (j := 2) (by omega) (v := 85) (by decide +kernel) ?_
 refine op_step he f _ (j := 3) (by omega) (v := 82) (by decide +kernel) ?_
 exact h
theorem read_on {a : Nat} (ha : a < x.size) {c : Int} (hc : bt x (a : Int) = c) (h1 : c ≠ 112) (h2 : c ≠ 113) (h3 : c ≠ 114) (h4 : c ≠ 48) (h5 : c ≠ 49) {r : List S35 × Int × Bool}
  (h : Ev (fun k => if c = 33 then spec_l10Read.j2 k x (a : Int) c c (c == 33) else spec_l10Read.j2 k x (a : Int) c c (c == 88)) r) : Ev (fun k => spec_l10Read.f k x (a : Int)) r := by
 refine Ev.step (fun k => by rw [spec_l10Read.f, if_neg (by omega), if_pos (by omega), if_pos (by omega), hc, if_neg h1, if_neg h2]) ?_
 refine Ev.step (fun k => by rw [spec_l10Read.j0, if_neg (by simpa using h3), if_neg h4]) ?_
 exact Ev.step (fun k => by rw [spec_l10Read.j1, if_neg (by simpa using h5)]) h
def RdOk (x : ByteArray) (n a : Nat) : Prop := ∃ (f g : List S35) (e : Nat) (ok : Bool), a ≤ e ∧ e ≤ x.size ∧ f.length ≤ n + 1 ∧ g.length ≤ n + 1 ∧ (ok = true → f = g ∧ f.length + a ≤ e ∧ ∃ t, okT t ∧ f = post t ∧ TAt x (textT t) a ∧ e = a + (textT t).size) ∧
  Ev (fun k => spec_l10Read.f k x (a : Int)) (f, (e : Int), ok) ∧ Ev (fun k => impl_saidReader_said.f k x (a : Int) false) (g, x, (e : Int), !ok)
theorem l0_skip {e : Nat} {f : List S35} : Ev (fun k => spec_l10Read.l0 k x f (e : Int) 0 9) ([], (e : Int), false) := Ev.step (f := fun _ => some ([], (e : Int), false)) (fun k => by simp only [spec_l10Read.l0]; rw [if_neg (by omega)]; rfl) (Ev.now _)
theorem l0_bad {e : Nat} (he : e < 1000) {f f2 : List S35} {o e2 : Int} (ho : o ≠ 0) (h : Ev (fun k => spec_l10Read.f k x ((e + 1 : Nat) : Int)) (f2, e2, false)) : Ev (fun k => spec_l10Read.l0 k x f (e : Int) o 9) ([], e2, false) := by
 refine Ev.step (fun k => by simp only [spec_l10Read.l0]; rw [if_neg (by omega), if_neg ho, wsucc (by omega)]) ?_
 exact Ev.bind h (ev_neg (by simp) (Ev.now _))
theorem l0_end {e : Nat} (he : e < 1000) {f f2 : List S35} {o : Int} (ho : o ≠ 0) (h : Ev (fun k => spec_l10Read.f k x ((e + 1 : Nat) : Int)) (f2, (x.size : Int), true)) : Ev (fun k => spec_l10Read.l0 k x f (e : Int) o 9) ([], (x.size : Int), false) := by
 refine Ev.step (fun k => by simp only [spec_l10Read.l0]; rw [if_neg (by omega), if_neg ho, wsucc (by omega)]) ?_
 exact Ev.bind h (ev_pos rfl (ev_pos rfl (Ev.now _)))
theorem l0_no {e e2 : Nat} (he : e < 1000) {f f2 : List S35} {o : Int} (ho : o ≠ 0) (h : Ev (fun k => spec_l10Read.f k x ((e + 1 : Nat) : Int)) (f2, (e2 : Int), true)) (h2 : e2 < x.size) (h3 : bt x (e2 : Int) ≠ 41) : Ev (fun k => spec_l10Read.l0 k x f (e : Int) o 9) ([], (e2 : Int), false) := by
 refine Ev.step (fun k => by simp only [spec_l10Read.l0]; rw [if_neg (by omega), if_neg ho, wsucc (by omega)]) ?_
 exact Ev.bind h (ev_pos rfl (ev_neg (by show ¬ (e2 : Int) = (x.size : Int); omega) (ev_pos (by show 0 ≤ (e2 : Int); omega) (ev_pos (by show (e2 : Int) < (x.size : Int); omega) (ev_neg h3 (Ev.now _))))))
theorem l0_yes {e e2 : Nat} (he : e < 1000) {f f2 : List S35} (hl : f.length + f2.length ≤ 1000) {o : Int} (ho : o ≠ 0) (h : Ev (fun k => spec_l10Read.f k x ((e + 1 : Nat) : Int)) (f2, (e2 : Int), true)) (h2 : e2 < x.size) (hs : x.size ≤ 1000) (h3 : bt x (e2 : Int) = 41) : Ev (fun k => spec_l10Read.l0 k x f (e : Int) o 9) (f ++ (f2 ++ [⟨o, 0⟩]), ((e2 + 1 : Nat) : Int), true) := by
 refine Ev.step (fun k => by simp only [spec_l10Read.l0]; rw [if_neg (by omega), if_neg ho, wsucc (by omega)]) ?_
 refine Ev.bind h (ev_pos rfl (ev_neg (by show ¬ (e2 : Int) = (x.size : Int); omega) (ev_pos (by show 0 ≤ (e2 : Int); omega) (ev_pos (by show (e2 : Int) < (x.size : Int); omega) (ev_pos h3 (ev_pos (by show f.length + f2.length < 8796093022208; omega) ?_))))))
 refine Ev.bind (Ev.now _) (ev_pos (by show (f ++ f2).length < 8796093022208; rw [List.length_append]; omega) (ev_eq (Ev.now _) ?_))
 show (f ++ f2 ++ [⟨o, 0⟩], wrap64 ((e2 : Int) + 1), true) = _
 rw [wsucc (by omega), List.append_assoc]
theorem read_paren (hs : x.size ≤ 200) (n : Nat) (ih : ∀ m, m < n → ∀ a, a + m = x.size → RdOk x m a) {a : Nat} (ha : a + n = x.size) (hz : a < x.size) (hc : bt x (a : Int) = 40) (hx' : ixA (bt x (a : Int)) = 7) : RdOk x n a := by
 have hw : wrap64 ((a : Int) + 1) = ((a + 1 : Nat) : Int) := wsucc (by omega)
 obtain ⟨f, g, e, ok, h1, h2, h3, h4, h5, h6, h7⟩ := ih (n - 1) (by omega) (a + 1) (by omega)
 have sp : ∀ {r : List S35 × Int × Bool}, Ev (fun k => if ok = true then spec_l10Read.j3 k x f (e : Int) ((e : Int) == (x.size : Int)) else spec_l10Read.j3 k x f (e : Int) true) r → Ev (fun k => spec_l10Read.f k x (a : Int)) r := fun hr => by
  refine read_on hz hc (by omega) (by omega) (by omega) (by omega) (by omega) ?_
  refine ev_neg (by decide) (Ev.step (fun k => by rw [spec_l10Read.j2, if_neg (by decide), if_pos rfl, hw]) ?_)
  exact Ev.bind h6 hr
 have j3t : ∀ q : Nat, Ev (fun k => spec_l10Read.j3 k x f (q : Int) true) ([], (q : Int), false) := fun q => Ev.step (f := fun _ => some ([], (q : Int), false)) (fun k => by rw [spec_l10Read.j3, if_pos rfl]) (Ev.now _)
 have bad : ∀ (g2 : List S35) (q : Nat), e ≤ q → q ≤ x.size → g2.length ≤ n + 1 → Ev (fun k => spec_l10Read.f k x (a : Int)) ([], (q : Int), false) → Ev (fun k => impl_saidReader_said.f k x (a : Int) false) (g2, x, (q : Int), true) → RdOk x n a := fun g2 q q1 q2 q3 q4 q5 =>
  ⟨[], g2, q, false, by omega, q2, by simp, q3, fun h => (Bool.false_ne_true h).elim, q4, q5⟩
 cases ok with
 | false => exact bad _ e (Nat.le_refl _) h2 (by simp; omega) (sp (ev_neg (by simp) (j3t e))) (said_in hz (by omega) hx' h7 (take_wrong _ _) (said_wrong _) (take_wrong _ _) (by simp; omega))
 | true =>
  obtain ⟨q1, q2, t, q3, q4, q5, q6⟩ := h5 rfl
  subst q1
  rcases Nat.eq_or_lt_of_le h2 with he1 | he1
  ·subst he1
   have hb : ((x.size : Int) == (x.size : Int)) = true := beq_self_eq_true _
   rw [hb] at sp
   exact bad _ _ (Nat.le_refl _) h2 (by simp; omega) (sp (ev_pos rfl (j3t x.size))) (said_in hz (by omega) hx' h7 (take_end _) (said_wrong _) (take_wrong _ _) (by simp; omega))
  ·obtain ⟨d, hd⟩ := Int.eq_ofNat_of_zero_le (bt_range x (e : Int)).1
   have hd2 := (bt_range x (e : Int)).2
   rw [hd] at hd2
   have sp2 : ∀ {r : List S35 × Int × Bool}, Ev (fun k => spec_l10Read.l0 k x f (e : Int) (opOf (d : Int)) 9) r → Ev (fun k => spec_l10Read.f k x (a : Int)) r := fun hr => by
    have hb : ((e : Int) == (x.size : Int)) = false := by simp; omega
    rw [hb] at sp
    refine sp (ev_pos rfl ?_)
    refine Ev.step (fun k => by rw [spec_l10Read.j3, if_neg (by simp)]) (op_loop he1 f ?_)
    rw [hd]; exact hr
   rcases ixO_nat d (by omega) with ⟨o1, o2⟩ | ⟨o1, o2, o3⟩
   ·rw [o2] at sp2
    exact bad _ e (Nat.le_refl _) h2 (by simp; omega) (sp2 l0_skip) (said_in hz (by omega) hx' h7 (take_no (bs := bsO) (i := -1) he1 (by rw [hd]; exact o1) (by decide)) (said_wrong _) (take_wrong _ _) (by simp; omega))
   ·have tO := take_yes (bs := bsO) (i := ixO (d : Int)) he1 (by omega) (by rw [hd]; rfl) o1
    obtain ⟨f2, g2, e2, ok2, k1, k2, k3, k4, k5, k6, k7⟩ := ih (x.size - (e + 1)) (by omega) (e + 1) (by omega)
    have o4 : wrap64 (5 + ixO (d : Int)) = opOf (d : Int) := by rw [wid (by omega) (by omega)]; omega
    have o5 : opOf (d : Int) ≠ 0 := by omega
    have he3 : e < 1000 := by omega
    cases ok2 with
    | false => exact bad _ e2 (by omega) k2 (by simp; omega) (sp2 (l0_bad he3 o5 k6)) (said_in hz (by omega) hx' h7 tO k7 (take_wrong _ _) (by omega))
    | true =>
     obtain ⟨p1, p2, t2, p3, p4, p5, p6⟩ := k5 rfl
     subst p1
     rcases Nat.eq_or_lt_of_le k2 with he2 | he2
     ·subst he2
      exact bad _ _ (by omega) (Nat.le_refl _) (by simp; omega) (sp2 (l0_end he3 o5 k6)) (said_in hz (by omega) hx' h7 tO k7 (take_end _) (by omega))
     ·obtain ⟨z, hz3⟩ := Int.eq_ofNat_of_zero_le (bt_range x (e2 : Int)).1
      have hz2 := (bt_range x (e2 : Int)).2
      rw [hz3] at hz2
      have hC := ixC_nat z (by omega)
      by_cases h41 : z = 41
      ·rw [if_pos h41] at hC
       refine ⟨f ++ (f2 ++ [⟨opOf (d : Int), 0⟩]), f ++ (f2 ++ [⟨opOf (d : Int), 0⟩]), e2 + 1, true, by omega, by omega, by simp; omega, by simp; omega, fun _ => ⟨rfl, by simp; omega, .bin t t2 ⟨opOf (d : Int), 0⟩, ⟨q3, p3, ?_, ?_⟩, by rw [q4, p4]; rfl, ?_, ?_⟩, ?_, ?_⟩
       ·have : opOf (d : Int) = 5 ∨ opOf (d : Int) = 6 ∨ opOf (d : Int) = 7 ∨ opOf (d : Int) = 8 := by omega
        rcases this with q | q | q | q <;> simp [needS, q]
       ·have : opOf (d : Int) = 5 ∨ opOf (d : Int) = 6 ∨ opOf (d : Int) = 7 ∨ opOf (d : Int) = 8 := by omega
        rcases this with q | q | q | q <;> simp [nOk, q]
       ·have zs := sgn_size (op := opOf (d : Int)) (by omega) (by omega)
        have zo := (opOf_sgn d (by omega)).resolve_left o5
        have s40 : (⟨#[40]⟩ : ByteArray).size = 1 := rfl
        have s41 : (⟨#[41]⟩ : ByteArray).size = 1 := rfl
        show TAt x ((((⟨#[40]⟩ : ByteArray) ++ textT t) ++ sgn (opOf (d : Int))) ++ textT t2 ++ (⟨#[41]⟩ : ByteArray)) a
        refine TAt.append (TAt.append (TAt.append (TAt.append (TAt.one s40 hz (by rw [hc, b40])) (by rw [s40]; exact q5)) ?_) ?_) ?_
        ·simp only [ByteArray.size_append, s40]
         rw [show a + (1 + (textT t).size) = e by omega]
         exact TAt.one zs he1 (by rw [hd, zo])
        ·simp only [ByteArray.size_append, s40, zs]
         rw [show a + (1 + (textT t).size + 1) = e + 1 by omega]
         exact p5
        ·simp only [ByteArray.size_append, s40, zs]
         rw [show a + (1 + (textT t).size + 1 + (textT t2).size) = e2 by omega]
         exact TAt.one s41 he2 (by rw [hz3, b41]; omega)
       ·have zs := sgn_size (op := opOf (d : Int)) (by omega) (by omega)
        have s40 : (⟨#[40]⟩ : ByteArray).size = 1 := rfl
        have s41 : (⟨#[41]⟩ : ByteArray).size = 1 := rfl
        show e2 + 1 = a + ((((⟨#[40]⟩ : ByteArray) ++ textT t) ++ sgn (opOf (d : Int))) ++ textT t2 ++ (⟨#[41]⟩ : ByteArray)).size
        simp only [ByteArray.size_append, s40, s41, zs]
        omega
       ·exact sp2 (l0_yes he3 (by omega) o5 k6 he2 (by omega) (by rw [hz3]; omega))
       ·have := said_in hz (by omega) hx' h7 tO k7 (take_yes (bs := bsC) (i := 0) he2 (by omega) (by rw [hz3]; exact hC) (by decide)) (by omega)
        rw [o4] at this
        exact this
      ·rw [if_neg h41] at hC
       exact bad _ e2 (by omega) k2 (by simp; omega) (sp2 (l0_no he3 o5 k6 he2 (by rw [hz3]; omega))) (said_in hz (by omega) hx' h7 tO k7 (take_no (bs := bsC) (i := -1) he2 (by rw [hz3]; exact hC) (by decide)) (by omega))
theorem read_both (hs : x.size ≤ 200) (n : Nat) : ∀ (a : Nat), a + n = x.size → RdOk x n a := by
 induction n using Nat.strongRecOn with
 | _ n ih =>
 intro a ha
 rcases Nat.eq_or_lt_of_le (show a ≤ x.size by omega) with hz | hz
 ·subst hz
  refine ⟨[], [], x.size, false, Nat.le_refl _, Nat.le_refl _, by simp, by simp, fun h => (Bool.false_ne_true h).elim, Ev.step (f := fun _ => some ([], (x.size : Int), false)) (fun k => by rw [spec_l10Read.f, if_pos rfl]) (Ev.now _), ?_⟩
  refine Ev.step (fun k => by rw [impl_saidReader_said.f]) ?_
  exact Ev.bind (take_end bsA) (ev_pos (by show (-1 : Int) < 0; decide) (Ev.now _))
 obtain ⟨c, hc⟩ := Int.eq_ofNat_of_zero_le (bt_range x (a : Int)).1
 have hc2 := (bt_range x (a : Int)).2
 rw [hc] at hc2
 have hA := ixA_nat c (by omega)
 have hw : wrap64 ((a : Int) + 1) = ((a + 1 : Nat) : Int) := wsucc (by omega)
 have tk : ∀ i : Int, ixA c = i → 0 ≤ i → Ev (fun k => impl_saidReader_take.f k x (a : Int) false bsA) (i, x, ((a + 1 : Nat) : Int), false) := fun i h h0 => take_yes (bs := bsA) hz (by omega) (by rw [hc]; exact h) h0
 have st : ∀ {r : List S35 × ByteArray × Int × Bool} {g : Nat → Option (List S35 × ByteArray × Int × Bool)}, (∀ k, impl_saidReader_said.f (k + 1) x (a : Int) false = g k) → Ev g r → Ev (fun k => impl_saidReader_said.f k x (a : Int) false) r := fun h h' => Ev.step h h'
 have leafA : ∀ i : Int, 0 ≤ i → i ≤ 2 → okT (.leaf ⟨1, i⟩) := fun i h0 h2 => ⟨by simp [needS], by show (if (1 : Int) = 1 then 0 ≤ i ∧ i ≤ 2 else _); rw [if_pos rfl]; exact ⟨h0, h2⟩⟩
 have leafY : ∀ i : Int, 0 ≤ i → i ≤ 1 → okT (.leaf ⟨2, i⟩) := fun i h0 h2 => ⟨by simp [needS], by show (if (2 : Int) = 1 then _ else if (2 : Int) = 2 then 0 ≤ i ∧ i ≤ 1 else _); rw [if_neg (by decide), if_pos rfl]; exact ⟨h0, h2⟩⟩
 have atom : ∀ i : Nat, i ≤ 2 → c = 112 + i → ixA c = (i : Int) → _ := fun i hi he hx => (show RdOk x n a from by
   refine ⟨[⟨1, (i : Int)⟩], [⟨1, (i : Int)⟩], a + 1, true, by omega, by omega, by simp, by simp, fun _ => ⟨rfl, by simp; omega, .leaf ⟨1, (i : Int)⟩, leafA _ (by omega) (by omega), rfl, TAt.one (q := atomB 1 (i : Int)) (atomB_size (x := ⟨1, (i : Int)⟩) (leafA _ (by omega) (by omega))) hz (by rw [hc, ba1 i (by omega)]; omega), by show a + 1 = a + (atomB 1 (i : Int)).size; rw [atomB_size (x := ⟨1, (i : Int)⟩) (leafA _ (by omega) (by omega))]⟩, ?_, ?_⟩
   ·have e1 : ((c : Int) - 112) % 256 = (i : Int) := by omega
    have hf : Ev (fun k => spec_l10Read.j0 k x (a : Int) (c : Int) (c : Int) true) ([⟨1, (i : Int)⟩], ((a + 1 : Nat) : Int), true) := Ev.step (f := fun _ => some ([⟨1, (i : Int)⟩], ((a + 1 : Nat) : Int), true)) (fun k => by rw [spec_l10Read.j0, if_pos rfl, e1, hw]) (Ev.now _)
    by_cases c1 : (c : Int) = 112
    ·exact Ev.step (fun k => by rw [spec_l10Read.f, if_neg (by omega), if_pos (by omega), if_pos (by omega), hc, if_pos c1, show ((c : Int) == 112) = true from beq_iff_eq.2 c1]) hf
    ·by_cases c2 : (c : Int) = 113
     ·exact Ev.step (fun k => by rw [spec_l10Read.f, if_neg (by omega), if_pos (by omega), if_pos (by omega), hc, if_neg c1, if_pos c2, show ((c : Int) == 113) = true from beq_iff_eq.2 c2]) hf
     ·exact Ev.step (fun k => by rw [spec_l10Read.f, if_neg (by omega), if_pos (by omega), if_pos (by omega), hc, if_neg c1, if_neg c2, show ((c : Int) == 114) = true from beq_iff_eq.2 (by omega)]) hf
   ·refine st (fun k => by rw [impl_saidReader_said.f]) ?_
    exact Ev.bind (tk _ hx (by omega)) (ev_neg (by omega) (ev_pos (by omega) (Ev.now _))))
 have yes : ∀ i : Nat, i ≤ 1 → c = 48 + i → ixA c = ((3 + i : Nat) : Int) → _ := fun i hi he hx => (show RdOk x n a from by
   refine ⟨[⟨2, (i : Int)⟩], [⟨2, (i : Int)⟩], a + 1, true, by omega, by omega, by simp, by simp, fun _ => ⟨rfl, by simp; omega, .leaf ⟨2, (i : Int)⟩, leafY _ (by omega) (by omega), rfl, TAt.one (q := atomB 2 (i : Int)) (atomB_size (x := ⟨2, (i : Int)⟩) (leafY _ (by omega) (by omega))) hz (by rw [hc, ba2 i (by omega)]; omega), by show a + 1 = a + (atomB 2 (i : Int)).size; rw [atomB_size (x := ⟨2, (i : Int)⟩) (leafY _ (by omega) (by omega))]⟩, ?_, ?_⟩
   ·have e1 : ((c : Int) - 48) % 256 = (i : Int) := by omega
    have hf : Ev (fun k => spec_l10Read.j1 k x (a : Int) (c : Int) (c : Int) true) ([⟨2, (i : Int)⟩], ((a + 1 : Nat) : Int), true) := Ev.step (f := fun _ => some ([⟨2, (i : Int)⟩], ((a + 1 : Nat) : Int), true)) (fun k => by rw [spec_l10Read.j1, if_pos rfl, e1, hw]) (Ev.now _)
    refine Ev.step (fun k => by rw [spec_l10Read.f, if_neg (by omega), if_pos (by omega), if_pos (by omega), hc, if_neg (by omega), if_neg (by omega)]) ?_
    by_cases c1 : (c : Int) = 48
    ·exact Ev.step (fun k => by rw [spec_l10Read.j0, if_neg (by simp; omega), if_pos c1, show ((c : Int) == 48) = true from beq_iff_eq.2 c1]) hf
    ·exact Ev.step (fun k => by rw [spec_l10Read.j0, if_neg (by simp; omega), if_neg c1, show ((c : Int) == 49) = true from beq_iff_eq.2 (by omega)]) hf
   ·refine st (fun k => by rw [impl_saidReader_said.f]) ?_
    refine Ev.bind (tk _ hx (by omega)) (ev_neg (by omega) (ev_neg (by omega) (ev_pos (by omega) (ev_eq (Ev.now _) ?_))))
    rw [show wrap64 (((3 + i : Nat) : Int) - 3) = (i : Int) by rw [wid (by omega) (by omega)]; omega]; rfl)
 have unary : ∀ i : Nat, i ≤ 1 → (c = 33 ∧ i = 0 ∨ c = 88 ∧ i = 1) → ixA c = ((5 + i : Nat) : Int) → _ := fun i hi he hx => (show RdOk x n a from by
   obtain ⟨f, g, e, ok, h1, h2, h3, h4, h5, h6, h7⟩ := ih (n - 1) (by omega) (a + 1) (by omega)
   refine ⟨f ++ [⟨3 + (i : Int), 0⟩], g ++ [⟨3 + (i : Int), 0⟩], e, ok, by omega, h2, by simp; omega, by simp; omega, fun h => ?_, ?_, ?_⟩
   ·obtain ⟨q1, q2, t, q3, q4, q5, q6⟩ := h5 h
    subst q1
    have zs := sgn_size (op := 3 + (i : Int)) (by omega) (by omega)
    refine ⟨rfl, by simp; omega, .un t ⟨3 + (i : Int), 0⟩, ⟨q3, ?_, ?_⟩, by rw [q4]; rfl, TAt.append (TAt.one zs hz ?_) (by rw [zs]; exact q5), by show e = a + (sgn (3 + (i : Int)) ++ textT t).size; rw [ByteArray.size_append, zs]; omega⟩
    ·rcases he with ⟨_, rfl⟩ | ⟨_, rfl⟩ <;> simp [needS]
    ·rcases he with ⟨_, rfl⟩ | ⟨_, rfl⟩ <;> simp [nOk]
    ·rw [hc]
     rcases he with ⟨rfl, rfl⟩ | ⟨rfl, rfl⟩ <;> decide +kernel
   ·refine read_on hz hc (by omega) (by omega) (by omega) (by omega) (by omega) ?_
    rcases he with ⟨rfl, rfl⟩ | ⟨rfl, rfl⟩
    ·refine ev_pos rfl (Ev.step (fun k => by rw [spec_l10Read.j2, if_pos (by decide), hw]) ?_)
     exact Ev.bind h6 (ev_neg (by decide) (ev_pos (by show f.length < 8796093022208; omega) (Ev.now _)))
    ·refine ev_neg (by decide) (Ev.step (fun k => by rw [spec_l10Read.j2, if_pos (by decide), hw]) ?_)
     exact Ev.bind h6 (ev_pos rfl (ev_pos (by show f.length < 8796093022208; omega) (Ev.now _)))
   ·refine st (fun k => by rw [impl_saidReader_said.f]) ?_
    refine Ev.bind (tk _ hx (by omega)) (ev_neg (by omega) (ev_neg (by omega) (ev_neg (by omega) (ev_pos (by omega) ?_))))
    refine Ev.bind h7 (ev_pos (by show g.length < 8796093022208; omega) (ev_eq (Ev.now _) ?_))
    rw [show wrap64 (wrap64 (3 + ((5 + i : Nat) : Int)) - 5) = 3 + (i : Int) by rw [wid (x := 3 + ((5 + i : Nat) : Int)) (by omega) (by omega), wid (by omega) (by omega)]; omega])
 by_cases c1 : c = 112
 ·exact atom 0 (by omega) c1 (by rw [hA, if_pos c1]; rfl)
 by_cases c2 : c = 113
 ·exact atom 1 (by omega) c2 (by rw [hA, if_neg c1, if_pos c2]; rfl)
 by_cases c3 : c = 114
 ·exact atom 2 (by omega) c3 (by rw [hA, if_neg c1, if_neg c2, if_pos c3]; rfl)
 by_cases c4 : c = 48
 ·exact yes 0 (by omega) c4 (by rw [hA, if_neg c1, if_neg c2, if_neg c3, if_pos c4]; rfl)
 by_cases c5 : c = 49
 ·exact yes 1 (by omega) c5 (by rw [hA, if_neg c1, if_neg c2, if_neg c3, if_neg c4, if_pos c5]; rfl)
 by_cases c6 : c = 33
 ·exact unary 0 (by omega) (.inl ⟨c6, rfl⟩) (by rw [hA, if_neg c1, if_neg c2, if_neg c3, if_neg c4, if_neg c5, if_pos c6]; rfl)
 by_cases c7 : c = 88
 ·exact unary 1 (by omega) (.inr ⟨c7, rfl⟩) (by rw [hA, if_neg c1, if_neg c2, if_neg c3, if_neg c4, if_neg c5, if_neg c6, if_pos c7]; rfl)
 by_cases c8 : c = 40
 ·exact read_paren hs n ih ha hz (by rw [hc, c8]; rfl) (by rw [hc, hA, if_neg c1, if_neg c2, if_neg c3, if_neg c4, if_neg c5, if_neg c6, if_neg c7, if_pos c8])
 ·rw [if_neg c1, if_neg c2, if_neg c3, if_neg c4, if_neg c5, if_neg c6, if_neg c7, if_neg c8] at hA
  refine ⟨[], [], a, false, Nat.le_refl _, by omega, by simp, by simp, fun h => (Bool.false_ne_true h).elim, ?_, ?_⟩
  ·refine read_on hz hc (by omega) (by omega) (by omega) (by omega) (by omega) (ev_neg (by omega) ?_)
   exact Ev.step (f := fun _ => some ([], (a : Int), false)) (fun k => by rw [spec_l10Read.j2, if_neg (by simp; omega), if_neg (by omega)]) (Ev.now _)
  ·refine st (fun k => by rw [impl_saidReader_said.f]) ?_
   exact Ev.bind (take_no (bs := bsA) (i := -1) hz (by rw [hc]; exact hA) (by decide)) (ev_pos (by show (-1 : Int) < 0; decide) (Ev.now _))
end
theorem ReadSaid_back (x : ByteArray) : ∃ r : List S35 × Int × Bool, r.1.length ≤ 16 ∧ Ev (fun k => spec_ReadSaid.f k x) r ∧ Ev (fun k => impl_ReadSaid.f k x) r ∧ 0 ≤ r.2.1 ∧ r.2.1 ≤ (x.size : Int) ∧ (r.2.2 = true → ∃ t, okT t ∧ (post t).length ≤ 16 ∧ r.1 = post t ∧ x = textT t) := by
 by_cases hs : (x.size : Int) > 200
 ·exact ⟨([], 0, false), by simp, ev_pos hs (Ev.now _), ev_pos hs (Ev.now _), by show (0 : Int) ≤ 0; omega, by show (0 : Int) ≤ (x.size : Int); omega, fun h => (Bool.false_ne_true h).elim⟩
 obtain ⟨f, g, e, ok, h1, h2, h3, h4, h5, h6, h7⟩ := read_both (x := x) (by omega) x.size 0 (Nat.zero_add _)
 have sp : ∀ {r : List S35 × Int × Bool}, Ev (fun k => if ok = true then spec_ReadSaid.j0 k f (e : Int) (decide ((e : Int) < (x.size : Int))) else spec_ReadSaid.j0 k f (e : Int) true) r → Ev (fun k => spec_ReadSaid.f k x) r := fun hr =>
  ev_neg hs (Ev.bind h6 hr)
 have im : ∀ {r : List S35 × Int × Bool}, Ev (fun k => if (!ok) = true then impl_ReadSaid.j0 k x g true x (e : Int) (!ok) else impl_ReadSaid.j0 k x g (decide ((e : Int) < (x.size : Int))) x (e : Int) (!ok)) r → Ev (fun k => impl_ReadSaid.f k x) r := fun hr =>
  ev_neg hs (Ev.bind h7 hr)
 have s1 : Ev (fun k => spec_ReadSaid.j0 k f (e : Int) true) ([], (e : Int), false) := Ev.step (f := fun _ => some ([], (e : Int), false)) (fun k => by rw [spec_ReadSaid.j0, if_pos rfl]) (Ev.now _)
 have i1 : ∀ b, Ev (fun k => impl_ReadSaid.j0 k x g true x (e : Int) b) ([], (e : Int), false) := fun b => Ev.step (f := fun _ => some ([], (e : Int), false)) (fun k => by rw [impl_ReadSaid.j0, if_pos rfl]) (Ev.now _)
 cases ok with
 | false => exact ⟨([], (e : Int), false), by simp, sp (ev_neg (by simp) s1), im (ev_pos rfl (i1 _)), by show (0 : Int) ≤ (e : Int); omega, by show (e : Int) ≤ (x.size : Int); omega, fun h => (Bool.false_ne_true h).elim⟩
 | true =>
  obtain ⟨q1, q2, t, q3, q4, q5, q6⟩ := h5 rfl
  subst q1
  by_cases he : (e : Int) < (x.size : Int)
  ·exact ⟨([], (e : Int), false), by simp, sp (ev_pos rfl (by rw [decide_eq_true he]; exact s1)), im (ev_neg (by simp) (by rw [decide_eq_true he]; exact i1 _)), by show (0 : Int) ≤ (e : Int); omega, by show (e : Int) ≤ (x.size : Int); omega, fun h => (Bool.false_ne_true h).elim⟩
  ·obtain rfl : e = x.size := by omega
   have hl : f.length ≤ 9223372036854775807 := by omega
   have hT := spec_GoodSaid_tells f hl
   by_cases h16 : f.length ≤ 16
   ·have hg : GoodS f := by rw [q4]; exact post_good q3 (by rw [← q4]; exact h16)
    refine ⟨(f, (x.size : Int), true), h16, sp (ev_pos rfl ?_), im (ev_neg (by simp) ?_), by show (0 : Int) ≤ (x.size : Int); omega, Int.le_refl _, fun _ => ⟨t, q3, by rw [← q4]; exact h16, q4, TAt.eq q5 (by omega)⟩⟩
    ·rw [decide_eq_false he]
     refine Ev.step (fun k => by rw [spec_ReadSaid.j0, if_neg (by simp)]) ?_
     exact Ev.bind (tells_ev hT hg) (ev_pos rfl (Ev.now _))
    ·rw [decide_eq_false he]
     exact Ev.step (f := fun _ => some (f, (x.size : Int), true)) (fun k => by rw [impl_ReadSaid.j0, if_neg (by simp), if_neg (by omega)]) (Ev.now _)
   ·refine ⟨([], 0, false), by simp, sp (ev_pos rfl ?_), im (ev_neg (by simp) ?_), by show (0 : Int) ≤ 0; omega, by show (0 : Int) ≤ (x.size : Int); omega, fun h => (Bool.false_ne_true h).elim⟩
    ·rw [decide_eq_false he]
     refine Ev.step (fun k => by rw [spec_ReadSaid.j0, if_neg (by simp)]) ?_
     exact Ev.bind (tells_ev_not hT (fun g => h16 g.2.1)) (ev_neg (by simp) (Ev.now _))
    ·rw [decide_eq_false he]
     exact Ev.step (f := fun _ => some ([], 0, false)) (fun k => by rw [impl_ReadSaid.j0, if_neg (by simp), if_pos (by omega)]) (Ev.now _)
theorem ReadSaid_both (x : ByteArray) : ∃ r : List S35 × Int × Bool, r.1.length ≤ 16 ∧ Ev (fun k => spec_ReadSaid.f k x) r ∧ Ev (fun k => impl_ReadSaid.f k x) r := by
 obtain ⟨r, h1, h2, h3, _⟩ := ReadSaid_back x
 exact ⟨r, h1, h2, h3⟩
theorem sameSaid_l0 (l : List S35) (hl : l.length ≤ 9223372036854775807) (d : Nat) : ∀ (j : Nat), j + d = l.length → Ev (fun k => laws_sameSaid.l0 k l l (l.length : Int) (j : Int)) true := by
 induction d with
 | zero => exact fun j hd => Ev.step (f := fun _ => some true) (fun k => by simp only [laws_sameSaid.l0]; rw [if_neg (by omega)]) (Ev.now _)
 | succ d ih => exact fun j hd => Ev.step (fun k => by simp only [laws_sameSaid.l0]; rw [if_pos (by omega), if_pos (by omega), if_pos (by omega), if_pos (by omega), if_neg (by simp), wsucc (by omega)]) (ih (j + 1) (by omega))
theorem sameSaid_ev (l : List S35) (hl : l.length ≤ 9223372036854775807) : Ev (fun k => laws_sameSaid.f k l l) true :=
 Ev.congr (fun k => by simp only [laws_sameSaid.f, if_true]; rfl) (sameSaid_l0 l hl l.length 0 (by omega))
theorem spoilt_l0 {l : List Int} (hl : l.length ≤ 9223372036854775807 ∧ ∀ x ∈ l, InU8 x) (w : ByteArray) (hw : 1 ≤ w.size) (hw2 : w.size ≤ 1000) : ∀ (m : Nat), m ≤ 2 → ∀ (x : ByteArray), x.size + m ≤ 100000 → ∀ {n p s : Int}, Cu n p s → n + 10 * (m : Int) < 10000 →
  ∃ y p' s', Ev (fun k => spec_l1Cur_spoilt.l0 k x w (m : Int) l p s) (y, p', s')
 | 0, _, x, hx, n, p, s, h, hn => by
  refine ⟨x, p, s, ?_⟩
  refine Ev.step (fun k => by rw [spec_l1Cur_spoilt.l0, if_neg (by omega)]) ?_
  exact Ev.step (f := fun _ => some (x, p, s)) (fun k => by rw [spec_l1Cur_spoilt.j1, if_neg (by simp)]) (Ev.now _)
 | m + 1, hm, x, hx, n, p, s, h, hn => by
  by_cases h0 : 0 < x.size
  ·obtain ⟨i, p1, s1, e1, hi0, _, hi2, hc1⟩ := pick_ex hl h (by omega) (x.size : Int) (by omega)
   obtain ⟨j, p2, s2, e2, hj0, _, hj2, hc2⟩ := pick_ex hl hc1 (by omega) (w.size : Int) (by omega)
   obtain ⟨c, p3, s3, e3, _, _, _, hc3⟩ := pick_ex hl hc2 (by omega) 3 (by omega)
   have hi := hi2 (by omega)
   have hj := hj2 (by omega)
   obtain ⟨i, rfl⟩ := Int.eq_ofNat_of_zero_le hi0
   have hwr : wrap64 (((m + 1 : Nat) : Int) - 1) = (m : Int) := by rw [wid (by omega) (by omega)]; omega
   have hi1 : wrap64 ((i : Int) + 1) = ((i + 1 : Nat) : Int) := wsucc (by omega)
   have q1' : (x.extract 0 (i : Int).toNat).size = i := by rw [ByteArray.size_extract]; omega
   have q2 : (x.extract (i : Int).toNat x.size).size = x.size - i := by rw [ByteArray.size_extract]; omega
   have q3 : (x.extract (((i + 1 : Nat) : Int)).toNat x.size).size = x.size - (i + 1) := by rw [ByteArray.size_extract]; omega
   have q4 : (strOfNums [bt w j]).size = 1 := strOfNums_size _
   have rec_ : ∀ y : ByteArray, y.size ≤ x.size + 1 → ∃ z p' s', Ev (fun k => spec_l1Cur_spoilt.l0 k y w (m : Int) l p3 s3) (z, p', s') := fun y hy => spoilt_l0 hl w hw hw2 m (by omega) y (by omega) hc3 (by omega)
   have go : ∀ {F : Nat → Int × Int × Int → Option (ByteArray × Int × Int)} {r : ByteArray × Int × Int}, Ev (fun k => F k (c, p3, s3)) r → Ev (fun k => (spec_l1Cur_pick.f l p2 s2 3).bind (F k)) r := fun hr => Ev.bind (ev_const e3) hr
   have top : ∀ {r : ByteArray × Int × Int}, Ev (fun k => spec_l1Cur_spoilt.j1 k x w ((m + 1 : Nat) : Int) true l p s) r → Ev (fun k => spec_l1Cur_spoilt.l0 k x w ((m + 1 : Nat) : Int) l p s) r := fun hr => Ev.step (fun k => by rw [spec_l1Cur_spoilt.l0, if_pos (by omega), decide_eq_true (by omega)]) hr
   by_cases c0 : c = 0
   ·obtain ⟨z, p', s', e⟩ := rec_ (((x.extract 0 (i : Int).toNat) ++ (strOfNums [bt w j])) ++ (x.extract (i : Int).toNat x.size)) (by rw [ByteArray.size_append, ByteArray.size_append, q1', q2, q4]; omega)
    refine ⟨z, p', s', top (Ev.step (fun k => by rw [spec_l1Cur_spoilt.j1, if_pos rfl]) ?_)⟩
    refine Ev.bind (ev_const e1) (Ev.bind (ev_const e2) (ev_pos hj0 (ev_pos hj (Ev.bind (ev_const (r := [bt w j]) rfl) (go ?_)))))
    refine ev_pos c0 (ev_pos (by omega) (ev_pos (by omega) (ev_pos ?_ (ev_pos ?_ ?_))))
    ·rw [q1', q4]; omega
    ·rw [ByteArray.size_append, q1', q2, q4]; omega
    ·rw [hwr]; exact e
   by_cases c1 : c = 1
   ·obtain ⟨z, p', s', e⟩ := rec_ (((x.extract 0 (i : Int).toNat) ++ (strOfNums [bt w j])) ++ (x.extract (((i + 1 : Nat) : Int)).toNat x.size)) (by rw [ByteArray.size_append, ByteArray.size_append, q1', q3, q4]; omega)
    refine ⟨z, p', s', top (Ev.step (fun k => by rw [spec_l1Cur_spoilt.j1, if_pos rfl]) ?_)⟩
    refine Ev.bind (ev_const e1) (Ev.bind (ev_const e2) (ev_pos hj0 (ev_pos hj (Ev.bind (ev_const (r := [bt w j]) rfl) (go ?_)))))
    simp only [hi1]
    refine ev_neg c0 (ev_pos c1 (ev_pos (by omega) (ev_pos (by omega) (ev_pos ?_ (ev_pos (by omega) (ev_pos (by omega) (ev_pos ?_ ?_)))))))
    ·rw [q1', q4]; omega
    ·rw [ByteArray.size_append, q1', q3, q4]; omega
    ·rw [hwr]; exact e
   ·obtain ⟨z, p', s', e⟩ := rec_ ((x.extract 0 (i : Int).toNat) ++ (x.extract (((i + 1 : Nat) : Int)).toNat x.size)) (by rw [ByteArray.size_append, q1', q3]; omega)
    refine ⟨z, p', s', top (Ev.step (fun k => by rw [spec_l1Cur_spoilt.j1, if_pos rfl]) ?_)⟩
    refine Ev.bind (ev_const e1) (Ev.bind (ev_const e2) (ev_pos hj0 (ev_pos hj (Ev.bind (ev_const (r := [bt w j]) rfl) (go ?_)))))
    simp only [hi1]
    refine ev_neg c0 (ev_neg c1 (ev_pos (by omega) (ev_pos (by omega) (ev_pos (by omega) (ev_pos (by omega) (ev_pos ?_ ?_))))))
    ·rw [q1', q3]; omega
    ·rw [hwr]; exact e
  ·refine ⟨x, p, s, ?_⟩
   refine Ev.step (fun k => by rw [spec_l1Cur_spoilt.l0, if_pos (by omega), decide_eq_false (by omega)]) ?_
   exact Ev.step (f := fun _ => some (x, p, s)) (fun k => by rw [spec_l1Cur_spoilt.j1, if_neg (by simp)]) (Ev.now _)
theorem spoilt_ex {l : List Int} (hl : l.length ≤ 9223372036854775807 ∧ ∀ x ∈ l, InU8 x) (x w : ByteArray) (hx : x.size ≤ 10000) (hw : 1 ≤ w.size) (hw2 : w.size ≤ 1000) {n p s : Int} (h : Cu n p s) (hn : n < 1000) :
  ∃ y p' s', Ev (fun k => spec_l1Cur_spoilt.f k l p s x w) (y, p', s') := by
 obtain ⟨v, p1, s1, e1, hv0, _, hv2, hc1⟩ := pick_ex hl h (by omega) 2 (by omega)
 have hv := hv2 (by omega)
 obtain ⟨v, rfl⟩ := Int.eq_ofNat_of_zero_le hv0
 obtain ⟨y, p', s', e⟩ := spoilt_l0 hl w hw hw2 (v + 1) (by omega) x (by omega) hc1 (by omega)
 refine ⟨y, p', s', Ev.bind (ev_const e1) ?_⟩
 have : wrap64 (1 + (v : Int)) = ((v + 1 : Nat) : Int) := by rw [wid (by omega) (by omega)]; omega
 exact Ev.congr (fun k => by show spec_l1Cur_spoilt.l0 k x w (wrap64 (1 + (v : Int))) l p1 s1 = _; rw [this]) e
theorem of_ex {l : List Int} (hl : l.length ≤ 9223372036854775807 ∧ ∀ x ∈ l, InU8 x) {n p s : Int} (h : Cu n p s) (hn : n < 4611686018427387900) (xs : List ByteArray) (hx : 1 ≤ xs.length) (hx2 : xs.length ≤ 1048576) :
  ∃ v p' s', spec_l1Cur_of.f l p s xs = some (v, p', s') ∧ Cu (n + 2) p' s' := by
 obtain ⟨v, p', s', e, h0, _, h2, hc⟩ := pick_ex hl h hn (xs.length : Int) (by omega)
 have h2 := h2 (by omega)
 refine ⟨rdOf ByteArray.empty xs v, p', s', ?_, hc⟩
 unfold spec_l1Cur_of.f
 rw [e, Option.bind_some, if_pos h0, if_pos h2]
theorem SaidText_size (l : List S35) (hl : l.length ≤ 9223372036854775807) : ∃ r, r.1.size ≤ 100 ∧ Ev (fun k => spec_SaidText.f k l) r := by
 by_cases hg : GoodS l
 ·obtain ⟨t, ok, rfl⟩ := tree_of hg
  have h := textT_size t ok
  have h16 := hg.2.1
  exact ⟨_, by show (textT t).size ≤ 100; omega, (SaidText_tree t ok h16).1⟩
 ·exact ⟨_, by decide, (SaidText_no l hl hg).1⟩
theorem DrawReadSaid_ex {l : List Int} (hl : l.length ≤ 9223372036854775807 ∧ ∀ x ∈ l, InU8 x) : ∃ u, Ev (fun k => spec_DrawReadSaid.f k l) u := by
 obtain ⟨f, p1, s1, e1, hf, hc1⟩ := said_ex hl Cu.zero (by omega)
 obtain ⟨r, hr, e2⟩ := SaidText_size f (by omega)
 obtain ⟨v, p2, s2, e3, _, _, _, hc2⟩ := pick_ex hl hc1 (by omega) 5 (by omega)
 have go : ∀ {F : Nat → Int × Int × Int → Option ByteArray} {y : ByteArray}, Ev (fun k => F k (v, p2, s2)) y → Ev (fun k => (spec_l1Cur_pick.f l p1 s1 5).bind (F k)) y := fun hr => Ev.bind (ev_const e3) hr
 by_cases h0 : v = 0
 ·obtain ⟨y, p3, s3, e4⟩ := spoilt_ex hl r.1 (⟨#[112, 113, 40, 85, 41, 88, 33]⟩ : ByteArray) (by omega) (by decide) (by decide) hc2 (by omega)
  exact ⟨y, Ev.bind e1 (Ev.bind e2 (go (ev_pos h0 (Ev.bind e4 (Ev.now _)))))⟩
 by_cases h1 : v = 1
 ·obtain ⟨y, p3, s3, e4, _⟩ := of_ex hl hc2 (by omega) [(⟨#[]⟩ : ByteArray), (⟨#[40, 112, 85, 113]⟩ : ByteArray), (⟨#[40, 112, 32, 85, 32, 113, 41]⟩ : ByteArray), (⟨#[112, 41]⟩ : ByteArray), (⟨#[88, 88, 88, 88, 88, 88, 88, 88, 88, 88, 88, 88, 88, 88, 88, 88, 112]⟩ : ByteArray), (⟨#[33, 33, 33, 33, 33, 33, 33, 33, 33, 33, 33, 33, 33, 33, 33, 112]⟩ : ByteArray), (⟨#[50]⟩ : ByteArray), (⟨#[40, 112, 86, 113, 41]⟩ : ByteArray), (⟨#[40, 112, 85, 113, 41, 113]⟩ : ByteArray)] (by simp) (by simp)
  exact ⟨y, Ev.bind e1 (Ev.bind e2 (go (ev_neg h0 (ev_pos h1 (Ev.bind (ev_const e4) (Ev.now _))))))⟩
 ·exact ⟨r.1, Ev.bind e1 (Ev.bind e2 (go (ev_neg h0 (ev_neg h1 (Ev.now _)))))⟩
theorem said_text {x : ByteArray} (hs : x.size ≤ 200) : ∀ (t : Tr) (a : Nat), okT t → (post t).length ≤ 16 → TAt x (textT t) a → Ev (fun k => impl_saidReader_said.f k x (a : Int) false) (post t, x, ((a + (textT t).size : Nat) : Int), false)
 | .leaf x1, a, ok, hm, h => by
  have hz := atomB_size ok
  obtain ⟨h1, h2⟩ := h.byte hz
  rw [textT] at h2 ⊢
  rw [hz]
  refine Ev.step (fun k => by rw [impl_saidReader_said.f]) ?_
  rcases leaf_n ok with ⟨e, n0, n1⟩ | ⟨e, n0, n1⟩
  ·obtain ⟨n, hn⟩ := Int.eq_ofNat_of_zero_le n0
   rw [e, hn, ba1 n (by omega)] at h2
   have hA := ixA_nat (112 + n) (by omega)
   have hx : ixA (bt x (a : Int)) = (n : Int) := by
    rw [h2, show (112 : Int) + (n : Int) = ((112 + n : Nat) : Int) by omega, hA]
    have : n = 0 ∨ n = 1 ∨ n = 2 := by omega
    rcases this with rfl | rfl | rfl <;> rfl
   refine Ev.bind (take_yes (bs := bsA) h1 (by omega) hx (by omega)) (ev_neg (by show ¬ ((n : Int) < 0); omega) (ev_pos (by show (n : Int) < 3; omega) (ev_eq (Ev.now _) ?_)))
   rw [post, ← hn, ← e]
  ·obtain ⟨n, hn⟩ := Int.eq_ofNat_of_zero_le n0
   rw [e, hn, ba2 n (by omega)] at h2
   have hA := ixA_nat (48 + n) (by omega)
   have hx : ixA (bt x (a : Int)) = 3 + (n : Int) := by
    rw [h2, show (48 : Int) + (n : Int) = ((48 + n : Nat) : Int) by omega, hA]
    have : n = 0 ∨ n = 1 := by omega
    rcases this with rfl | rfl <;> rfl
   refine Ev.bind (take_yes (bs := bsA) h1 (by omega) hx (by omega)) (ev_neg (by show ¬ (3 + (n : Int) < 0); omega) (ev_neg (by show ¬ (3 + (n : Int) < 3); omega) (ev_pos (by show 3 + (n : Int) < 5; omega) (ev_eq (Ev.now _) ?_))))
   show ([(⟨2, wrap64 (3 + (n : Int) - 3)⟩ : S35)], x, ((a + 1 : Nat) : Int), false) = _
   rw [post, wid (by omega) (by omega), show 3 + (n : Int) - 3 = x1.f1 by omega, ← e]
 | .un b x1, a, ok, hm, h => by
  obtain ⟨hx0, hx1⟩ := un_of ok
  have hm2 : (post b).length ≤ 15 := by simp only [post, List.length_append, List.length_singleton] at hm; omega
  rw [textT] at h ⊢
  have hz := sgn_size (op := x1.f0) (by omega) (by omega)
  obtain ⟨h1, h2⟩ := h.left.byte hz
  have hr := h.right
  rw [hz] at hr
  have ih := said_text hs b (a + 1) ok.1 (by omega) hr
  rw [ByteArray.size_append, hz]
  have hx : ixA (bt x (a : Int)) = x1.f0 + 2 := by
   rw [h2]
   rcases hx0 with e | e <;> rw [e] <;> decide +kernel
  have e1 : wrap64 (wrap64 (3 + (x1.f0 + 2)) - 5) = x1.f0 := by rw [wid (x := 3 + (x1.f0 + 2)) (by omega) (by omega), wid (by omega) (by omega)]; omega
  refine Ev.step (fun k => by rw [impl_saidReader_said.f]) ?_
  refine Ev.bind (take_yes (bs := bsA) h1 (by omega) hx (by omega)) (ev_neg (by show ¬ (x1.f0 + 2 < 0); omega) (ev_neg (by show ¬ (x1.f0 + 2 < 3); omega) (ev_neg (by show ¬ (x1.f0 + 2 < 5); omega) (ev_pos (by show x1.f0 + 2 < 7; omega) ?_))))
  refine Ev.bind ih (ev_pos (by show (post b).length < 8796093022208; omega) (ev_eq (Ev.now _) ?_))
  show (post b ++ [(⟨wrap64 (wrap64 (3 + (x1.f0 + 2)) - 5), 0⟩ : S35)], x, ((a + 1 + (textT b).size : Nat) : Int), false) = _
  rw [e1, post, ← hx1, Nat.add_assoc]
 | .bin b c x1, a, ok, hm, h => by
  obtain ⟨hx0, hx1⟩ := bin_of ok
  have hm2 : (post b).length + (post c).length ≤ 15 := by simp only [post, List.length_append, List.length_singleton] at hm; omega
  rw [textT] at h ⊢
  have hz := sgn_size (op := x1.f0) (by omega) (by omega)
  have s40 : (⟨#[40]⟩ : ByteArray).size = 1 := rfl
  have s41 : (⟨#[41]⟩ : ByteArray).size = 1 := rfl
  have p1 := h.left.left.left.left.byte s40
  have p2 := h.left.left.left.right
  have p3 := h.left.left.right.byte hz
  have p4 := h.left.right
  have p5 := h.right.byte s41
  simp only [ByteArray.size_append, s40, hz] at p2 p3 p4 p5
  have i1 := said_text hs b (a + 1) ok.1 (by omega) p2
  have w1 : a + 1 + (textT b).size = a + (1 + (textT b).size) := by omega
  have w2 : a + (1 + (textT b).size) + 1 = a + (1 + (textT b).size + 1) := by omega
  have w3 : a + (1 + (textT b).size + 1) + (textT c).size = a + (1 + (textT b).size + 1 + (textT c).size) := by omega
  have i2 := said_text hs c (a + (1 + (textT b).size + 1)) ok.2.1 (by omega) p4
  rw [w1] at i1
  rw [w3] at i2
  have hx : ixA (bt x (a : Int)) = 7 := by rw [p1.2, b40]; decide +kernel
  have hO : Go.Lib.indexByte bsO.data.toList (bt x ((a + (1 + (textT b).size) : Nat) : Int)).toNat.toUInt8 = x1.f0 - 5 := by
   rw [p3.2]
   rcases hx0 with e | e | e | e <;> rw [e] <;> decide +kernel
  have hC : Go.Lib.indexByte bsC.data.toList (bt x ((a + (1 + (textT b).size + 1 + (textT c).size) : Nat) : Int)).toNat.toUInt8 = 0 := by
   rw [p5.2, b41]; decide +kernel
  have tO := take_yes (bs := bsO) p3.1 (by omega) hO (by omega)
  have tC := take_yes (bs := bsC) p5.1 (by omega) hC (by omega)
  rw [w2] at tO
  have e1 : wrap64 (5 + (x1.f0 - 5)) = x1.f0 := by rw [wid (by omega) (by omega)]; omega
  have := said_in p1.1 (by omega) hx i1 tO i2 tC (by omega)
  rw [e1] at this
  refine ev_eq this ?_
  rw [post, ← hx1]
  simp only [ByteArray.size_append, s40, s41, hz]
  rw [show a + (1 + (textT b).size + 1 + (textT c).size) + 1 = a + (1 + (textT b).size + 1 + (textT c).size + 1) by omega]
theorem ReadSaid_text (t : Tr) (ok : okT t) (hm : (post t).length ≤ 16) : Ev (fun k => impl_ReadSaid.f k (textT t)) (post t, ((textT t).size : Int), true) := by
 have hz := textT_size t ok
 have h := said_text (x := textT t) (by omega) t 0 ok hm (TAt.whole _)
 rw [Nat.zero_add] at h
 refine ev_neg (by omega) (Ev.bind h (ev_neg (by simp) ?_))
 refine Ev.step (fun k => by rw [impl_ReadSaid.j0, decide_eq_false (by show ¬ (((textT t).size : Int) < ((textT t).size : Int)); omega), if_neg (by simp), if_neg (by show ¬ (((post t).length : Int) > 16); omega)]) (Ev.now _)

theorem FnSaidBack : ∀ (l0 : List (Int)) (l1 : List (Int)), (l0.length ≤ 9223372036854775807 ∧ ∀ x ∈ l0, InU8 x) → (l1.length ≤ 9223372036854775807 ∧ ∀ x ∈ l1, InU8 x) → ∃ k, laws_FnSaidBack.f k l0 l1 = some true := by
  intro l0 l1 h0 h1
  refine Ev.rounds ?_
  refine Ev.bind (ev_const (big_eq l0 l1 h0.1 h1.1)) ?_
  by_cases hs : l0.length + l1.length ≤ 1048576
  · refine ev_neg (by simpa using hs) ?_
    have part : Ev (fun k => laws_FnSaidBack.j1 k l1) true := by
      obtain ⟨u, hu⟩ := DrawReadSaid_ex h1
      obtain ⟨⟨g, e, one⟩, hg, hsp, him, he0, he1, hok⟩ := ReadSaid_back u
      have hg : g.length ≤ 16 := hg
      have he0 : 0 ≤ e := he0
      have he1 : e ≤ (u.size : Int) := he1
      refine Ev.step (fun k => by rw [laws_FnSaidBack.j1]) ?_
      refine Ev.bind hu (Ev.bind him (Ev.bind hsp (ev_neg (by simp) (ev_pos rfl (Ev.bind (sameSaid_ev g (by omega)) ?_)))))
      refine Ev.step (fun k => by rw [laws_FnSaidBack.j2, if_neg (by simp)]) ?_
      cases one with
      | true =>
        obtain ⟨t, ok, h16, hgt, hut⟩ := hok rfl
        have hgt : g = post t := hgt
        subst hgt hut
        exact ev_pos rfl (Ev.bind (SaidText_tree t ok h16).2 (ev_pos rfl (ev_eq (Ev.now _) (by simp))))
      | false => exact ev_neg (by simp) (ev_pos he0 (ev_eq (Ev.now _) (by simp [he1])))
    obtain ⟨f, p1, s1, e1, hf, hc1⟩ := said_ex h0 Cu.zero (by omega)
    have hd : Ev (fun k => spec_DrawSaidText.f k l0) f := Ev.bind (Ev.bind e1 (Ev.now _)) (Ev.now _)
    by_cases hgd : GoodS f
    · obtain ⟨t, ok, rfl⟩ := tree_of hgd
      have h16 := hgd.2.1
      obtain ⟨hsp, him⟩ := SaidText_tree t ok h16
      refine Ev.bind hd (Ev.bind him (Ev.bind hsp (ev_neg (by simp) ?_)))
      refine Ev.step (fun k => by rw [laws_FnSaidBack.j0, if_neg (by simp)]) ?_
      exact ev_pos rfl (Ev.bind (ReadSaid_text t ok h16) (ev_pos rfl (ev_pos rfl (Ev.bind (sameSaid_ev (post t) (by omega)) (ev_pos rfl part)))))
    · obtain ⟨hsp, him⟩ := SaidText_no f (by omega) hgd
      refine Ev.bind hd (Ev.bind him (Ev.bind hsp (ev_neg (by simp) ?_)))
      refine Ev.step (fun k => by rw [laws_FnSaidBack.j0, if_neg (by simp)]) ?_
      exact ev_neg (by simp) part
  · exact ev_pos (by simpa using hs) (Ev.now _)

end Go.Proofs.Ytjpjijihehlnkaa.Pure
