
/- The pure statement of the law FnExactPathTo: what the printed functions compute makes the law true, for every input. No condition. -/
import Derived.Test.YtdbfcmoifpgnbaaGreatOpen
import Derived.Test.YtdbfcmoifpgnbaaGreatAid
import Derived.Test.YtdbfcmoifpgnbaaGreatMFnExactPathTo5
set_option linter.unusedVariables false
set_option linter.unusedSimpArgs false
namespace Go.Proofs.YtdbfcmoifpgnbaaGreat.Pure
open Go.RowKit Go.Proofs.YtdbfcmoifpgnbaaGreatW.PrintWords Go.Proofs.YtdbfcmoifpgnbaaGreat.P Go.Proofs.YtdbfcmoifpgnbaaGreat.Hof Go.Proofs.YtdbfcmoifpgnbaaGreat.Open Go.Proofs.YtdbfcmoifpgnbaaGreat.Aid
-- LEMMAS
theorem szNodeS_eq (l : List S79) (n : Int) (hl : l.length ≤ 9223372036854775807) (h0 : 0 ≤ n) (h1 : n ≤ 1048576) : Qa8.f l n = some (if (l.length : Int) ≤ n then n - (l.length : Int) else -1) := by
 have e : wrap64 (n - (l.length : Int)) = n - l.length := wid (by omega) (by omega)
 simp only [Qa8.f]
 rw [e]
 by_cases h : (l.length : Int) ≤ n
 ·rw [if_neg (by omega), if_pos h]
 ·rw [if_pos (by omega), if_neg h]
theorem szNodeS_ev (l : List S79) (n : Int) (hl : l.length ≤ 9223372036854775807) (h0 : 0 ≤ n) (h1 : n ≤ 1048576) : ∃ t, Ev (fun _ => Qa8.f l n) t ∧ (0 ≤ t → t ≤ n ∧ l.length ≤ 1048576) := by
 refine ⟨_, ev_const (szNodeS_eq l n hl h0 h1), fun h => ?_⟩
 by_cases h2 : (l.length : Int) ≤ n
 ·rw [if_pos h2] at h ⊢; omega
 ·rw [if_neg h2] at h; omega
def cNode (x : S79) : S77 := ⟨x.f0, x.f1⟩
def cChange (x : S110) : S100 := ⟨x.f0, x.f1.map cNode⟩
def cCommand (x : S61) : S82 := ⟨x.f0.map cNode, x.f1.map cChange⟩
def BigCh (x : S110) : Prop := x.f1.length ≤ 9223372036854775807
def BigCo (x : S61) : Prop := x.f0.length ≤ 9223372036854775807 ∧ x.f1.length ≤ 9223372036854775807 ∧ ∀ y ∈ x.f1, BigCh y
def SmallCh (x : S110) : Prop := x.f1.length ≤ 1048576
def SmallCo (x : S61) : Prop := x.f0.length ≤ 1048576 ∧ x.f1.length ≤ 1048576 ∧ ∀ y ∈ x.f1, SmallCh y
theorem szChange_ev (x : S110) (hx : BigCh x) (a : Int) (h0 : 0 ≤ a) (h1 : a ≤ 1048576) : ∃ t, Ev (fun _ => Qbz.f x.f0 x.f1 a) t ∧ (0 ≤ t → t ≤ a ∧ SmallCh x) := by
 obtain ⟨t, ht, hp⟩ := szNodeS_ev x.f1 a hx h0 h1
 by_cases h : t < 0
 ·exact ⟨-1, Ev.bind ht (ev_pos h (Ev.now _)), fun h => by omega⟩
 ·exact ⟨t, Ev.bind ht (ev_neg h (Ev.now _)), hp⟩
theorem szChangeS_ev (l : List S110) (a : Int) (hl : l.length ≤ 9223372036854775807) (hx : ∀ x ∈ l, BigCh x) (h0 : 0 ≤ a) (h1 : a ≤ 1048576) : ∃ t, Ev (fun k => QaL.f k l a) t ∧ (0 ≤ t → t ≤ a ∧ l.length ≤ 1048576 ∧ ∀ x ∈ l, SmallCh x) := by
 have e : wrap64 (a - (l.length : Int)) = a - l.length := wid (by omega) (by omega)
 have e1 : ∀ (j : Nat) (a : Int) (k : Nat), j < l.length → QaL.l0 (k + 1) l a (j : Int) = ((Qbz.f (l.getD j z110).f0 (l.getD j z110).f1 a).bind fun t => if t < 0 then some (-1) else QaL.l0 k l t ((j + 1 : Nat) : Int)) := fun j a k hj => by
  have er : rd_T110 l (j : Int) = l.getD j z110 := by simp [rd_T110]
  simp only [QaL.l0]
  rw [if_pos (by omega), if_pos (by omega), wsucc (by omega), er]
 have hE : ∀ x ∈ l, ∀ a : Int, 0 ≤ a → a ≤ 1048576 → ∃ t, Ev (fun _ => Qbz.f x.f0 x.f1 a) t ∧ (0 ≤ t → t ≤ a ∧ SmallCh x) := fun x hx2 a h2 h3 => szChange_ev x (hx x hx2) a h2 h3
 have hL := sz_loop (α := S110) (fun _ x a => Qbz.f x.f0 x.f1 a) (fun k a j => QaL.l0 k l a j) SmallCh l z110 hE
 have hL := hL (fun j a r hj he => Ev.step (fun k => e1 j a k hj) he)
 have hL := hL (fun a => Ev.step (f := fun _ => some a) (fun k => by simp only [QaL.l0]; rw [if_neg (by omega)]) (Ev.now _))
 by_cases h : (l.length : Int) ≤ a
 ·obtain ⟨t, ht, hp⟩ := hL l.length 0 (a - l.length) (by omega) (by omega) (by omega)
  refine ⟨t, Ev.congr (fun k => by simp only [QaL.f]; rw [e, if_neg (by omega)]; rfl) ht, fun h2 => ?_⟩
  obtain ⟨h3, h4⟩ := hp h2
  exact ⟨by omega, by omega, by simpa using h4⟩
 ·exact ⟨-1, Ev.congr (f := fun _ => some (-1)) (fun k => by simp only [QaL.f]; rw [e, if_pos (by omega)]) (Ev.now _), fun h2 => by omega⟩
theorem szCommand_ev (x : S61) (hx : BigCo x) (a : Int) (h0 : 0 ≤ a) (h1 : a ≤ 1048576) : ∃ t, Ev (fun k => Qba.f k x.f0 x.f1 a) t ∧ (0 ≤ t → t ≤ a ∧ SmallCo x) := by
 obtain ⟨t, ht, hp⟩ := szNodeS_ev x.f0 a hx.1 h0 h1
 by_cases h : t < 0
 ·exact ⟨-1, Ev.bind ht (ev_pos h (Ev.now _)), fun h => by omega⟩
 ·obtain ⟨h2, h3⟩ := hp (by omega)
  obtain ⟨u, hu, hq⟩ := szChangeS_ev x.f1 t hx.2.1 hx.2.2 (by omega) (by omega)
  by_cases h4 : u < 0
  ·exact ⟨-1, Ev.bind ht (ev_neg h (Ev.bind hu (ev_pos h4 (Ev.now _)))), fun h => by omega⟩
  ·refine ⟨u, Ev.bind ht (ev_neg h (Ev.bind hu (ev_neg h4 (Ev.now _)))), fun h5 => ?_⟩
   obtain ⟨h6, h7, h8⟩ := hq h5
   exact ⟨by omega, h3, h7, h8⟩
theorem szCommandS_ev (l : List S61) (a : Int) (hl : l.length ≤ 9223372036854775807) (hx : ∀ x ∈ l, BigCo x) (h0 : 0 ≤ a) (h1 : a ≤ 1048576) : ∃ t, Ev (fun k => QaM.f k l a) t ∧ (0 ≤ t → t ≤ a ∧ l.length ≤ 1048576 ∧ ∀ x ∈ l, SmallCo x) := by
 have e : wrap64 (a - (l.length : Int)) = a - l.length := wid (by omega) (by omega)
 have e1 : ∀ (j : Nat) (a : Int) (k : Nat), j < l.length → QaM.l0 (k + 1) l a (j : Int) = ((Qba.f k (l.getD j z61).f0 (l.getD j z61).f1 a).bind fun t => if t < 0 then some (-1) else QaM.l0 k l t ((j + 1 : Nat) : Int)) := fun j a k hj => by
  have er : rd_T61 l (j : Int) = l.getD j z61 := by simp [rd_T61]
  simp only [QaM.l0]
  rw [if_pos (by omega), if_pos (by omega), wsucc (by omega), er]
 have hE : ∀ x ∈ l, ∀ a : Int, 0 ≤ a → a ≤ 1048576 → ∃ t, Ev (fun k => Qba.f k x.f0 x.f1 a) t ∧ (0 ≤ t → t ≤ a ∧ SmallCo x) := fun x hx2 a h2 h3 => szCommand_ev x (hx x hx2) a h2 h3
 have hL := sz_loop (α := S61) (fun k x a => Qba.f k x.f0 x.f1 a) (fun k a j => QaM.l0 k l a j) SmallCo l z61 hE
 have hL := hL (fun j a r hj he => Ev.step (fun k => e1 j a k hj) he)
 have hL := hL (fun a => Ev.step (f := fun _ => some a) (fun k => by simp only [QaM.l0]; rw [if_neg (by omega)]) (Ev.now _))
 by_cases h : (l.length : Int) ≤ a
 ·obtain ⟨t, ht, hp⟩ := hL l.length 0 (a - l.length) (by omega) (by omega) (by omega)
  refine ⟨t, Ev.congr (fun k => by simp only [QaM.f]; rw [e, if_neg (by omega)]; rfl) ht, fun h2 => ?_⟩
  obtain ⟨h3, h4⟩ := hp h2
  exact ⟨by omega, by omega, by simpa using h4⟩
 ·exact ⟨-1, Ev.congr (f := fun _ => some (-1)) (fun k => by simp only [QaM.f]; rw [e, if_pos (by omega)]) (Ev.now _), fun h2 => by omega⟩
theorem szProgram_ev (wi va : Int) (st : List S79) (co : List S61) (hs : st.length ≤ 9223372036854775807) (hc : co.length ≤ 9223372036854775807) (hx : ∀ x ∈ co, BigCo x) :
  ∃ t, Ev (fun k => Qbs.f k wi va st co 1048576) t ∧ (0 ≤ t → t ≤ 1048576 ∧ st.length ≤ 1048576 ∧ co.length ≤ 1048576 ∧ ∀ x ∈ co, SmallCo x) := by
 obtain ⟨t, ht, hp⟩ := szNodeS_ev st 1048576 hs (by omega) (by omega)
 by_cases h : t < 0
 ·exact ⟨-1, Ev.bind ht (ev_pos h (Ev.now _)), fun h => by omega⟩
 ·obtain ⟨h2, h3⟩ := hp (by omega)
  obtain ⟨u, hu, hq⟩ := szCommandS_ev co t hc hx (by omega) (by omega)
  by_cases h4 : u < 0
  ·exact ⟨-1, Ev.bind ht (ev_neg h (Ev.bind hu (ev_pos h4 (Ev.now _)))), fun h => by omega⟩
  ·refine ⟨u, Ev.bind ht (ev_neg h (Ev.bind hu (ev_neg h4 (Ev.now _)))), fun h5 => ?_⟩
   obtain ⟨h6, h7, h8⟩ := hq h5
   exact ⟨by omega, h3, h7, h8⟩
theorem l1In_eq (n lo hi : Int) : QaH.f n lo hi = some (decide (lo ≤ n ∧ n ≤ hi)) := by
 simp only [QaH.f]
 by_cases h : n ≥ lo
 ·rw [if_pos h]; congr 1; simp; intro _; exact h
 ·rw [if_neg h]; congr 1; simp; intro h'; omega
theorem l1In_tells (n lo hi : Int) : Tells (fun _ => QaH.f n lo hi) (lo ≤ n ∧ n ≤ hi) := by
 simp only [l1In_eq]; exact tells_some (by simp)
theorem wu (x : Int) : IntKind.u64.wrap x = x % 18446744073709551616 := IntKind.wrap_u64 x
theorem wu_in (x : Int) : 0 ≤ IntKind.u64.wrap x ∧ IntKind.u64.wrap x < 18446744073709551616 := by rw [wu]; omega
theorem two_pos (n : Nat) : (0 : Int) < 2 ^ n := Int.pow_pos (by decide)
theorem two_dvd {n : Nat} (h : n ≤ 64) : ((2 : Int) ^ n) ∣ 18446744073709551616 := ⟨2 ^ (64 - n), by rw [← Int.pow_add, show n + (64 - n) = 64 by omega]; rfl⟩
theorem two_le {n : Nat} (h : n ≤ 64) : ((2 : Int) ^ n) ≤ 18446744073709551616 := Int.le_of_dvd (by decide) (two_dvd h)
theorem two_nat (n : Nat) : ((2 ^ n : Nat) : Int) = (2 : Int) ^ n := by simp
theorem and_mask (a : Int) (n : Nat) (hn : n ≤ 64) (h0 : 0 ≤ a) (h1 : a < 18446744073709551616) : Go.bits .and .u64 a (2 ^ n - 1) = a % 2 ^ n := by
 obtain ⟨m, rfl⟩ := Int.eq_ofNat_of_zero_le h0
 have h2 : (2 ^ n : Nat) ≤ 18446744073709551616 := by have := two_le hn; rw [← two_nat] at this; omega
 have h3 : 0 < (2 ^ n : Nat) := Nat.two_pow_pos n
 rw [show (2 : Int) ^ n - 1 = ((2 ^ n - 1 : Nat) : Int) by rw [← two_nat]; omega, bits_and_u64_nat _ _ (by omega) (by omega), Nat.and_two_pow_sub_one_eq_mod, ← two_nat]
 rfl
theorem mask_pow : ∀ m : Nat, m < 65 → (18446744073709551615 : Nat) / 2 ^ (64 - m) = 2 ^ m - 1 := by decide
theorem shr_mask {w : Int} (h0 : 1 ≤ w) (h1 : w ≤ 64) : shr .u64 18446744073709551615 (wrap64 (64 - w)) = 2 ^ w.toNat - 1 := by
 rw [wid (by omega) (by omega)]
 have hb : IntKind.u64.bits = 64 := rfl
 simp only [shr, hb]
 rw [Nat.min_eq_left (by omega), show (64 - w).toNat = 64 - w.toNat by omega]
 have h := mask_pow w.toNat (by omega)
 have h3 : 0 < (2 ^ w.toNat : Nat) := Nat.two_pow_pos _
 rw [← two_nat, ← two_nat, show (18446744073709551615 : Int) = ((18446744073709551615 : Nat) : Int) by rfl, ← Int.natCast_ediv, h]
 omega
theorem cut_nat (a i : Nat) : (a % 2 ^ i) ||| (a &&& 2 ^ i) = a % 2 ^ (i + 1) := by
 apply Nat.eq_of_testBit_eq
 intro j
 rw [Nat.testBit_or, Nat.testBit_and, Nat.testBit_mod_two_pow, Nat.testBit_mod_two_pow, Nat.testBit_two_pow]
 by_cases h : i = j
 ·subst h; simp
 ·by_cases h2 : j < i
  ·simp [h, h2, show j < i + 1 by omega]
  ·simp [h, h2, show ¬ j < i + 1 by omega]
theorem mod_small {a : Nat} (ha : a < 18446744073709551616) {i : Nat} (h : 64 ≤ i) : a % 2 ^ i = a := by
 refine Nat.mod_eq_of_lt (Nat.lt_of_lt_of_le ha ?_)
 have := Nat.pow_le_pow_right (show 0 < 2 by decide) h
 exact this
theorem shl_one {i : Nat} (h : i < 64) : shl .u64 1 (i : Int) = ((2 ^ i : Nat) : Int) := by
 have hb : IntKind.u64.bits = 64 := rfl
 have h2 : (2 ^ i : Nat) < 18446744073709551616 := Nat.pow_lt_pow_right (by decide : 1 < 2) h
 simp only [shl, hb]
 rw [wu, Int.toNat_natCast, Nat.min_eq_left (by omega), ← two_nat, Int.one_mul]; exact Int.emod_eq_of_lt (Int.natCast_nonneg _) (Int.ofNat_lt.2 h2)
theorem shl_big {i : Nat} (h : 64 ≤ i) : shl .u64 1 (i : Int) = 0 := by
 have hb : IntKind.u64.bits = 64 := rfl
 simp only [shl, hb]
 rw [wu, Int.toNat_natCast, Nat.min_eq_right (by omega)]; rfl
theorem cut_step (a i : Nat) (ha : a < 18446744073709551616) : Go.bits .or .u64 ((a % 2 ^ i : Nat) : Int) (Go.bits .and .u64 (a : Int) (shl .u64 1 (i : Int))) = ((a % 2 ^ (i + 1) : Nat) : Int) := by
 have h1 : a % 2 ^ i ≤ a := Nat.mod_le _ _
 by_cases h : i < 64
 ·have h2 : (2 ^ i : Nat) < 18446744073709551616 := Nat.pow_lt_pow_right (by decide : 1 < 2) h
  have h3 : a &&& 2 ^ i ≤ a := Nat.and_le_left
  rw [shl_one h, bits_and_u64_nat _ _ ha h2, bits_or_u64_nat _ _ (by omega) (by omega), cut_nat]
 ·have e : Go.bits .and .u64 (a : Int) ((0 : Nat) : Int) = ((0 : Nat) : Int) := by rw [bits_and_u64_nat _ _ ha (by decide), Nat.and_zero]
  have e2 : Go.bits .or .u64 (a : Int) ((0 : Nat) : Int) = (a : Int) := by rw [bits_or_u64_nat _ _ ha (by decide), Nat.or_zero]
  rw [shl_big (by omega), mod_small ha (by omega), mod_small ha (by omega)]
  exact (congrArg _ e).trans e2
theorem not_nat (a : Nat) (ha : a < 18446744073709551616) : 18446744073709551615 ^^^ a = 18446744073709551615 - a := by
 rw [show 18446744073709551615 - a = 2 ^ 64 - (a + 1) by omega]
 apply Nat.eq_of_testBit_eq
 intro j
 rw [Nat.testBit_xor, Nat.testBit_two_pow_sub_succ (by omega), show (18446744073709551615 : Nat) = 2 ^ 64 - 1 by rfl, Nat.testBit_two_pow_sub_one]
 by_cases h : j < 64
 ·simp [h]
 ·have : a.testBit j = false := Nat.testBit_lt_two_pow (Nat.lt_of_lt_of_le ha (Nat.pow_le_pow_right (by decide : 0 < 2) (by omega : 64 ≤ j)))
  simp [h, this]
theorem not_word (a : Int) (h0 : 0 ≤ a) (h1 : a < 18446744073709551616) : Go.bits .xor .u64 18446744073709551615 a = 18446744073709551615 - a := by
 obtain ⟨m, rfl⟩ := Int.eq_ofNat_of_zero_le h0
 rw [show (18446744073709551615 : Int) = ((18446744073709551615 : Nat) : Int) by rfl, bits_xor_u64_nat _ _ (by decide) (by omega), not_nat m (by omega)]
 omega
def GW (w a : Int) : Prop := 1 ≤ w ∧ w ≤ 64 ∧ a < 2 ^ w.toNat
instance (w a : Int) : Decidable (GW w a) := by unfold GW; infer_instance
theorem GW.le {w a : Int} (h : GW w a) : a < 18446744073709551616 := by have := two_le (n := w.toNat) (by have := h.2.1; omega); have := h.2.2; omega
theorem mod_word (x : Int) {w : Int} (h : w ≤ 64) : x % 18446744073709551616 % 2 ^ w.toNat = x % 2 ^ w.toNat := Int.emod_emod_of_dvd _ (two_dvd (by omega))
def needMany (op : Int) : Nat := if op = 1 ∨ op = 2 ∨ op = 20 then 0 else if op = 13 ∨ op = 19 then 1 else if 3 ≤ op ∧ op ≤ 18 then 2 else 0
def needPart (op : Int) : Int := if op = 19 ∨ op = 17 ∨ op = 18 then 2 else 1
def needOwn (op : Int) : Int := if op = 20 ∨ op = 19 ∨ (14 ≤ op ∧ op ≤ 18) then 2 else if 1 ≤ op ∧ op ≤ 13 then 1 else 0
def NOk (wide vars : Int) (x : S77) : Prop := if x.f0 = 1 then GW wide x.f1 else if x.f0 = 2 then x.f1 < vars else if x.f0 = 20 then x.f1 ≤ 1 else x.f1 = 0
def fits (wide vars : Int) (x : S77) (s : List Int) : Prop := needOwn x.f0 ≠ 0 ∧ NOk wide vars x ∧ needMany x.f0 ≤ s.length ∧ ∀ y ∈ s.drop (s.length - needMany x.f0), y = needPart x.f0
def pile (x : S77) (s : List Int) : List Int := s.take (s.length - needMany x.f0) ++ [needOwn x.f0]
def Runs (wide vars : Int) : List S77 → List Int → List Int → Prop
 | [], s, r => s = r
 | x :: t, s, r => fits wide vars x s ∧ Runs wide vars t (pile x s) r
def TermOf (wide vars : Int) (t : List S77) (kind : Int) : Prop := (1 ≤ wide ∧ wide ≤ 64) ∧ (1 ≤ vars ∧ vars ≤ 4) ∧ (1 ≤ t.length ∧ t.length ≤ 48) ∧ Runs wide vars t [] [kind]
theorem needMany_le (op : Int) : needMany op ≤ 2 := by
 unfold needMany
 split
 ·omega
 ·split
  ·omega
  ·split <;> omega
theorem Runs.uniq {wide vars : Int} : ∀ {t : List S77} {s r r' : List Int}, Runs wide vars t s r → Runs wide vars t s r' → r = r'
 | [], s, r, r', h, h' => h.symm.trans h'
 | x :: t, s, r, r', h, h' => Runs.uniq h.2 h'.2
theorem Runs.last {wide vars : Int} : ∀ {t : List S77} {s : List Int} {k : Int}, t ≠ [] → Runs wide vars t s [k] → k = needOwn (t.getD (t.length - 1) z77).f0
 | [], s, k, h, _ => absurd rfl h
 | [x], s, k, _, h => by
  have h2 : pile x s = [k] := h.2
  unfold pile at h2
  have h3 := congrArg List.getLast? h2
  simpa using h3.symm
 | x :: y :: t, s, k, _, h => by
  have h2 := Runs.last (t := y :: t) (by simp) h.2
  simpa using h2
theorem l2Need_ev (op : Int) : ∃ p, Ev (fun k => Qau.f k op) ((needMany op : Int), p, needOwn op) ∧ (0 < needMany op → p = needPart op) := by
 have j0 : ∀ b : Bool, b = decide (op = 1 ∨ op = 2) → ∃ p, Ev (fun k => Qau.j0 k op b) ((needMany op : Int), p, needOwn op) ∧ (0 < needMany op → p = needPart op) := fun b hb => by
  by_cases h1 : b = true
  ·have h2 : op = 1 ∨ op = 2 := by rw [hb] at h1; simpa using h1
   refine ⟨1, Ev.step (f := fun _ => some ((needMany op : Int), 1, needOwn op)) (fun k => ?_) (Ev.now _), fun h => ?_⟩
   ·simp only [Qau.j0]; rw [if_pos h1]; rcases h2 with rfl | rfl <;> rfl
   ·rcases h2 with rfl | rfl <;> simp [needMany] at h
  ·have h2 : ¬ (op = 1 ∨ op = 2) := by rw [hb] at h1; simpa using h1
   by_cases h20 : op = 20
   ·subst h20; exact ⟨2, Ev.step (f := fun _ => some (0, 2, 2)) (fun k => by simp [Qau.j0, h1]) (Ev.now _), fun h => by simp [needMany] at h⟩
   by_cases h13 : op = 13
   ·subst h13; exact ⟨1, Ev.step (f := fun _ => some (1, 1, 1)) (fun k => by simp [Qau.j0, h1]) (Ev.now _), fun _ => rfl⟩
   by_cases h19 : op = 19
   ·subst h19; exact ⟨2, Ev.step (f := fun _ => some (1, 2, 2)) (fun k => by simp [Qau.j0, h1]) (Ev.now _), fun _ => rfl⟩
   have e0 : ∀ k, Qau.j0 (k + 1) op b = (if decide (3 ≤ op ∧ op ≤ 12) = true then some (2, 1, 1) else if decide (14 ≤ op ∧ op ≤ 16) = true then some (2, 1, 2) else if op = 17 then some (2, 2, 2) else if op = 18 then some (2, 2, 2) else some (0, 0, 0)) := fun k => by
    simp only [Qau.j0, l1In_eq, Option.bind_some]; rw [if_neg h1, if_neg h20, if_neg h13, if_neg h19]
   simp only [decide_eq_true_eq] at e0
   by_cases a1 : 3 ≤ op ∧ op ≤ 12
   ·exact ⟨1, Ev.step (f := fun _ => some ((needMany op : Int), 1, needOwn op)) (fun k => by rw [e0, if_pos a1, needMany, needOwn, if_neg (by omega), if_neg (by omega), if_pos (by omega), if_neg (by omega), if_pos (by omega)]; rfl) (Ev.now _), fun _ => by rw [needPart, if_neg (by omega)]⟩
   by_cases a2 : 14 ≤ op ∧ op ≤ 16
   ·exact ⟨1, Ev.step (f := fun _ => some ((needMany op : Int), 1, needOwn op)) (fun k => by rw [e0, if_neg a1, if_pos a2, needMany, needOwn, if_neg (by omega), if_neg (by omega), if_pos (by omega), if_pos (by omega)]; rfl) (Ev.now _), fun _ => by rw [needPart, if_neg (by omega)]⟩
   by_cases a3 : op = 17
   ·subst a3; exact ⟨2, Ev.step (f := fun _ => some (2, 2, 2)) (fun k => by rw [e0, if_neg a1, if_neg a2, if_pos rfl]) (Ev.now _), fun _ => rfl⟩
   by_cases a4 : op = 18
   ·subst a4; exact ⟨2, Ev.step (f := fun _ => some (2, 2, 2)) (fun k => by rw [e0, if_neg a1, if_neg a2, if_neg a3, if_pos rfl]) (Ev.now _), fun _ => rfl⟩
   ·have e : needMany op = 0 := by rw [needMany, if_neg (by omega), if_neg (by omega), if_neg (by omega)]
    exact ⟨0, Ev.step (f := fun _ => some ((needMany op : Int), 0, needOwn op)) (fun k => by rw [e0, if_neg a1, if_neg a2, if_neg a3, if_neg a4, e, needOwn, if_neg (by omega), if_neg (by omega)]; rfl) (Ev.now _), fun h => by omega⟩
 by_cases h1 : op = 1
 ·obtain ⟨p, e1, e2⟩ := j0 true (by simp [h1])
  exact ⟨p, ev_pos h1 e1, e2⟩
 ·obtain ⟨p, e1, e2⟩ := j0 (op == 2) (by simp [h1]; rfl)
  exact ⟨p, ev_neg h1 e1, e2⟩
theorem l1Cut_l0 (a : Nat) (ha : a < 18446744073709551616) (w : Int) (hw : w ≤ 65) (d : Nat) : ∀ i : Nat, (i : Int) + d = max w 0 → Ev (fun k => Qai.l0 k w (a : Int) ((a % 2 ^ i : Nat) : Int) (i : Int)) ((a % 2 ^ w.toNat : Nat) : Int) := by
 induction d with
 | zero =>
  intro i hi
  refine ev_eq (Ev.step (f := fun _ => some ((a % 2 ^ i : Nat) : Int)) (fun k => by simp only [Qai.l0]; rw [if_neg (by omega)]) (Ev.now _)) ?_
  rw [show w.toNat = i by omega]
 | succ d ih =>
  intro i hi
  have e : IntKind.u64.wrap (i : Int) = (i : Int) := by rw [wu]; omega
  exact Ev.step (fun k => by simp only [Qai.l0]; rw [if_pos (by omega), e, if_pos (by omega), cut_step a i ha, wsucc (by omega)]) (ih (i + 1) (by omega))
theorem l1Cut_ev (w a : Int) (hw : w ≤ 65) (h0 : 0 ≤ a) (h1 : a < 18446744073709551616) : Ev (fun k => Qai.f k w a) (a % 2 ^ w.toNat) := by
 obtain ⟨m, rfl⟩ := Int.eq_ofNat_of_zero_le h0
 have := l1Cut_l0 m (by omega) w hw (max w 0).toNat 0 (by omega)
 rw [show m % 2 ^ 0 = 0 by simp [Nat.mod_one]] at this
 exact ev_eq this (by rw [← two_nat]; rfl)
theorem l1Wide_eq (w : Int) : Qbi.f w = some (decide (1 ≤ w ∧ w ≤ 64)) := by
 unfold Qbi.f; rw [l1In_eq]; rfl
theorem spec_GoodWord_tells (w a : Int) (h0 : 0 ≤ a) (h1 : a < 18446744073709551616) : Tells (fun k => Qa9.f k w a) (GW w a) := by
 refine tells_bind (ev_const (l1Wide_eq w)) ?_
 by_cases h : 1 ≤ w ∧ w ≤ 64
 ·refine tells_pos (by simpa using h) (tells_bind (l1Cut_ev w a (by omega) h0 h1) (tells_some ?_))
  have := two_pos w.toNat
  constructor
  ·intro g
   have g : a % 2 ^ w.toNat = a := by simpa using g
   exact ⟨h.1, h.2, by have := Int.emod_lt_of_pos a this; omega⟩
  ·intro g
   rw [Int.emod_eq_of_lt h0 g.2.2]; simp
 ·exact tells_neg (by simpa using h) (tells_no (fun g => h ⟨g.1, g.2.1⟩))
theorem l1Both_tells (w a b : Int) (ha0 : 0 ≤ a) (ha1 : a < 18446744073709551616) (hb0 : 0 ≤ b) (hb1 : b < 18446744073709551616) : Tells (fun k => Qa3.f k w a b) (GW w a ∧ GW w b) := by
 refine tells_ask (spec_GoodWord_tells w a ha0 ha1) (fun h => tells_pos rfl ?_) (fun h => tells_neg (by simp) (tells_no (fun g => h g.1)))
 obtain ⟨c, hc, e⟩ := spec_GoodWord_tells w b hb0 hb1
 exact ⟨c, Ev.bind hc (Ev.now _), e.trans ⟨fun g => ⟨h, g⟩, fun g => g.2⟩⟩
theorem isWide_eq (w : Int) : QaZ.f w = some (decide (1 ≤ w ∧ w ≤ 64)) := by
 unfold QaZ.f
 by_cases h : w ≥ 1
 ·rw [if_pos h]; simp [show (1 : Int) ≤ w by omega]
 ·rw [if_neg h]; simp [show ¬ (1 : Int) ≤ w by omega]
theorem mask_eq {w : Int} (h0 : 1 ≤ w) (h1 : w ≤ 64) : Qas.f w = some (2 ^ w.toNat - 1) := by
 unfold Qas.f
 rw [if_pos (by rw [wid (by omega) (by omega)]; omega), shr_mask h0 h1]
theorem impl_GoodWord_eq (w a : Int) : Qbp.f w a = some (decide (GW w a)) := by
 unfold Qbp.f
 rw [isWide_eq, Option.bind_some]
 by_cases h : 1 ≤ w ∧ w ≤ 64
 ·rw [decide_eq_true h, if_pos rfl, mask_eq h.1 h.2, Option.bind_some]
  congr 1
  rw [decide_eq_decide]
  exact ⟨fun g => ⟨h.1, h.2, by omega⟩, fun g => by have := g.2.2; omega⟩
 ·rw [decide_eq_false h, if_neg (by simp), decide_eq_false (fun g => h ⟨g.1, g.2.1⟩)]
theorem areWords_eq (w a b : Int) : QbA.f w a b = some (decide (GW w a ∧ GW w b)) := by
 unfold QbA.f
 rw [impl_GoodWord_eq, impl_GoodWord_eq, Option.bind_some]
 by_cases h : GW w a
 ·rw [decide_eq_true h, if_pos rfl, Option.bind_some]; simp [h]
 ·rw [decide_eq_false h, if_neg (by simp)]; simp [h]
theorem quo_word {a b : Int} (h0 : 0 ≤ a) (h1 : a < 18446744073709551616) (hb : 0 < b) : IntKind.u64.wrap (Int.tdiv a b) = a / b ∧ Int.tmod a b = a % b := by
 have h2 : 0 ≤ a / b := Int.ediv_nonneg h0 (by omega)
 have h3 : a / b ≤ a := Int.ediv_le_self b h0
 rw [Int.tdiv_eq_ediv_of_nonneg h0, Int.tmod_eq_emod_of_nonneg h0, wu]
 exact ⟨Int.emod_eq_of_lt h2 (by omega), rfl⟩
theorem DivWord_zero {w a : Int} (ha : GW w a) (hb : GW w 0) : Qbn.f w a 0 = some (2 ^ w.toNat - 1, a, true) := by
 unfold Qbn.f
 rw [areWords_eq, Option.bind_some, decide_eq_true (And.intro ha hb), if_pos rfl, if_pos rfl, mask_eq ha.1 ha.2.1, Option.bind_some]
theorem DivWord_yes {w a b : Int} (ha : GW w a) (hb : GW w b) (h0 : 0 ≤ a) (hb0 : 0 < b) : Qbn.f w a b = some (a / b, a % b, true) := by
 unfold Qbn.f
 obtain ⟨e1, e2⟩ := quo_word h0 ha.le hb0
 rw [areWords_eq, Option.bind_some, decide_eq_true (And.intro ha hb), if_pos rfl, if_neg (by omega), bits_Div64.f, if_pos ⟨rfl, hb0⟩, Option.bind_some, e1, e2]
theorem spec_DivWord_zero {w a : Int} (ha : GW w a) (hb : GW w 0) (h0 : 0 ≤ a) : Ev (fun k => Qa2.f k w a 0) (18446744073709551615 % 2 ^ w.toNat, a, true) :=
 Ev.bind (tells_ev (l1Both_tells w a 0 h0 ha.le (by omega) (by omega)) ⟨ha, hb⟩) (ev_pos rfl (ev_pos rfl (Ev.bind (l1Cut_ev w _ (by have := ha.2.1; omega) (by omega) (by omega)) (Ev.now _))))
theorem spec_DivWord_yes {w a b : Int} (ha : GW w a) (hb : GW w b) (h0 : 0 ≤ a) (hb0 : 0 < b) : Ev (fun k => Qa2.f k w a b) (a / b, a % b, true) := by
 obtain ⟨e1, e2⟩ := quo_word h0 ha.le hb0
 refine Ev.bind (tells_ev (l1Both_tells w a b h0 ha.le (by omega) hb.le) ⟨ha, hb⟩) (ev_pos rfl (ev_neg (by omega) ?_))
 rw [e1, e2]; exact Ev.now _
theorem shl_wordP {a : Int} {n : Nat} (hn : n < 64) : shl .u64 a (n : Int) = (a * 2 ^ n) % 18446744073709551616 := by
 have hb : IntKind.u64.bits = 64 := rfl
 simp only [shl, hb]
 rw [Int.toNat_natCast, Nat.min_eq_left (by omega), wu]
theorem shr_wordP {a : Int} {n : Nat} (hn : n < 64) : shr .u64 a (n : Int) = a / 2 ^ n := by
 have hb : IntKind.u64.bits = 64 := rfl
 simp only [shr, hb]
 rw [Int.toNat_natCast, Nat.min_eq_left (by omega)]
theorem shift_left {w a : Int} {n : Nat} (h1 : 1 ≤ w) (h2 : w ≤ 64) (h : (n : Int) < w) : Qbr.f w a n true = some ((a * 2 ^ n) % 2 ^ w.toNat) := by
 have ew : IntKind.u64.wrap w = w := by rw [wu]; omega
 have hw := wu_in (a * 2 ^ n)
 unfold Qbr.f
 rw [ew, if_neg (by omega), if_pos rfl, if_pos (by omega), mask_eq h1 h2, Option.bind_some, shl_wordP (by omega), ← wu, and_mask _ _ (by omega) hw.1 hw.2, wu, mod_word _ h2]
theorem shift_right {w a : Int} {n : Nat} (h1 : 1 ≤ w) (h2 : w ≤ 64) (h : (n : Int) < w) : Qbr.f w a n false = some (a / 2 ^ n) := by
 have ew : IntKind.u64.wrap w = w := by rw [wu]; omega
 unfold Qbr.f
 rw [ew, if_neg (by omega), if_neg (by simp), if_pos (by omega), shr_wordP (by omega)]
theorem wpredU (n : Nat) (hn : n < 64) : IntKind.u64.wrap (((n + 1 : Nat) : Int) - 1) = (n : Int) := by rw [wu]; omega
theorem l1Shift_right (w : Int) : ∀ (n : Nat), n < 64 → ∀ m : Nat, Ev (fun k => QaA.l0 k w (m : Int) (n : Int) false) ((m / 2 ^ n : Nat) : Int)
 | 0, _, m => ev_eq (Ev.step (f := fun _ => some (m : Int)) (fun k => by simp only [QaA.l0]; rw [if_neg (by omega)]) (Ev.now _)) (by simp)
 | n + 1, hn, m => by
  refine ev_eq (Ev.step (fun k => by simp only [QaA.l0]; rw [if_pos (by omega), if_neg (by simp), wpredU n (by omega), show (m : Int) / 2 = ((m / 2 : Nat) : Int) by omega]) (l1Shift_right w n (by omega) (m / 2))) ?_
  rw [Nat.div_div_eq_div_mul, Nat.pow_succ, Nat.mul_comm]
theorem l1Shift_left (w : Int) (hw : 1 ≤ w ∧ w ≤ 64) : ∀ (n : Nat), n < 64 → ∀ a : Int, 0 ≤ a → a < 2 ^ w.toNat → Ev (fun k => QaA.l0 k w a (n : Int) true) ((a * 2 ^ n) % 2 ^ w.toNat)
 | 0, _, a, h0, h1 => ev_eq (Ev.step (f := fun _ => some a) (fun k => by simp only [QaA.l0]; rw [if_neg (by omega)]) (Ev.now _)) (by rw [Int.pow_zero, Int.mul_one, Int.emod_eq_of_lt h0 h1])
 | n + 1, hn, a, h0, h1 => by
  have hc : Ev (fun k => Qai.f k w (IntKind.u64.wrap (a * 2))) ((a * 2) % 2 ^ w.toNat) := by
   have h := l1Cut_ev w (IntKind.u64.wrap (a * 2)) (by omega) (wu_in _).1 (wu_in _).2
   rw [wu, mod_word _ hw.2] at h
   rw [wu]; exact h
  refine ev_eq (Ev.step (fun k => by simp only [QaA.l0]; rw [if_pos (by omega), if_pos trivial, wpredU n (by omega)]) (Ev.bind hc (l1Shift_left w hw n (by omega) _ (Int.emod_nonneg _ (Int.ne_of_gt (two_pos _))) (Int.emod_lt_of_pos _ (two_pos _))))) ?_
  rw [Int.pow_succ, Int.mul_emod, Int.emod_emod, ← Int.mul_emod, Int.mul_assoc, Int.mul_comm 2 (2 ^ n)]
def sgn (w a : Int) : Int := if a * 2 ^ (64 - w.toNat) < 9223372036854775808 then a else a - 2 ^ w.toNat
theorem signed_eq {w a : Int} (h : GW w a) (h0 : 0 ≤ a) : QbC.f w a = some (sgn w a) := by
 unfold QbC.f
 obtain ⟨h1, h2, h3⟩ := h
 have e : wrap64 (64 - w) = 64 - w := wid (by omega) (by omega)
 have hb : IntKind.u64.bits = 64 := rfl
 have hb2 : IntKind.i64.bits = 64 := rfl
 rw [e, if_pos (by omega)]
 simp only [shl, shr, hb, hb2]
 rw [show (64 - w).toNat = 64 - w.toNat by omega, Nat.min_eq_left (by omega), wu]
 have hp := two_pos (64 - w.toNat)
 have hM : (2 : Int) ^ w.toNat * 2 ^ (64 - w.toNat) = 18446744073709551616 := by rw [← Int.pow_add, show w.toNat + (64 - w.toNat) = 64 by omega]; rfl
 have hA0 : 0 ≤ a * 2 ^ (64 - w.toNat) := Int.mul_nonneg h0 (by omega)
 have hA1 : a * 2 ^ (64 - w.toNat) < 18446744073709551616 := by rw [← hM]; exact Int.mul_lt_mul_of_pos_right h3 hp
 rw [Int.emod_eq_of_lt hA0 hA1]
 unfold sgn
 by_cases hs : a * 2 ^ (64 - w.toNat) < 9223372036854775808
 ·rw [if_pos hs, wid (by omega) (by omega), Int.mul_ediv_cancel _ (by omega)]
 ·rw [if_neg hs, show wrap64 (a * 2 ^ (64 - w.toNat)) = a * 2 ^ (64 - w.toNat) - 18446744073709551616 by unfold wrap64; omega, ← hM, ← Int.sub_mul, Int.mul_ediv_cancel _ (by omega)]
theorem l1Signed_ev {w a : Int} (h : GW w a) (h0 : 0 ≤ a) : Ev (fun k => Qa5.f k w a) (sgn w a) := by
 obtain ⟨h1, h2, h3⟩ := h
 obtain ⟨m, rfl⟩ := Int.eq_ofNat_of_zero_le h0
 obtain ⟨n, hn⟩ : ∃ n : Nat, w = ((n + 1 : Nat) : Int) := ⟨(w - 1).toNat, by omega⟩
 subst hn
 have ht : (((n + 1 : Nat) : Int)).toNat = n + 1 := by omega
 have ew : IntKind.u64.wrap (wrap64 (((n + 1 : Nat) : Int) - 1)) = (n : Int) := by rw [wid (by omega) (by omega), wu]; omega
 have hp : 0 < 2 ^ n := Nat.two_pow_pos n
 have hm : m < 2 ^ n * 2 := by
  rw [ht, ← two_nat] at h3
  have := Int.ofNat_lt.1 h3
  rwa [Nat.pow_succ] at this
 have h63 : 2 ^ n * 2 ^ (63 - n) = 9223372036854775808 := by rw [← Nat.pow_add, show n + (63 - n) = 63 by omega]
 have hq : 1 ≤ 2 ^ (63 - n) := Nat.one_le_two_pow
 have hle : 2 ^ n ≤ 9223372036854775808 := by rw [← h63]; exact Nat.le_mul_of_pos_right _ hq
 have es : shr .u64 (m : Int) (n : Int) = ((m / 2 ^ n : Nat) : Int) := by rw [shr_wordP (by omega)]; simp
 have hd : m / 2 ^ n < 2 := Nat.div_lt_of_lt_mul hm
 have ea' : ∀ q : Nat, q < 2 → Go.bits .and .u64 (q : Int) 1 = (q : Int) := fun q hq2 => by
  have := and_mask (q : Int) 1 (by omega) (by omega) (by omega)
  rw [show (2 : Int) ^ 1 - 1 = 1 by rfl] at this
  rw [this]; omega
 have ea := ea' _ hd
 have hs : ((m : Int) * 2 ^ (64 - (((n + 1 : Nat) : Int)).toNat) < 9223372036854775808) ↔ m < 2 ^ n := by
  rw [ht, show 64 - (n + 1) = 63 - n by omega, ← two_nat, ← Int.natCast_mul]
  constructor
  ·intro g
   refine Classical.byContradiction (fun g2 => ?_)
   have : 2 ^ n * 2 ^ (63 - n) ≤ m * 2 ^ (63 - n) := Nat.mul_le_mul_right _ (by omega)
   omega
  ·intro g
   have : m * 2 ^ (63 - n) < 2 ^ n * 2 ^ (63 - n) := Nat.mul_lt_mul_of_pos_right g (by omega)
   omega
 unfold sgn
 by_cases c : m < 2 ^ n
 ·rw [if_pos (hs.2 c)]
  have e0 : m / 2 ^ n = 0 := Nat.div_eq_of_lt c
  exact Ev.congr (f := fun _ => some (m : Int)) (fun k => by simp only [Qa5.f]; rw [ew, if_pos (by omega), es, ea, e0, if_neg (by decide), wid (by omega) (by omega)]) (Ev.now _)
 ·rw [if_neg (fun g => c (hs.1 g))]
  have e1 : m / 2 ^ n = 1 := by
   have : 1 ≤ m / 2 ^ n := (Nat.le_div_iff_mul_le hp).2 (by omega)
   omega
  have hcut := l1Cut_ev ((n + 1 : Nat) : Int) 18446744073709551615 (by omega) (by omega) (by omega)
  have h64 : 2 ^ (n + 1) * 2 ^ (63 - n) = 18446744073709551616 := by rw [← Nat.pow_add, show n + 1 + (63 - n) = 64 by omega]
  have hp2 : 2 ^ (n + 1) = 2 ^ n * 2 := Nat.pow_succ ..
  have e2 : (18446744073709551615 : Int) % 2 ^ (((n + 1 : Nat) : Int)).toNat = ((2 ^ (n + 1) - 1 : Nat) : Int) := by
   rw [ht, ← two_nat, show (18446744073709551615 : Int) = ((18446744073709551615 : Nat) : Int) by rfl, ← Int.natCast_emod]
   congr 1
   rw [show 18446744073709551615 = (2 ^ (n + 1) - 1) + 2 ^ (n + 1) * (2 ^ (63 - n) - 1) by rw [Nat.mul_sub, h64]; have := Nat.le_mul_of_pos_right (2 ^ (n + 1)) hq; omega, Nat.add_mul_mod_self_left, Nat.mod_eq_of_lt (by omega)]
  have e3 : Go.bits .or .u64 (m : Int) (18446744073709551615 - ((2 ^ (n + 1) - 1 : Nat) : Int)) = ((2 ^ (n + 1) * (2 ^ (63 - n) - 1) + m : Nat) : Int) := by
   have hx : 18446744073709551616 - 2 ^ (n + 1) = 2 ^ (n + 1) * (2 ^ (63 - n) - 1) := by rw [Nat.mul_sub, h64, Nat.mul_one]
   rw [show (18446744073709551615 : Int) - ((2 ^ (n + 1) - 1 : Nat) : Int) = ((18446744073709551616 - 2 ^ (n + 1) : Nat) : Int) by omega, bits_or_u64_nat _ _ (by omega) (by omega), hx, Nat.or_comm, Nat.two_pow_add_eq_or_of_lt (by omega)]
  rw [e2] at hcut
  refine Ev.congr (fun k => by simp only [Qa5.f]; rw [ew, if_pos (by omega), es, ea, e1, if_pos (show ((1 : Nat) : Int) = 1 by rfl)]) (Ev.bind hcut ?_)
  refine Ev.congr (f := fun _ => some ((m : Int) - 2 ^ (((n + 1 : Nat) : Int)).toNat)) (fun k => ?_) (Ev.now _)
  rw [not_word _ (by omega) (by omega), e3, ht, ← two_nat]
  have hx : 2 ^ (n + 1) * (2 ^ (63 - n) - 1) = 18446744073709551616 - 2 ^ (n + 1) := by rw [Nat.mul_sub, h64, Nat.mul_one]
  rw [hx]
  congr 1
  unfold wrap64
  omega
def VOk (wi kd v : Int) : Prop := 0 ≤ v ∧ GW wi v ∧ (kd = 2 → v ≤ 1)
def nxt : List (Nat × Int × Int) → Nat
 | [] => 0
 | x :: _ => x.1 + 1
def valsOf (S : List (Nat × Int × Int)) : List Int := (S.map (fun x => x.2.1)).reverse
def kindsOf (S : List (Nat × Int × Int)) : List Int := (S.map (fun x => x.2.2)).reverse
def Piled (wi : Int) (t : List S77) (s : List Int) : Nat → List (Nat × Int × Int) → Prop
 | n, [] => n = 0
 | n, x :: r => (n = x.1 + 1 ∧ nxt r ≤ x.1) ∧ Ev (fun k => Qal.f k wi t (x.1 : Int) s) x.2.1 ∧ Ev (fun k => Qav.f k t (x.1 : Int)) (nxt r : Int) ∧ VOk wi x.2.2 x.2.1 ∧ Piled wi t s (nxt r) r
theorem Piled.nxt {wi : Int} {t : List S77} {s : List Int} : ∀ {S : List (Nat × Int × Int)} {n : Nat}, Piled wi t s n S → nxt S = n
 | [], _, h => h.symm
 | _ :: _, _, h => h.1.1.symm
theorem from_l0 (t : List S77) (a : Int) : Ev (fun k => Qav.l0 k t 0 a) a := Ev.step (f := fun _ => some a) (fun k => by simp only [Qav.l0]; rw [if_neg (by omega)]) (Ev.now _)
theorem from_l1 (t : List S77) (m : Int) (hm : 0 ≤ m ∧ m ≤ 2) (e : Nat) (he : e ≤ 1000) (b r : Int) (h : Ev (fun k => Qav.f k t (e : Int)) b) (h2 : Ev (fun k => Qav.l0 k t m b) r) : Ev (fun k => Qav.l0 k t (m + 1) ((e + 1 : Nat) : Int)) r :=
 Ev.step (fun k => by simp only [Qav.l0]; rw [if_pos (by omega), show ((e + 1 : Nat) : Int) - 1 = (e : Int) by omega, wid (x := (e : Int)) (by omega) (by omega), wid (x := m + 1 - 1) (by omega) (by omega), show m + 1 - 1 = m by omega]) (Ev.bind h h2)
theorem from_at (t : List S77) (n : Nat) (hn : n < t.length) (r : Int) (h : Ev (fun k => Qav.l0 k t (needMany (t.getD n z77).f0 : Int) (n : Int)) r) : Ev (fun k => Qav.f k t (n : Int)) r := by
 have er : rd_T77 t (n : Int) = t.getD n z77 := by simp [rd_T77]
 obtain ⟨p, hp, _⟩ := l2Need_ev (t.getD n z77).f0
 exact Ev.step (fun k => by simp only [Qav.f]; rw [if_pos (by omega), if_pos (by omega), er]) (Ev.bind hp h)
theorem from_next (wi : Int) (t : List S77) (s : List Int) (n : Nat) (hn : n < t.length) (ht : t.length ≤ 48) (S : List (Nat × Int × Int)) (hS : Piled wi t s n S) (hm : needMany (t.getD n z77).f0 ≤ S.length) :
  Ev (fun k => Qav.f k t (n : Int)) (nxt (S.drop (needMany (t.getD n z77).f0)) : Int) ∧ Piled wi t s (nxt (S.drop (needMany (t.getD n z77).f0))) (S.drop (needMany (t.getD n z77).f0)) ∧ nxt (S.drop (needMany (t.getD n z77).f0)) ≤ n := by
 have h2 := needMany_le (t.getD n z77).f0
 have key : ∀ r, Ev (fun k => Qav.l0 k t (needMany (t.getD n z77).f0 : Int) (n : Int)) r → Ev (fun k => Qav.f k t (n : Int)) r := fun r h => from_at t n hn r h
 generalize needMany (t.getD n z77).f0 = m at hm h2 key ⊢
 match m, S, hS, hm, h2 with
 | 0, S, hS, _, _ =>
  rw [List.drop_zero, hS.nxt]
  exact ⟨key _ (from_l0 t _), hS, Nat.le_refl n⟩
 | 1, x :: r, hS, _, _ =>
  obtain ⟨⟨h0, hle⟩, _, h1, _, h3⟩ := hS
  subst h0
  have hle : nxt r ≤ x.1 := hle
  exact ⟨key _ (from_l1 t 0 (by omega) x.1 (by omega) _ _ h1 (from_l0 t _)), h3, by show nxt r ≤ x.1 + 1; omega⟩
 | 2, x :: y :: r, hS, _, _ =>
  obtain ⟨⟨h0, hle⟩, _, h1, _, h3⟩ := hS
  obtain ⟨⟨_, hle2⟩, _, h4, _, h5⟩ := h3
  have hle2 : nxt r ≤ y.1 := hle2
  have hle : y.1 + 1 ≤ x.1 := hle
  subst h0
  exact ⟨key _ (from_l1 t 1 (by omega) x.1 (by omega) _ _ h1 (from_l1 t 0 (by omega) y.1 (by omega) _ _ h4 (from_l0 t _))), h5, by show nxt r ≤ x.1 + 1; omega⟩
def Wd (t : List S77) : Prop := ∀ x ∈ t, 0 ≤ x.f1 ∧ x.f1 < 18446744073709551616
def ChangeOk (wi va : Int) (l : List S100) (i : Nat) : Prop := (0 ≤ (l.getD i z100).f0 ∧ (l.getD i z100).f0 ≤ va - 1) ∧ (0 < i → (l.getD (i - 1) z100).f0 < (l.getD i z100).f0) ∧ TermOf wi va (l.getD i z100).f1 1
def CommandOk (wi va : Int) (c : S82) : Prop := TermOf wi va c.f0 2 ∧ ∀ i, 0 ≤ i → i < c.f1.length → ChangeOk wi va c.f1 i
def GoodP (wi va : Int) (st : List S77) (co : List S82) : Prop := TermOf wi va st 2 ∧ (1 ≤ co.length ∧ co.length ≤ 6) ∧ ∀ c ∈ co, CommandOk wi va c
theorem changes_at {wi va : Int} {l : List S100} (h : ∀ i, 0 ≤ i → i < l.length → ChangeOk wi va l i) : ∀ i : Nat, i < l.length → (i : Int) ≤ (l.getD i z100).f0
 | 0, hi => (h 0 (Nat.le_refl 0) hi).1.1
 | i + 1, hi => by
  have h1 := changes_at h i (by omega)
  have h2 := (h (i + 1) (Nat.zero_le _) hi).2.1 (by omega)
  rw [Nat.add_sub_cancel] at h2
  omega
theorem changes_few {wi va : Int} {l : List S100} (hv : 0 ≤ va) (h : ∀ i, 0 ≤ i → i < l.length → ChangeOk wi va l i) : (l.length : Int) ≤ va := by
 rcases Nat.eq_zero_or_pos l.length with h0 | h0
 ·omega
 ·have h1 := changes_at h (l.length - 1) (by omega)
  have h2 := (h (l.length - 1) (Nat.zero_le _) (by omega)).1.2
  omega
theorem from_hereP {n j : Nat} {P : Nat → Prop} (hj : j < n) : (∀ i, j ≤ i → i < n → P i) ↔ P j ∧ ∀ i, j + 1 ≤ i → i < n → P i :=
 ⟨fun h => ⟨h j (Nat.le_refl _) hj, fun i h1 h2 => h i (by omega) h2⟩, fun ⟨h0, h⟩ i h1 h2 => by
  rcases Nat.eq_or_lt_of_le h1 with e | e
  ·exact e ▸ h0
  ·exact h i e h2⟩
theorem l2N_tells (wide vars : Int) (hv : 1 ≤ vars ∧ vars ≤ 4) (x : S77) (hx : 0 ≤ x.f1 ∧ x.f1 < 18446744073709551616) : Tells (fun k => Qbj.f k wide vars x.f0 x.f1) (NOk wide vars x) := by
 unfold NOk
 refine tells_if (fun h => ?_) (fun h => tells_if (fun h2 => tells_some ?_) (fun h2 => tells_if (fun h3 => tells_some ?_) (fun h3 => tells_some ?_)))
 ·rw [if_pos h]; exact tells_ask (spec_GoodWord_tells wide x.f1 hx.1 hx.2) (fun g => tells_yes g) (fun g => tells_no g)
 ·rw [if_neg h, if_pos h2, wu, Int.emod_eq_of_lt (by omega) (by omega)]; simp
 ·rw [if_neg h, if_neg h2, if_pos h3]; simp; omega
 ·rw [if_neg h, if_neg h2, if_neg h3]; simp
def KindAns (wi va : Int) (l : List S77) (s : List Int) (r : Int) : Prop := Runs wi va l s [r] ∨ (r = 0 ∧ ∀ kd, ¬ Runs wi va l s [kd])
theorem l2Kind_l1 (wi va : Int) (t : List S77) (o p : Int) (j : Nat) (hj : j < 1000) : ∀ (m : Nat) (s : List Int), m ≤ s.length → s.length ≤ 1000 →
  ((∀ y ∈ s.drop (s.length - m), y = p) → ∀ r, Ev (fun k => Qac.l0 k wi va (s.take (s.length - m) ++ [o]) t (t.length : Int) ((j + 1 : Nat) : Int)) r → Ev (fun k => Qac.l1 k wi va s (m : Int) p o t (t.length : Int) (j : Int)) r)
  ∧ ((¬ ∀ y ∈ s.drop (s.length - m), y = p) → Ev (fun k => Qac.l1 k wi va s (m : Int) p o t (t.length : Int) (j : Int)) 0)
 | 0, s, _, hs => by
  refine ⟨fun _ r h => ?_, fun h => absurd (fun y hy => by simp at hy) h⟩
  rw [Nat.sub_zero, List.take_length] at h
  exact Ev.step (fun k => by simp only [Qac.l1]; rw [if_neg (by omega), if_pos (by omega), wsucc (by omega)]) h
 | m + 1, s, hm, hs => by
  rcases List.eq_nil_or_concat s with rfl | ⟨s', y, rfl⟩
  ·simp at hm
  simp only [List.concat_eq_append] at hm hs ⊢
  have hl : (s' ++ [y]).length = s'.length + 1 := by simp
  rw [hl] at hm hs ⊢
  obtain ⟨h1, h2⟩ := l2Kind_l1 wi va t o p j hj m s' (by omega) (by omega)
  have w : wrap64 (((s' ++ [y]).length : Int) - 1) = (s'.length : Int) := by rw [hl, wid (by omega) (by omega)]; omega
  have e0 : rd (s' ++ [y]) (s'.length : Int) = y := by rw [rd_nat]; simp [List.getD_eq_getElem?_getD]
  have e1 : ∀ k, Qac.l1 (k + 1) wi va (s' ++ [y]) ((m + 1 : Nat) : Int) p o t (t.length : Int) (j : Int) = if y = p then Qac.l1 k wi va s' (m : Int) p o t (t.length : Int) (j : Int) else some 0 := fun k => by
   simp only [Qac.l1]
   rw [if_pos (by omega), w, if_pos (by omega), if_pos (by rw [hl]; omega), e0, if_pos (show (s'.length : Int) ≤ ((s' ++ [y]).length : Int) by rw [hl]; omega), Int.toNat_natCast, List.take_left, wid (x := ((m + 1 : Nat) : Int) - 1) (by omega) (by omega), show ((m + 1 : Nat) : Int) - 1 = (m : Int) by omega]
  have ed : (s' ++ [y]).drop (s'.length + 1 - (m + 1)) = s'.drop (s'.length - m) ++ [y] := by
   rw [show s'.length + 1 - (m + 1) = s'.length - m by omega, List.drop_append_of_le_length (by omega)]
  have et : (s' ++ [y]).take (s'.length + 1 - (m + 1)) = s'.take (s'.length - m) := by
   rw [show s'.length + 1 - (m + 1) = s'.length - m by omega, List.take_append_of_le_length (by omega)]
  rw [ed, et]
  refine ⟨fun h r hr => ?_, fun h => ?_⟩
  ·exact Ev.step e1 (ev_pos (h y (by simp)) (h1 (fun z hz => h z (by simp [hz])) r hr))
  ·by_cases hy : y = p
   ·refine Ev.step e1 (ev_pos hy (h2 (fun g => h (fun z hz => ?_))))
    rcases List.mem_append.1 hz with hz | hz
    ·exact g z hz
    ·rw [List.mem_singleton.1 hz]; exact hy
   ·exact Ev.step e1 (ev_neg hy (Ev.now _))
theorem l2Kind_l0 (wi va : Int) (hv : 1 ≤ va ∧ va ≤ 4) (t : List S77) (ht : t.length ≤ 48) (hx : ∀ x ∈ t, 0 ≤ x.f1 ∧ x.f1 < 18446744073709551616) (d : Nat) : ∀ (j : Nat) (s : List Int), j + d = t.length → s.length ≤ j →
  ∃ r, Ev (fun k => Qac.l0 k wi va s t (t.length : Int) (j : Int)) r ∧ KindAns wi va (t.drop j) s r := by
 induction d with
 | zero =>
  intro j s hd hs
  rw [List.drop_of_length_le (by omega)]
  match s, hs with
  | [], _ => exact ⟨0, Ev.step (f := fun _ => some 0) (fun k => by simp only [Qac.l0]; rw [if_neg (by omega), if_neg (by simp)]) (Ev.now _), .inr ⟨rfl, fun kd h => by simp [Runs] at h⟩⟩
  | [a], _ => exact ⟨a, Ev.step (f := fun _ => some a) (fun k => by simp only [Qac.l0]; rw [if_neg (by omega), if_pos (by simp), if_pos (by simp)]; rfl) (Ev.now _), .inl rfl⟩
  | a :: b :: c, _ => exact ⟨0, Ev.step (f := fun _ => some 0) (fun k => by simp only [Qac.l0]; rw [if_neg (by omega), if_neg (by simp; omega)]) (Ev.now _), .inr ⟨rfl, fun kd h => by simp [Runs] at h⟩⟩
 | succ d ih =>
  intro j s hd hs
  have hj : j < t.length := by omega
  have er : rd_T77 t (j : Int) = t.getD j z77 := by simp [rd_T77]
  have hm := hx _ (getD_mem hj z77)
  rw [drop_cons hj z77]
  generalize t.getD j z77 = x at er hm
  obtain ⟨p, hn, hp⟩ := l2Need_ev x.f0
  have hN := l2N_tells wi va hv x hm
  have h20 : ∀ (m p o : Int), Ev (fun k => Qac.j2 k wi va s m p o t (t.length : Int) (j : Int) true) 0 := fun m p o => Ev.step (f := fun _ => some 0) (fun k => by simp only [Qac.j2, if_true]) (Ev.now _)
  have bad : ¬ fits wi va x s → ∀ kd, ¬ Runs wi va (x :: t.drop (j + 1)) s [kd] := fun h kd g => h g.1
  have go : ∀ r, Ev (fun k => (Qau.f k x.f0).bind fun bt => (if bt.2.2 = 0 then (Qac.j2 k wi va s bt.1 bt.2.1 bt.2.2 t (t.length : Int) (j : Int) true) else ((Qbj.f k wi va x.f0 x.f1).bind fun u => (if u = true then (Qac.j2 k wi va s bt.1 bt.2.1 bt.2.2 t (t.length : Int) (j : Int) (decide ((s.length : Int) < bt.1))) else (Qac.j2 k wi va s bt.1 bt.2.1 bt.2.2 t (t.length : Int) (j : Int) true))))) r → Ev (fun k => Qac.l0 k wi va s t (t.length : Int) (j : Int)) r := fun r h =>
   Ev.step (fun k => by simp only [Qac.l0]; rw [if_pos (by omega), if_pos (by omega), if_pos (by omega), er]) h
  by_cases c1 : needOwn x.f0 = 0
  ·exact ⟨0, go 0 (Ev.bind hn (ev_pos c1 (h20 _ _ _))), .inr ⟨rfl, bad (fun g => g.1 c1)⟩⟩
  by_cases c2 : NOk wi va x
  ·by_cases c3 : s.length < needMany x.f0
   ·refine ⟨0, go 0 (Ev.bind hn (ev_neg c1 (Ev.bind (tells_ev hN c2) (ev_pos rfl ?_)))), .inr ⟨rfl, bad (fun g => by have := g.2.2.1; omega)⟩⟩
    rw [show decide ((s.length : Int) < (needMany x.f0 : Int)) = true from decide_eq_true (by omega)]
    exact h20 _ _ _
   ·have e3 : decide ((s.length : Int) < (needMany x.f0 : Int)) = false := decide_eq_false (by omega)
    obtain ⟨h1, h2⟩ := l2Kind_l1 wi va t (needOwn x.f0) p j (by omega) (needMany x.f0) s (by omega) (by omega)
    have j2 : ∀ r, Ev (fun k => Qac.l1 k wi va s (needMany x.f0 : Int) p (needOwn x.f0) t (t.length : Int) (j : Int)) r → Ev (fun k => Qac.j2 k wi va s (needMany x.f0 : Int) p (needOwn x.f0) t (t.length : Int) (j : Int) (decide ((s.length : Int) < (needMany x.f0 : Int)))) r := fun r h => by
     rw [e3]
     exact Ev.step (fun k => by simp only [Qac.j2]; rw [if_neg (by simp)]) h
    have hpp : (∀ y ∈ s.drop (s.length - needMany x.f0), y = p) ↔ ∀ y ∈ s.drop (s.length - needMany x.f0), y = needPart x.f0 := by
     rcases Nat.eq_zero_or_pos (needMany x.f0) with h0 | h0
     ·rw [h0]; simp
     ·rw [hp h0]
    by_cases c4 : ∀ y ∈ s.drop (s.length - needMany x.f0), y = p
    ·obtain ⟨r, hr, ha⟩ := ih (j + 1) (s.take (s.length - needMany x.f0) ++ [needOwn x.f0]) (by omega) (by simp; omega)
     have hf : fits wi va x s := ⟨c1, c2, by omega, hpp.1 c4⟩
     refine ⟨r, go r (Ev.bind hn (ev_neg c1 (Ev.bind (tells_ev hN c2) (ev_pos rfl (j2 r (h1 c4 r hr)))))), ?_⟩
     rcases ha with ha | ⟨ha, hb⟩
     ·exact .inl ⟨hf, ha⟩
     ·exact .inr ⟨ha, fun kd g => hb kd g.2⟩
    ·exact ⟨0, go 0 (Ev.bind hn (ev_neg c1 (Ev.bind (tells_ev hN c2) (ev_pos rfl (j2 0 (h2 c4)))))), .inr ⟨rfl, bad (fun g => c4 (hpp.2 g.2.2.2))⟩⟩
  ·exact ⟨0, go 0 (Ev.bind hn (ev_neg c1 (Ev.bind (tells_ev_not hN c2) (ev_neg (by simp) (h20 _ _ _))))), .inr ⟨rfl, bad (fun g => c2 g.2.1)⟩⟩
theorem l2Kind_ev (wi va : Int) (t : List S77) (hx : ∀ x ∈ t, 0 ≤ x.f1 ∧ x.f1 < 18446744073709551616) : ∃ r, Ev (fun k => Qac.f k wi va t) r ∧ (TermOf wi va t r ∨ (r = 0 ∧ ∀ kd, ¬ TermOf wi va t kd)) := by
 have h0 : Ev (fun k => Qac.j0 k wi va t true) 0 := Ev.step (f := fun _ => some 0) (fun k => by simp only [Qac.j0, if_true]) (Ev.now _)
 by_cases c1 : 1 ≤ wi ∧ wi ≤ 64
 ·have e1 : Qbi.f wi = some true := by rw [l1Wide_eq, decide_eq_true c1]
  by_cases c2 : 1 ≤ va ∧ va ≤ 4
  ·have e2 : QaH.f va 1 4 = some true := by rw [l1In_eq, decide_eq_true c2]
   by_cases c3 : 1 ≤ t.length ∧ t.length ≤ 48
   ·have e3 : QaH.f (t.length : Int) 1 48 = some true := by rw [l1In_eq, decide_eq_true (by omega)]
    obtain ⟨r, hr, ha⟩ := l2Kind_l0 wi va c2 t c3.2 hx t.length 0 [] (by omega) (by simp)
    refine ⟨r, Ev.bind (ev_const e1) (ev_pos rfl (Ev.bind (ev_const e2) (ev_pos rfl (Ev.bind (ev_const e3) (Ev.step (fun k => by simp only [Qac.j0]; rw [if_neg (by simp)]; rfl) hr))))), ?_⟩
    rcases ha with ha | ⟨ha, hb⟩
    ·exact .inl ⟨c1, c2, c3, ha⟩
    ·exact .inr ⟨ha, fun kd g => hb kd g.2.2.2⟩
   ·have e3 : QaH.f (t.length : Int) 1 48 = some false := by rw [l1In_eq, decide_eq_false (by omega)]
    exact ⟨0, Ev.bind (ev_const e1) (ev_pos rfl (Ev.bind (ev_const e2) (ev_pos rfl (Ev.bind (ev_const e3) h0)))), .inr ⟨rfl, fun kd g => c3 g.2.2.1⟩⟩
  ·have e2 : QaH.f va 1 4 = some false := by rw [l1In_eq, decide_eq_false c2]
   exact ⟨0, Ev.bind (ev_const e1) (ev_pos rfl (Ev.bind (ev_const e2) (ev_neg (by simp) h0))), .inr ⟨rfl, fun kd g => c2 g.2.1⟩⟩
 ·have e1 : Qbi.f wi = some false := by rw [l1Wide_eq, decide_eq_false c1]
  exact ⟨0, Ev.bind (ev_const e1) (ev_neg (by simp) h0), .inr ⟨rfl, fun kd g => c1 g.1⟩⟩
theorem l2Kind_is (wi va : Int) (t : List S77) (hx : ∀ x ∈ t, 0 ≤ x.f1 ∧ x.f1 < 18446744073709551616) : ∃ r, Ev (fun k => Qac.f k wi va t) r ∧ ∀ kd, 1 ≤ kd → (r = kd ↔ TermOf wi va t kd) := by
 obtain ⟨r, hr, h⟩ := l2Kind_ev wi va t hx
 refine ⟨r, hr, fun kd hk => ?_⟩
 rcases h with h | ⟨rfl, h⟩
 ·refine ⟨fun e => e ▸ h, fun g => ?_⟩
  have := Runs.uniq h.2.2.2 g.2.2.2
  simpa using this
 ·exact ⟨fun e => by omega, fun g => absurd g (h kd)⟩
theorem l7Asks_tells (wi va : Int) (st : List S77) (co : List S82) (t : List S77) (hx : Wd t) : Tells (fun k => Qa6.f k wi va st co t) (TermOf wi va t 2) := by
 obtain ⟨r, hr, h⟩ := l2Kind_is wi va t hx
 refine tells_bind hr (tells_some ?_)
 rw [beq_iff_eq]; exact h 2 (by omega)
theorem l7Command_l0 (wi va : Int) (hv : 1 ≤ va ∧ va ≤ 4) (st : List S77) (co : List S82) (w : List S77) (l : List S100) (hl : l.length ≤ 4) (hx : ∀ c ∈ l, Wd c.f1) (d : Nat) : ∀ (j : Nat), j + d = l.length →
  Tells (fun k => Qag.l0 k l (l.length : Int) (j : Int) wi va st co w l) (∀ i, j ≤ i → i < l.length → ChangeOk wi va l i) := by
 induction d with
 | zero =>
  intro j hd
  exact tells_step (f := fun _ => some true) (fun k => by simp only [Qag.l0]; rw [if_neg (by omega)]) (tells_yes (fun i h1 h2 => by omega))
 | succ d ih =>
  intro j hd
  have hj : j < l.length := by omega
  have er : rd_T100 l (j : Int) = l.getD j z100 := by simp [rd_T100]
  have ev : wrap64 (va - 1) = va - 1 := wid (by omega) (by omega)
  obtain ⟨r, hr, hk⟩ := l2Kind_is wi va (l.getD j z100).f1 (hx _ (getD_mem hj _))
  have hk1 := hk 1 (by omega)
  refine tells_step (fun k => by simp only [Qag.l0]; rw [if_pos (by omega), if_pos (by omega), if_pos (by omega), er, ev, wsucc (by omega)]) ?_
  rw [from_hereP hj]
  refine tells_ask (l1In_tells _ _ _) (fun h0 => tells_pos rfl ?_) (fun h0 => tells_neg (by simp) (tells_no (fun g => h0 g.1.1)))
  by_cases hz : j = 0
  ·subst hz
   refine tells_neg (by omega) (tells_bind hr (tells_if (fun h => ?_) (fun h => tells_no (fun g => h (hk1.2 g.1.2.2)))))
   exact tells_iff (ih 1 (by omega)) ⟨fun g => ⟨⟨h0, fun h => by omega, hk1.1 h⟩, g⟩, fun g => g.2⟩
  ·have w2 := wpred (j := j) (by omega) (by omega)
   have er2 : rd_T100 l ((j - 1 : Nat) : Int) = l.getD (j - 1) z100 := by simp [rd_T100]
   refine tells_pos (by omega) ?_
   refine tells_congr (fun k => by rw [w2, if_pos (by omega), if_pos (by omega), er2]) ?_
   refine tells_if (fun h => tells_no (fun g => by have := g.1.2.1 (by omega); omega)) (fun h1 => ?_)
   refine tells_bind hr (tells_if (fun h => ?_) (fun h => tells_no (fun g => h (hk1.2 g.1.2.2))))
   exact tells_iff (ih (j + 1) (by omega)) ⟨fun g => ⟨⟨h0, fun _ => by omega, hk1.1 h⟩, g⟩, fun g => g.2⟩
theorem l7Command_tells (wi va : Int) (st : List S77) (co : List S82) (c : S82) (h1 : Wd c.f0) (h2 : ∀ x ∈ c.f1, Wd x.f1) : Tells (fun k => Qag.f k wi va st co c.f0 c.f1) (CommandOk wi va c) := by
 have hno : ∀ {Q : Prop}, ¬ Q → Tells (fun k => Qag.j0 k true wi va st co c.f0 c.f1) Q := fun h => tells_step (f := fun _ => some false) (fun k => by simp only [Qag.j0, if_true]) (tells_no h)
 refine tells_ask (l7Asks_tells wi va st co c.f0 h1) (fun h => tells_pos rfl ?_) (fun h => tells_neg (by simp) (hno (fun g => h g.1)))
 have hv := h.2.1
 by_cases h4 : (c.f1.length : Int) > va
 ·exact tells_congr (fun k => by rw [decide_eq_true h4]) (hno (fun g => by have := changes_few (by omega) g.2; omega))
 ·refine tells_step (f := fun k => Qag.l0 k c.f1 (c.f1.length : Int) 0 wi va st co c.f0 c.f1) (fun k => by simp only [Qag.j0]; rw [if_neg (by simp; omega)]) ?_
  exact tells_iff (l7Command_l0 wi va hv st co c.f0 c.f1 (by omega) h2 c.f1.length 0 (by omega)) ⟨fun g => ⟨h, g⟩, fun g => g.2⟩
theorem spec_GoodProgram_l0 (wi va : Int) (st : List S77) (co : List S82) (hl : co.length ≤ 6) (hx : ∀ c ∈ co, Wd c.f0 ∧ ∀ x ∈ c.f1, Wd x.f1) (d : Nat) : ∀ (j : Nat), j + d = co.length →
  Tells (fun k => Qax.l0 k co (co.length : Int) (j : Int) wi va st co) (∀ c ∈ co.drop j, CommandOk wi va c) := by
 induction d with
 | zero =>
  intro j hd
  rw [List.drop_of_length_le (by omega)]
  exact tells_step (f := fun _ => some true) (fun k => by simp only [Qax.l0]; rw [if_neg (by omega)]) (tells_yes (fun c h => by simp at h))
 | succ d ih =>
  intro j hd
  have hj : j < co.length := by omega
  have er : rd_T82 co (j : Int) = co.getD j z82 := by simp [rd_T82]
  have hm := hx _ (getD_mem hj z82)
  rw [drop_cons hj z82]
  refine tells_step (fun k => by simp only [Qax.l0]; rw [if_pos (by omega), if_pos (by omega), if_pos (by omega), er, wsucc (by omega)]) ?_
  refine tells_ask (l7Command_tells wi va st co _ hm.1 hm.2) (fun h => tells_pos rfl ?_) (fun h => tells_neg (by simp) (tells_no (fun g => h (g _ (by simp)))))
  exact tells_iff (ih (j + 1) (by omega)) ⟨fun g c hc => by
   rcases List.mem_cons.1 hc with rfl | hc
   ·exact h
   ·exact g c hc, fun g c hc => g c (by simp [hc])⟩
theorem spec_GoodProgram_tells (wi va : Int) (st : List S77) (co : List S82) (hs : Wd st) (hx : ∀ c ∈ co, Wd c.f0 ∧ ∀ x ∈ c.f1, Wd x.f1) : Tells (fun k => Qax.f k wi va st co) (GoodP wi va st co) := by
 have hno : ∀ {Q : Prop}, ¬ Q → Tells (fun k => Qax.j0 k true wi va st co) Q := fun h => tells_step (f := fun _ => some false) (fun k => by simp only [Qax.j0, if_true]) (tells_no h)
 refine tells_ask (l7Asks_tells wi va st co st hs) (fun h => tells_pos rfl ?_) (fun h => tells_neg (by simp) (hno (fun g => h g.1)))
 refine tells_ask (l1In_tells _ _ _) (fun h1 => ?_) (fun h1 => hno (fun g => h1 (by have := g.2.1; omega)))
 refine tells_step (f := fun k => Qax.l0 k co (co.length : Int) 0 wi va st co) (fun k => by simp only [Qax.j0]; rw [if_neg (by simp)]) ?_
 exact tells_iff (spec_GoodProgram_l0 wi va st co (by omega) hx co.length 0 (by omega)) ⟨fun g => ⟨h, by omega, g⟩, fun g => g.2.2⟩
theorem operandsOf_ev (op : Int) : ∃ p, Ev (fun k => Qad.f k op) ((needMany op : Int), p, needOwn op) ∧ (0 < needMany op → p = needPart op) := by
 have j2 : ∀ b : Bool, Ev (fun k => Qad.j2 k op b) (if b = true then (2, 1, 2) else if op = 17 then (2, 2, 2) else if op = 18 then (2, 2, 2) else (0, 0, 0)) := fun b => by
  refine Ev.step (f := fun _ => some (if b = true then (2, 1, 2) else if op = 17 then (2, 2, 2) else if op = 18 then (2, 2, 2) else (0, 0, 0))) (fun k => ?_) (Ev.now _)
  simp only [Qad.j2]
  by_cases c : b = true
  ·rw [if_pos c, if_pos c]
  ·by_cases c2 : op = 17
   ·rw [if_neg c, if_neg c, if_pos c2, if_pos c2]
   ·by_cases c3 : op = 18
    ·rw [if_neg c, if_neg c, if_neg c2, if_neg c2, if_pos c3, if_pos c3]
    ·rw [if_neg c, if_neg c, if_neg c2, if_neg c2, if_neg c3, if_neg c3]
 have j1 : ∀ b : Bool, Ev (fun k => Qad.j1 k op b) (if b = true then (2, 1, 1) else if decide (14 ≤ op ∧ op ≤ 16) = true then (2, 1, 2) else if op = 17 then (2, 2, 2) else if op = 18 then (2, 2, 2) else (0, 0, 0)) := fun b => by
  by_cases hb : b = true
  ·rw [if_pos hb]; exact Ev.step (f := fun _ => some (2, 1, 1)) (fun k => by simp only [Qad.j1]; rw [if_pos hb]) (Ev.now _)
  ·rw [if_neg hb]
   by_cases h : op ≥ 14
   ·refine ev_eq (Ev.step (fun k => by simp only [Qad.j1]; rw [if_neg hb, if_pos h]) (j2 _)) ?_
    have : (op ≤ 16) ↔ (14 ≤ op ∧ op ≤ 16) := ⟨fun g => ⟨h, g⟩, fun g => g.2⟩
    rw [decide_eq_decide.2 this]
   ·refine ev_eq (Ev.step (fun k => by simp only [Qad.j1]; rw [if_neg hb, if_neg h]) (j2 _)) ?_
    have : ¬ (14 ≤ op ∧ op ≤ 16) := by omega
    simp [this]
 have j0 : ∀ b : Bool, b = decide (op = 1 ∨ op = 2) → ∃ p, Ev (fun k => Qad.j0 k op b) ((needMany op : Int), p, needOwn op) ∧ (0 < needMany op → p = needPart op) := fun b hb => by
  by_cases h1 : b = true
  ·have h2 : op = 1 ∨ op = 2 := by rw [hb] at h1; simpa using h1
   refine ⟨0, Ev.step (f := fun _ => some ((needMany op : Int), 0, needOwn op)) (fun k => ?_) (Ev.now _), fun h => ?_⟩
   ·simp only [Qad.j0]; rw [if_pos h1]; rcases h2 with rfl | rfl <;> rfl
   ·rcases h2 with rfl | rfl <;> simp [needMany] at h
  ·have h2 : ¬ (op = 1 ∨ op = 2) := by rw [hb] at h1; simpa using h1
   by_cases h20 : op = 20
   ·subst h20; exact ⟨0, Ev.step (f := fun _ => some (0, 0, 2)) (fun k => by simp [Qad.j0, h1]) (Ev.now _), fun h => by simp [needMany] at h⟩
   by_cases h13 : op = 13
   ·subst h13; exact ⟨1, Ev.step (f := fun _ => some (1, 1, 1)) (fun k => by simp [Qad.j0, h1]) (Ev.now _), fun _ => rfl⟩
   by_cases h19 : op = 19
   ·subst h19; exact ⟨2, Ev.step (f := fun _ => some (1, 2, 2)) (fun k => by simp [Qad.j0, h1]) (Ev.now _), fun _ => rfl⟩
   have key : ∃ p, (if decide (3 ≤ op ∧ op ≤ 12) = true then ((2 : Int), (1 : Int), (1 : Int)) else if decide (14 ≤ op ∧ op ≤ 16) = true then (2, 1, 2) else if op = 17 then (2, 2, 2) else if op = 18 then (2, 2, 2) else (0, 0, 0)) = ((needMany op : Int), p, needOwn op) ∧ (0 < needMany op → p = needPart op) := by
    simp only [decide_eq_true_eq]
    by_cases a1 : 3 ≤ op ∧ op ≤ 12
    ·exact ⟨1, by rw [if_pos a1, needMany, needOwn, if_neg (by omega), if_neg (by omega), if_pos (by omega), if_neg (by omega), if_pos (by omega)]; rfl, fun _ => by rw [needPart, if_neg (by omega)]⟩
    by_cases a2 : 14 ≤ op ∧ op ≤ 16
    ·exact ⟨1, by rw [if_neg a1, if_pos a2, needMany, needOwn, if_neg (by omega), if_neg (by omega), if_pos (by omega), if_pos (by omega)]; rfl, fun _ => by rw [needPart, if_neg (by omega)]⟩
    by_cases a3 : op = 17
    ·subst a3; exact ⟨2, rfl, fun _ => rfl⟩
    by_cases a4 : op = 18
    ·subst a4; exact ⟨2, rfl, fun _ => rfl⟩
    ·have e : needMany op = 0 := by rw [needMany, if_neg (by omega), if_neg (by omega), if_neg (by omega)]
     exact ⟨0, by rw [if_neg a1, if_neg a2, if_neg a3, if_neg a4, e, needOwn, if_neg (by omega), if_neg (by omega)]; rfl, fun h => by omega⟩
   obtain ⟨p, e1, e2⟩ := key
   refine ⟨p, ?_, e2⟩
   by_cases h3 : op ≥ 3
   ·refine Ev.step (fun k => by simp only [Qad.j0]; rw [if_neg h1, if_neg h20, if_neg h13, if_neg h19, if_pos h3]) (ev_eq (j1 _) ?_)
    rw [← e1]
    have : (op ≤ 12) ↔ (3 ≤ op ∧ op ≤ 12) := ⟨fun g => ⟨h3, g⟩, fun g => g.2⟩
    rw [decide_eq_decide.2 this]
   ·refine Ev.step (fun k => by simp only [Qad.j0]; rw [if_neg h1, if_neg h20, if_neg h13, if_neg h19, if_neg h3]) (ev_eq (j1 _) ?_)
    rw [← e1]
    have : ¬ (3 ≤ op ∧ op ≤ 12) := by omega
    simp [this]
 by_cases h1 : op = 1
 ·obtain ⟨p, e1, e2⟩ := j0 true (by simp [h1])
  exact ⟨p, ev_pos h1 e1, e2⟩
 ·obtain ⟨p, e1, e2⟩ := j0 (op == 2) (by simp [h1]; rfl)
  exact ⟨p, ev_neg h1 e1, e2⟩
theorem isLeafRight_eq (wide vars : Int) (hv : 1 ≤ vars ∧ vars ≤ 4) (x : S77) : Tells (fun _ => QbB.f wide vars x.f0 x.f1) (NOk wide vars x) := by
 unfold NOk
 refine tells_if (fun h => ?_) (fun h => tells_if (fun h2 => tells_some ?_) (fun h2 => tells_if (fun h3 => tells_some ?_) (fun h3 => tells_some ?_)))
 ·rw [if_pos h]; exact tells_bind (ev_const (impl_GoodWord_eq wide x.f1)) (tells_some (by simp))
 ·rw [if_neg h, if_pos h2, wu, Int.emod_eq_of_lt (by omega) (by omega)]; simp
 ·rw [if_neg h, if_neg h2, if_pos h3]; simp
 ·rw [if_neg h, if_neg h2, if_neg h3]; simp
theorem isVars_tells (a : Int) : Tells (fun _ => Qbd.f a) (1 ≤ a ∧ a ≤ 4) := by
 simp only [Qbd.f]
 refine tells_if (fun h => tells_some ?_) (fun h => tells_no (fun g => h g.1))
 rw [decide_eq_true_iff]; omega
theorem isWide_tells' (a : Int) : Tells (fun _ => QaZ.f a) (1 ≤ a ∧ a ≤ 64) := by
 simp only [isWide_eq]; exact tells_some (by simp)
theorem GoodTerm_l0 (wi va : Int) (hv : 1 ≤ va ∧ va ≤ 4) (t : List S77) (ht : t.length ≤ 48) (d : Nat) : ∀ (j : Nat) (s : List Int), j + d = t.length → s.length ≤ j →
  Tells (fun k => Qan.l0 k wi va s t (t.length : Int) (j : Int)) (∃ kd, Runs wi va (t.drop j) s [kd]) := by
 induction d with
 | zero =>
  intro j s hd hs
  rw [List.drop_of_length_le (by omega)]
  refine tells_step (f := fun _ => some ((s.length : Int) == 1)) (fun k => by simp only [Qan.l0]; rw [if_neg (by omega)]) (tells_some ?_)
  rw [beq_iff_eq]
  constructor
  ·intro h
   obtain ⟨a, rfl⟩ := List.length_eq_one_iff.1 (show s.length = 1 by omega)
   exact ⟨a, rfl⟩
  ·rintro ⟨kd, h⟩
   have h : s = [kd] := h
   rw [h]; rfl
 | succ d ih =>
  intro j s hd hs
  have hj : j < t.length := by omega
  have er : rd_T77 t (j : Int) = t.getD j z77 := by simp [rd_T77]
  rw [drop_cons hj z77]
  generalize t.getD j z77 = x at er
  obtain ⟨p, hn, hp⟩ := operandsOf_ev x.f0
  have hm2 := needMany_le x.f0
  have hpp : (∀ y ∈ s.drop (s.length - needMany x.f0), y = p) ↔ ∀ y ∈ s.drop (s.length - needMany x.f0), y = needPart x.f0 := by
   rcases Nat.eq_zero_or_pos (needMany x.f0) with h0 | h0
   ·rw [h0]; simp
   ·rw [hp h0]
  refine tells_step (fun k => by simp only [Qan.l0]; rw [if_pos (by omega), if_pos (by omega), if_pos (by omega), er, wsucc (by omega)]) ?_
  refine tells_bind hn ?_
  refine tells_if (fun h => tells_no (fun ⟨kd, g⟩ => g.1.1 h)) (fun h1 => ?_)
  refine tells_ask (isLeafRight_eq wi va hv x) (fun h2 => tells_pos rfl ?_) (fun h2 => tells_neg (by simp) (tells_no (fun ⟨kd, g⟩ => h2 g.1.2.1)))
  have w : wrap64 ((s.length : Int) - (needMany x.f0 : Int)) = (s.length : Int) - (needMany x.f0 : Int) := wid (by omega) (by omega)
  refine tells_congr (fun k => by rw [w]) ?_
  refine tells_if (fun h => tells_no (fun ⟨kd, g⟩ => by have := g.1.2.2.1; omega)) (fun h3 => ?_)
  refine tells_pos (by omega) (tells_pos (by omega) ?_)
  have et : ((s.length : Int) - (needMany x.f0 : Int)).toNat = s.length - needMany x.f0 := by omega
  refine tells_congr (fun k => by rw [et]) ?_
  have hA : Tells (fun _ => QbJ.f (s.drop (s.length - needMany x.f0)) p) (∃ y ∈ s.drop (s.length - needMany x.f0), y ≠ p) := anyO_tells _ (fun y _ => tells_some (by simp))
  refine tells_ask hA (fun h4 => tells_pos rfl (tells_no ?_)) (fun h4 => tells_neg (by simp) ?_)
  ·obtain ⟨y, hy, hne⟩ := h4
   exact fun ⟨kd, g⟩ => hne (hpp.2 g.1.2.2.2 y hy)
  have hf : fits wi va x s := ⟨h1, h2, by omega, hpp.1 (fun y hy => Classical.byContradiction (fun g => h4 ⟨y, hy, g⟩))⟩
  refine tells_bind (Ev.now _) (tells_pos (by simp; omega) ?_)
  exact tells_iff (ih (j + 1) (s.take (s.length - needMany x.f0) ++ [needOwn x.f0]) (by omega) (by simp; omega)) ⟨fun ⟨kd, g⟩ => ⟨kd, ⟨hf, g⟩⟩, fun ⟨kd, g⟩ => ⟨kd, g.2⟩⟩
theorem GoodTerm_tells (wi va : Int) (t : List S77) : Tells (fun k => Qan.f k wi va t) (∃ kd, TermOf wi va t kd) := by
 have hno : ∀ {Q : Prop}, ¬ Q → Tells (fun k => Qan.j0 k wi va t true) Q := fun h => tells_step (f := fun _ => some false) (fun k => by simp only [Qan.j0, if_true]) (tells_no h)
 refine tells_ask (isWide_tells' wi) (fun h1 => tells_pos rfl ?_) (fun h1 => tells_neg (by simp) (hno (fun ⟨kd, g⟩ => h1 g.1)))
 refine tells_ask (isVars_tells va) (fun h2 => tells_pos rfl ?_) (fun h2 => tells_neg (by simp) (hno (fun ⟨kd, g⟩ => h2 g.2.1)))
 refine tells_if (fun h3 => hno (fun ⟨kd, g⟩ => by have := g.2.2.1; omega)) (fun h3 => ?_)
 by_cases h4 : (t.length : Int) > 48
 ·exact tells_congr (fun k => by rw [decide_eq_true h4]) (hno (fun ⟨kd, g⟩ => by have := g.2.2.1; omega))
 ·refine tells_step (f := fun k => Qan.l0 k wi va [] t (t.length : Int) 0) (fun k => by simp only [Qan.j0]; rw [if_neg (by simp; omega)]) ?_
  exact tells_iff (GoodTerm_l0 wi va h2 t (by omega) t.length 0 [] (by omega) (by simp)) ⟨fun ⟨kd, g⟩ => ⟨kd, h1, h2, by omega, g⟩, fun ⟨kd, g⟩ => ⟨kd, g.2.2.2⟩⟩
theorem kindOf_ev (t : List S77) (h1 : 1 ≤ t.length) (h2 : t.length ≤ 48) : Ev (fun k => Qbq.f k t) (needOwn (t.getD (t.length - 1) z77).f0) := by
 have w : wrap64 ((t.length : Int) - 1) = ((t.length - 1 : Nat) : Int) := by rw [wid (by omega) (by omega)]; omega
 have er : rd_T77 t ((t.length - 1 : Nat) : Int) = t.getD (t.length - 1) z77 := by simp [rd_T77]
 obtain ⟨p, hn, _⟩ := operandsOf_ev (t.getD (t.length - 1) z77).f0
 refine Ev.congr (fun k => by simp only [Qbq.f]; rw [w, if_pos (by omega), if_pos (by omega), er]) (Ev.bind hn (Ev.now _))
theorem isTermOf_tells (wi va : Int) (t : List S77) (kd : Int) : Tells (fun k => Qa0.f k wi va t kd) (TermOf wi va t kd) := by
 refine tells_ask (GoodTerm_tells wi va t) (fun ⟨kd', h⟩ => tells_pos rfl ?_) (fun h => tells_neg (by simp) (tells_no (fun g => h ⟨kd, g⟩)))
 have hne : t ≠ [] := fun e => by have := h.2.2.1.1; rw [e] at this; simp at this
 refine tells_bind (kindOf_ev t h.2.2.1.1 h.2.2.1.2) (tells_some ?_)
 rw [beq_iff_eq]
 have e1 := Runs.last hne h.2.2.2
 exact ⟨fun e => by rw [← e, ← e1]; exact h, fun g => (Runs.last hne g.2.2.2).symm⟩
theorem isCondition_tells (wi va : Int) (st : List S77) (co : List S82) (t : List S77) : Tells (fun k => Qa1.f k wi va st co t) (TermOf wi va t 2) := by
 obtain ⟨b, hb, e⟩ := isTermOf_tells wi va t 2
 exact ⟨b, Ev.bind hb (Ev.now _), e⟩
theorem isCommand_l0 (wi va : Int) (st : List S77) (co : List S82) (w : List S77) (l : List S100) (hl : l.length ≤ 9223372036854775807) (d : Nat) : ∀ (j : Nat), j + d = l.length →
  Tells (fun k => Qam.l0 k l (l.length : Int) (j : Int) wi va st co w l) (∀ i, j ≤ i → i < l.length → ChangeOk wi va l i) := by
 induction d with
 | zero =>
  intro j hd
  exact tells_step (f := fun _ => some true) (fun k => by simp only [Qam.l0]; rw [if_neg (by omega)]) (tells_yes (fun i h1 h2 => by omega))
 | succ d ih =>
  intro j hd
  have hj : j < l.length := by omega
  have er : rd_T100 l (j : Int) = l.getD j z100 := by simp [rd_T100]
  have hT := isTermOf_tells wi va (l.getD j z100).f1 1
  refine tells_step (fun k => by simp only [Qam.l0]; rw [if_pos (by omega), if_pos (by omega), if_pos (by omega), er, wsucc (by omega)]) ?_
  rw [from_hereP hj]
  refine tells_if (fun h => tells_no (fun g => by have := g.1.1.1; omega)) (fun a1 => ?_)
  refine tells_if (fun h => tells_no (fun g => by have := g.1.1.2; omega)) (fun a2 => ?_)
  by_cases hz : j = 0
  ·subst hz
   refine tells_neg (by omega) (tells_ask hT (fun h => tells_pos rfl ?_) (fun h => tells_neg (by simp) (tells_no (fun g => h g.1.2.2))))
   exact tells_iff (ih 1 (by omega)) ⟨fun g => ⟨⟨by omega, fun h => by omega, h⟩, g⟩, fun g => g.2⟩
  ·have w2 := wpred (j := j) (by omega) (by omega)
   have er2 : rd_T100 l ((j - 1 : Nat) : Int) = l.getD (j - 1) z100 := by simp [rd_T100]
   refine tells_pos (by omega) ?_
   refine tells_congr (fun k => by rw [w2, if_pos (by omega), if_pos (by omega), er2]) ?_
   refine tells_if (fun h => tells_no (fun g => by have := g.1.2.1 (by omega); omega)) (fun h1 => ?_)
   refine tells_ask hT (fun h => tells_pos rfl ?_) (fun h => tells_neg (by simp) (tells_no (fun g => h g.1.2.2)))
   exact tells_iff (ih (j + 1) (by omega)) ⟨fun g => ⟨⟨by omega, fun _ => by omega, h⟩, g⟩, fun g => g.2⟩
theorem isCommand_tells (wi va : Int) (st : List S77) (co : List S82) (c : S82) (hl : c.f1.length ≤ 9223372036854775807) : Tells (fun k => Qam.f k wi va st co c.f0 c.f1) (CommandOk wi va c) := by
 refine tells_ask (isCondition_tells wi va st co c.f0) (fun h => tells_pos rfl ?_) (fun h => tells_neg (by simp) (tells_no (fun g => h g.1)))
 exact tells_iff (isCommand_l0 wi va st co c.f0 c.f1 hl c.f1.length 0 (by omega)) ⟨fun g => ⟨h, g⟩, fun g => g.2⟩
theorem impl_GoodProgram_tells (wi va : Int) (st : List S77) (co : List S82) (hx : ∀ c ∈ co, c.f1.length ≤ 9223372036854775807) : Tells (fun k => Qbo.f k wi va st co) (GoodP wi va st co) := by
 refine tells_ask (isWide_tells' wi) (fun h1 => tells_pos rfl ?_) (fun h1 => tells_neg (by simp) (tells_no (fun g => h1 g.1.1)))
 refine tells_ask (isVars_tells va) (fun h2 => tells_pos rfl ?_) (fun h2 => tells_neg (by simp) (tells_no (fun g => h2 g.1.2.1)))
 refine tells_ask (isCondition_tells wi va st co st) (fun h => tells_pos rfl ?_) (fun h => tells_neg (by simp) (tells_no (fun g => h g.1)))
 refine tells_if (fun h3 => tells_no (fun g => by have := g.2.1; omega)) (fun h3 => ?_)
 refine tells_if (fun h4 => tells_no (fun g => by have := g.2.1; omega)) (fun h4 => ?_)
 have hA : Tells (fun k => Qbw.f k co wi va st co) (∃ c ∈ co, ¬ CommandOk wi va c) := anyO_tells co (fun c hc => tells_ask (isCommand_tells wi va st co c (hx c hc)) (fun h2 => tells_no (fun h3 => h3 h2)) (fun h2 => tells_yes h2))
 refine tells_ask hA (fun h5 => tells_no ?_) (fun h5 => tells_yes ⟨h, by omega, fun c hc => Classical.byContradiction (fun g => h5 ⟨c, hc, g⟩)⟩)
 obtain ⟨c, hc, h6⟩ := h5
 exact fun g => h6 (g.2.2 c hc)
def SmallP (wi va : Int) (st : List S77) (co : List S82) : Prop := GoodP wi va st co ∧ wi * va ≤ 5
theorem small_nat {wi va : Int} {st : List S77} {co : List S82} (h : GoodP wi va st co) : ∃ w v : Nat, wi = (w : Int) ∧ va = (v : Int) ∧ 1 ≤ w ∧ w ≤ 64 ∧ 1 ≤ v ∧ v ≤ 4 ∧ wi * va = ((w * v : Nat) : Int) ∧ w * v ≤ 256 := by
 obtain ⟨h1, h2, _⟩ := h.1
 obtain ⟨w, rfl⟩ := Int.eq_ofNat_of_zero_le (show 0 ≤ wi by omega)
 obtain ⟨v, rfl⟩ := Int.eq_ofNat_of_zero_le (show 0 ≤ va by omega)
 have : w * v ≤ 64 * 4 := Nat.mul_le_mul (by omega) (by omega)
 exact ⟨w, v, rfl, rfl, by omega, by omega, by omega, by omega, by simp, this⟩
theorem isSmall_tells (wi va : Int) (st : List S77) (co : List S82) (hx : ∀ c ∈ co, c.f1.length ≤ 9223372036854775807) : Tells (fun k => Qbl.f k wi va st co) (SmallP wi va st co) := by
 refine tells_ask (impl_GoodProgram_tells wi va st co hx) (fun h => tells_pos rfl (tells_some ?_)) (fun h => tells_neg (by simp) (tells_no (fun g => h g.1)))
 obtain ⟨w, v, rfl, rfl, _, _, _, _, e, hb⟩ := small_nat h
 rw [decide_eq_true_iff, wid (by omega) (by omega)]
 exact ⟨fun g => ⟨h, g⟩, fun g => g.2⟩
theorem l7Small_tells (wi va : Int) (st : List S77) (co : List S82) (hs : Wd st) (hx : ∀ c ∈ co, Wd c.f0 ∧ ∀ x ∈ c.f1, Wd x.f1) : Tells (fun k => Qbf.f k wi va st co) (SmallP wi va st co) := by
 refine tells_ask (spec_GoodProgram_tells wi va st co hs hx) (fun h => tells_pos rfl (tells_some ?_)) (fun h => tells_neg (by simp) (tells_no (fun g => h g.1)))
 obtain ⟨w, v, rfl, rfl, _, _, _, _, e, hb⟩ := small_nat h
 rw [decide_eq_true_iff, wid (by omega) (by omega)]
 exact ⟨fun g => ⟨h, g⟩, fun g => g.2⟩
theorem shl_few : ∀ n, n < 6 → shl .i64 1 (n : Nat) = ((2 ^ n : Nat) : Int) := by decide
def StateOk (wi va : Int) (s : List Int) : Prop := (s.length : Int) = va ∧ ∀ a ∈ s, GW wi a
theorem ev_mono {α : Type} {f : Nat → Option α} {r : α} {K : Nat} (h : f K = some r) (hm : ∀ k, LeO (f k) (f (k + 1))) : Ev f r :=
 ⟨K, fun k hk => by
  obtain ⟨d, rfl⟩ : ∃ d, k = K + d := ⟨k - K, by omega⟩
  clear hk
  induction d with
  | zero => exact h
  | succ d ih => exact hm (K + d) _ ih⟩
theorem stateOf_l0_same (x1 : Int) (st : List S77) (co : List S82) (w v : Int) : ∀ (k : Nat) (x5 : List Int) (x9 x10 : Int), Qaq.l0 k x1 x5 x9 x10 w v st co = Qaq.l0 k x1 x5 x9 x10 w v [] []
 | 0, x5, x9, x10 => rfl
 | k + 1, x5, x9, x10 => by simp only [Qaq.l0, stateOf_l0_same x1 st co w v k]
theorem l7Of_l0_same (x1 : Int) (st : List S77) (co : List S82) (w v : Int) : ∀ (k : Nat) (x5 : List Int) (x6 : Int), QaC.l0 k x1 x5 x6 w v st co = QaC.l0 k x1 x5 x6 w v [] []
 | 0, x5, x6 => rfl
 | k + 1, x5, x6 => by simp only [QaC.l0, l7Of_l0_same x1 st co w v k]
def DoOk (wi : Int) : Prop := ∀ op a b : Int, needMany op = 2 → VOk wi (needPart op) a → VOk wi (needPart op) b → ∃ c, Ev (fun k => Qae.f k wi op a b) c ∧ Ev (fun k => Qaa.f k wi op a b) c ∧ VOk wi (needOwn op) c
def FlOk (wi : Int) : Prop := ∀ a : Int, VOk wi 1 a → ∃ c mk, Ev (fun k => Qai.f k wi (Go.bits .xor .u64 18446744073709551615 a)) c ∧ Qas.f wi = some mk ∧ Go.bits .and .u64 (Go.bits .xor .u64 18446744073709551615 a) mk = c ∧ VOk wi 1 c
theorem value_one (wi va : Int) (t : List S77) (s : List Int) (hs : StateOk wi va s) (hp : ∀ a ∈ s, 0 ≤ a) (n : Nat) (hn : n < t.length) (ht : t.length ≤ 48) (h1 : 0 ≤ (t.getD n z77).f1) (S : List (Nat × Int × Int)) (hS : Piled wi t s n S) (hl : S.length ≤ n)
  (hf : fits wi va (t.getD n z77) (kindsOf S)) (hm : needMany (t.getD n z77).f0 = 0) (hw : 1 ≤ wi ∧ wi ≤ 64) :
  ∃ v, Ev (fun k => Qal.f k wi t (n : Int) s) v ∧ VOk wi (needOwn (t.getD n z77).f0) v ∧ ∀ r, Ev (fun k => Qab.l0 k wi s (valsOf S ++ [v]) t (t.length : Int) ((n + 1 : Nat) : Int)) r → Ev (fun k => Qab.l0 k wi s (valsOf S) t (t.length : Int) (n : Int)) r := by
 have er : rd_T77 t (n : Int) = t.getD n z77 := by simp [rd_T77]
 obtain ⟨p, hp2, _⟩ := l2Need_ev (t.getD n z77).f0
 obtain ⟨f1, f2, _, _⟩ := hf
 have hlv : (valsOf S).length = S.length := by simp [valsOf]
 generalize t.getD n z77 = x at er h1 f1 f2 hp2 hm ⊢
 rw [hm] at hp2
 have hv : ∀ v, (x.f0 = 2 → 0 ≤ x.f1 ∧ x.f1 < (s.length : Int) ∧ v = rd s x.f1) → (x.f0 ≠ 2 → v = x.f1) → Ev (fun k => Qal.f k wi t (n : Int) s) v := fun v g1 g2 => by
  refine Ev.step (fun k => by simp only [Qal.f]; rw [if_pos (by omega), if_pos (by omega), er]) (Ev.bind hp2 ?_)
  by_cases c : x.f0 = 2
  ·obtain ⟨g3, g4, rfl⟩ := g1 c
   exact ev_pos c (ev_pos g3 (ev_pos g4 (Ev.now _)))
  ·rw [g2 c]
   exact ev_neg c (ev_pos rfl (Ev.now _))
 have e0 : ∀ r, Ev (fun k => Qab.j1 k wi s (valsOf S) (wrap64 (((valsOf S).length : Int) - 1)) t (t.length : Int) (n : Int) x.f0 (decide (x.f0 = 1 ∨ x.f0 = 20)) x.f0 x.f1) r → Ev (fun k => Qab.l0 k wi s (valsOf S) t (t.length : Int) (n : Int)) r := fun r h => by
  by_cases c : x.f0 = 1
  ·refine Ev.step (fun k => by simp only [Qab.l0]; rw [if_pos (by omega), if_pos (by omega), if_pos (by omega), er, if_pos c]) ?_
   rw [show (x.f0 == 1) = decide (x.f0 = 1 ∨ x.f0 = 20) by simp [c]]; exact h
  ·refine Ev.step (fun k => by simp only [Qab.l0]; rw [if_pos (by omega), if_pos (by omega), if_pos (by omega), er, if_neg c]) ?_
   rw [show (x.f0 == 20) = decide (x.f0 = 1 ∨ x.f0 = 20) by simp [c]; rfl]; exact h
 have hop : x.f0 = 1 ∨ x.f0 = 2 ∨ x.f0 = 20 := by
  refine Classical.byContradiction (fun h => ?_)
  unfold needMany at hm; unfold needOwn at f1
  rw [if_neg h] at hm
  by_cases c : x.f0 = 13 ∨ x.f0 = 19
  ·rw [if_pos c] at hm; omega
  ·rw [if_neg c] at hm
   by_cases c2 : 3 ≤ x.f0 ∧ x.f0 ≤ 18
   ·rw [if_pos c2] at hm; omega
   ·exact f1 (by rw [if_neg (by omega), if_neg (by omega)])
 unfold NOk at f2
 by_cases c2 : x.f0 = 2
 ·rw [if_neg (by omega), if_pos c2] at f2
  have hb : x.f1 < (s.length : Int) := by rw [hs.1]; exact f2
  obtain ⟨q, hq⟩ := Int.eq_ofNat_of_zero_le h1
  have hmem : rd s x.f1 ∈ s := by rw [hq, rd_nat]; exact getD_mem (by omega) 0
  refine ⟨rd s x.f1, hv _ (fun _ => ⟨h1, hb, rfl⟩) (fun h => absurd c2 h), ⟨hp _ hmem, hs.2 _ hmem, fun h => ?_⟩, fun r h => e0 r ?_⟩
  ·rw [c2] at h; simp [needOwn] at h
  ·exact Ev.step (fun k => by simp only [Qab.j1]; rw [if_neg (by simp; omega), if_pos c2, if_pos h1, if_pos hb, if_pos (by omega), wsucc (by omega)]) h
 ·refine ⟨x.f1, hv _ (fun h => absurd h c2) (fun _ => rfl), ?_, fun r h => e0 r ?_⟩
  ·by_cases c1 : x.f0 = 1
   ·rw [if_pos c1] at f2
    exact ⟨h1, f2, fun h => by rw [c1] at h; simp [needOwn] at h⟩
   ·rw [if_neg c1, if_neg c2, if_pos (by omega)] at f2
    refine ⟨h1, ⟨hw.1, hw.2, ?_⟩, fun _ => f2⟩
    have h3 : 2 ^ 1 ≤ 2 ^ wi.toNat := Nat.pow_le_pow_right (by omega) (by omega)
    have h4 : ((2 ^ wi.toNat : Nat) : Int) = (2 : Int) ^ wi.toNat := by simp
    rw [← h4]
    generalize 2 ^ wi.toNat = q at h3
    omega
  ·exact Ev.step (fun k => by simp only [Qab.j1]; rw [if_pos (by simp; omega), if_pos (by omega), wsucc (by omega)]) h
theorem value_un (wi va : Int) (hFl : FlOk wi) (t : List S77) (s : List Int) (n : Nat) (hn : n < t.length) (ht : t.length ≤ 48) (y : Nat × Int × Int) (R : List (Nat × Int × Int)) (hS : Piled wi t s n (y :: R)) (hl : (y :: R).length ≤ n)
  (hf : fits wi va (t.getD n z77) (kindsOf (y :: R))) (hm : needMany (t.getD n z77).f0 = 1) (hw : 1 ≤ wi ∧ wi ≤ 64) :
  ∃ v, Ev (fun k => Qal.f k wi t (n : Int) s) v ∧ VOk wi (needOwn (t.getD n z77).f0) v ∧ ∀ r, Ev (fun k => Qab.l0 k wi s (valsOf R ++ [v]) t (t.length : Int) ((n + 1 : Nat) : Int)) r → Ev (fun k => Qab.l0 k wi s (valsOf (y :: R)) t (t.length : Int) (n : Int)) r := by
 have er : rd_T77 t (n : Int) = t.getD n z77 := by simp [rd_T77]
 obtain ⟨p, hp2, _⟩ := l2Need_ev (t.getD n z77).f0
 obtain ⟨f1, f2, f3, f4⟩ := hf
 obtain ⟨⟨h0, _⟩, hev, _, hvk, _⟩ := hS
 have hst : valsOf (y :: R) = valsOf R ++ [y.2.1] := by simp [valsOf]
 have hlR : (valsOf R).length = R.length := by simp [valsOf]
 have hk : y.2.2 = needPart (t.getD n z77).f0 := f4 _ (by
  rw [hm]
  have e : kindsOf (y :: R) = kindsOf R ++ [y.2.2] := by simp [kindsOf]
  rw [e, List.length_append, List.length_singleton, Nat.add_sub_cancel, List.drop_left]; simp)
 rw [hst]
 generalize t.getD n z77 = x at er f1 f2 hp2 hm hk ⊢
 rw [hm] at hp2
 have hop : x.f0 = 13 ∨ x.f0 = 19 := by
  refine Classical.byContradiction (fun h => ?_)
  unfold needMany at hm
  by_cases c : x.f0 = 1 ∨ x.f0 = 2 ∨ x.f0 = 20
  ·rw [if_pos c] at hm; omega
  ·rw [if_neg c, if_neg h] at hm
   by_cases c2 : 3 ≤ x.f0 ∧ x.f0 ≤ 18
   ·rw [if_pos c2] at hm; omega
   ·rw [if_neg c2] at hm; omega
 have hll : ((valsOf R ++ [y.2.1]).length : Int) - 1 = ((valsOf R).length : Int) := by simp
 have wl : wrap64 (((valsOf R ++ [y.2.1]).length : Int) - 1) = ((valsOf R).length : Int) := by rw [hll]; exact wid (by omega) (by simp at hl; omega)
 have hrd : rd (valsOf R ++ [y.2.1]) ((valsOf R).length : Int) = y.2.1 := by rw [rd_nat]; simp [List.getD_eq_getElem?_getD]
 have hset : ∀ v, (valsOf R ++ [y.2.1]).set (((valsOf R).length : Int)).toNat v = valsOf R ++ [v] := fun v => by rw [Int.toNat_natCast]; simp
 have wn : wrap64 ((n : Int) - 1) = (y.1 : Int) := by rw [show (n : Int) - 1 = (y.1 : Int) by omega]; exact wid (by omega) (by omega)
 have e0 : ∀ r, Ev (fun k => Qab.j1 k wi s (valsOf R ++ [y.2.1]) ((valsOf R).length : Int) t (t.length : Int) (n : Int) x.f0 false x.f0 x.f1) r → Ev (fun k => Qab.l0 k wi s (valsOf R ++ [y.2.1]) t (t.length : Int) (n : Int)) r := fun r h => by
  refine Ev.step (fun k => by simp only [Qab.l0]; rw [if_pos (by omega), if_pos (by omega), if_pos (by omega), er, if_neg (by omega), wl]) ?_
  rw [show (x.f0 == 20) = false by rw [beq_eq_false_iff_ne]; omega]; exact h
 have hin : ((valsOf R).length : Int) < ((valsOf R ++ [y.2.1]).length : Int) := by omega
 rcases hop with c | c
 ·have hk1 : VOk wi 1 y.2.1 := by rw [hk, c] at hvk; exact hvk
  obtain ⟨cc, mk, q1, q2, q3, q4⟩ := hFl _ hk1
  refine ⟨cc, Ev.step (fun k => by simp only [Qal.f]; rw [if_pos (by omega), if_pos (by omega), er]) (Ev.bind hp2 ?_), by rw [c]; exact q4, fun r h => e0 r ?_⟩
  ·refine ev_neg (by omega) (ev_neg (show ¬ ((1 : Nat) : Int) = 0 by omega) (ev_pos c ?_))
   exact Ev.congr (fun k => by rw [wn]) (Ev.bind hev (Ev.bind q1 (Ev.now _)))
  ·refine Ev.step (fun k => by simp only [Qab.j1]; rw [if_neg (by simp), if_neg (by omega), if_pos c, if_pos (by omega), if_pos hin, q2, Option.bind_some, hrd, q3, hset, wsucc (by omega)]) h
 ·have hk1 : VOk wi 2 y.2.1 := by rw [hk, c] at hvk; exact hvk
  have hv1 := hk1.2.2 rfl
  have hv0 := hk1.1
  have hu : IntKind.u64.wrap (1 - y.2.1) = 1 - y.2.1 := by rw [wu, Int.emod_eq_of_lt (by omega) (by omega)]
  refine ⟨1 - y.2.1, Ev.step (fun k => by simp only [Qal.f]; rw [if_pos (by omega), if_pos (by omega), er]) (Ev.bind hp2 ?_), ⟨by omega, ⟨hw.1, hw.2, ?_⟩, fun _ => by omega⟩, fun r h => e0 r ?_⟩
  ·refine ev_neg (by omega) (ev_neg (show ¬ ((1 : Nat) : Int) = 0 by omega) (ev_neg (by omega) (ev_pos c ?_)))
   exact Ev.congr (fun k => by rw [wn]) (Ev.bind hev (Ev.congr (fun k => by rw [hu]) (Ev.now _)))
  ·have h3 : 2 ^ 1 ≤ 2 ^ wi.toNat := Nat.pow_le_pow_right (by omega) (by omega)
   have h4 : ((2 ^ wi.toNat : Nat) : Int) = (2 : Int) ^ wi.toNat := by simp
   rw [← h4]
   generalize 2 ^ wi.toNat = q at h3
   omega
  ·refine Ev.step (fun k => by simp only [Qab.j1]; rw [if_neg (by simp), if_neg (by omega), if_neg (by omega), if_pos c, if_pos (by omega), if_pos hin, hrd, hu, hset, wsucc (by omega)]) h
theorem value_bin (wi va : Int) (hDo : DoOk wi) (t : List S77) (s : List Int) (n : Nat) (hn : n < t.length) (ht : t.length ≤ 48) (y z : Nat × Int × Int) (R : List (Nat × Int × Int)) (hS : Piled wi t s n (y :: z :: R)) (hl : (y :: z :: R).length ≤ n)
  (hf : fits wi va (t.getD n z77) (kindsOf (y :: z :: R))) (hm : needMany (t.getD n z77).f0 = 2) :
  ∃ v, Ev (fun k => Qal.f k wi t (n : Int) s) v ∧ VOk wi (needOwn (t.getD n z77).f0) v ∧ ∀ r, Ev (fun k => Qab.l0 k wi s (valsOf R ++ [v]) t (t.length : Int) ((n + 1 : Nat) : Int)) r → Ev (fun k => Qab.l0 k wi s (valsOf (y :: z :: R)) t (t.length : Int) (n : Int)) r := by
 have er : rd_T77 t (n : Int) = t.getD n z77 := by simp [rd_T77]
 obtain ⟨p, hp2, _⟩ := l2Need_ev (t.getD n z77).f0
 obtain ⟨f1, f2, f3, f4⟩ := hf
 obtain ⟨⟨h0, hle⟩, hev, hfr, hvk, hz⟩ := hS
 obtain ⟨_, hev2, _, hvk2, _⟩ := hz
 have hle : z.1 + 1 ≤ y.1 := hle
 have hfr : Ev (fun k => Qav.f k t (y.1 : Int)) ((z.1 + 1 : Nat) : Int) := hfr
 have hst : valsOf (y :: z :: R) = valsOf R ++ [z.2.1, y.2.1] := by simp [valsOf]
 have hlR : (valsOf R).length = R.length := by simp [valsOf]
 have hkk : ∀ q ∈ [z.2.2, y.2.2], q = needPart (t.getD n z77).f0 := fun q hq => f4 q (by
  rw [hm]
  have e : kindsOf (y :: z :: R) = kindsOf R ++ [z.2.2, y.2.2] := by simp [kindsOf]
  rw [e, List.length_append, show [z.2.2, y.2.2].length = 2 from rfl, Nat.add_sub_cancel, List.drop_left]; exact hq)
 have hk1 := hkk y.2.2 (by simp)
 have hk2 := hkk z.2.2 (by simp)
 rw [hst]
 generalize t.getD n z77 = x at er f1 f2 hp2 hm hk1 hk2 ⊢
 rw [hm] at hp2
 rw [hk1] at hvk
 rw [hk2] at hvk2
 obtain ⟨c, d1, d2, d3⟩ := hDo x.f0 _ _ hm hvk2 hvk
 have hop : 3 ≤ x.f0 ∧ x.f0 ≤ 18 ∧ x.f0 ≠ 13 := by
  unfold needMany at hm
  by_cases c : x.f0 = 1 ∨ x.f0 = 2 ∨ x.f0 = 20
  ·rw [if_pos c] at hm; omega
  ·rw [if_neg c] at hm
   by_cases c3 : x.f0 = 13 ∨ x.f0 = 19
   ·rw [if_pos c3] at hm; omega
   ·rw [if_neg c3] at hm
    by_cases c2 : 3 ≤ x.f0 ∧ x.f0 ≤ 18
    ·omega
    ·rw [if_neg c2] at hm; omega
 have hlen : (valsOf R ++ [z.2.1, y.2.1]).length = (valsOf R).length + 2 := by simp
 have hlb : (valsOf R).length + 2 ≤ 48 := by simp at hl; omega
 have wl : wrap64 (((valsOf R ++ [z.2.1, y.2.1]).length : Int) - 1) = (((valsOf R).length + 1 : Nat) : Int) := by rw [hlen, show (((valsOf R).length + 2 : Nat) : Int) - 1 = (((valsOf R).length + 1 : Nat) : Int) by omega]; exact wid (by omega) (by omega)
 have wl2 : wrap64 ((((valsOf R).length + 1 : Nat) : Int) - 1) = ((valsOf R).length : Int) := by rw [show (((valsOf R).length + 1 : Nat) : Int) - 1 = ((valsOf R).length : Int) by omega]; exact wid (by omega) (by omega)
 have hrd1 : rd (valsOf R ++ [z.2.1, y.2.1]) ((valsOf R).length : Int) = z.2.1 := by rw [rd_nat]; simp [List.getD_eq_getElem?_getD]
 have hrd2 : rd (valsOf R ++ [z.2.1, y.2.1]) (((valsOf R).length + 1 : Nat) : Int) = y.2.1 := by rw [rd_nat]; simp [List.getD_eq_getElem?_getD]
 have htk : (valsOf R ++ [z.2.1, y.2.1]).take (((valsOf R).length : Int)).toNat = valsOf R := by rw [Int.toNat_natCast, List.take_left]
 have wn : wrap64 ((n : Int) - 1) = (y.1 : Int) := by rw [show (n : Int) - 1 = (y.1 : Int) by omega]; exact wid (by omega) (by omega)
 have wz : wrap64 (((z.1 + 1 : Nat) : Int) - 1) = (z.1 : Int) := by rw [show ((z.1 + 1 : Nat) : Int) - 1 = (z.1 : Int) by omega]; exact wid (by omega) (by omega)
 refine ⟨c, Ev.step (fun k => by simp only [Qal.f]; rw [if_pos (by omega), if_pos (by omega), er]) (Ev.bind hp2 ?_), d3, fun r h => ?_⟩
 ·refine ev_neg (by omega) (ev_neg (show ¬ ((2 : Nat) : Int) = 0 by omega) (ev_neg (by omega) (ev_neg (by omega) ?_)))
  exact Ev.congr (fun k => by rw [wn]) (Ev.bind hfr (Ev.congr (fun k => by rw [wz]) (Ev.bind hev2 (Ev.bind hev (Ev.bind d1 (Ev.now _))))))
 ·refine Ev.step (fun k => by simp only [Qab.l0]; rw [if_pos (by omega), if_pos (by omega), if_pos (by omega), er, if_neg (by omega), wl]) ?_
  rw [show (x.f0 == 20) = false by rw [beq_eq_false_iff_ne]; omega]
  refine Ev.step (fun k => by simp only [Qab.j1]; rw [if_neg (by simp), if_neg (by omega), if_neg (by omega), if_neg (by omega), wl2, if_pos (by omega), if_pos (by omega), if_pos (by omega), if_pos (by omega), if_pos (by omega), htk, hrd1, hrd2, wsucc (by omega), Option.bind_some]) (Ev.bind d2 ?_)
  exact ev_pos (show (valsOf R).length < 17592186044416 by omega) h
theorem kindsOf_length (S : List (Nat × Int × Int)) : (kindsOf S).length = S.length := by simp [kindsOf]
theorem value_step (wi va : Int) (hDo : DoOk wi) (hFl : FlOk wi) (hw : 1 ≤ wi ∧ wi ≤ 64) (t : List S77) (s : List Int) (hs : StateOk wi va s) (hp : ∀ a ∈ s, 0 ≤ a) (n : Nat) (hn : n < t.length) (ht : t.length ≤ 48) (h1 : 0 ≤ (t.getD n z77).f1) (S : List (Nat × Int × Int)) (hS : Piled wi t s n S) (hl : S.length ≤ n)
  (hf : fits wi va (t.getD n z77) (kindsOf S)) :
  ∃ S', Piled wi t s (n + 1) S' ∧ S'.length ≤ n + 1 ∧ kindsOf S' = pile (t.getD n z77) (kindsOf S) ∧ ∀ r, Ev (fun k => Qab.l0 k wi s (valsOf S') t (t.length : Int) ((n + 1 : Nat) : Int)) r → Ev (fun k => Qab.l0 k wi s (valsOf S) t (t.length : Int) (n : Int)) r := by
 have hm := hf.2.2.1
 rw [kindsOf_length] at hm
 obtain ⟨g1, g2, g3⟩ := from_next wi t s n hn ht S hS hm
 have key : ∃ v, Ev (fun k => Qal.f k wi t (n : Int) s) v ∧ VOk wi (needOwn (t.getD n z77).f0) v ∧ ∀ r, Ev (fun k => Qab.l0 k wi s (valsOf (S.drop (needMany (t.getD n z77).f0)) ++ [v]) t (t.length : Int) ((n + 1 : Nat) : Int)) r → Ev (fun k => Qab.l0 k wi s (valsOf S) t (t.length : Int) (n : Int)) r := by
  have h2 := needMany_le (t.getD n z77).f0
  rcases (show needMany (t.getD n z77).f0 = 0 ∨ needMany (t.getD n z77).f0 = 1 ∨ needMany (t.getD n z77).f0 = 2 by omega) with h | h | h
  ·rw [h, List.drop_zero]
   exact value_one wi va t s hs hp n hn ht h1 S hS hl hf h hw
  ·match S, hS, hl, hf, hm with
   | [], _, _, _, hm => rw [h] at hm; simp at hm
   | y :: R, hS, hl, hf, _ =>
    rw [h]
    exact value_un wi va hFl t s n hn ht y R hS hl hf h hw
  ·match S, hS, hl, hf, hm with
   | [], _, _, _, hm => rw [h] at hm; simp at hm
   | [y], _, _, _, hm => rw [h] at hm; simp at hm
   | y :: z :: R, hS, hl, hf, _ =>
    rw [h]
    exact value_bin wi va hDo t s n hn ht y z R hS hl hf h
 obtain ⟨v, q1, q2, q3⟩ := key
 refine ⟨(n, v, needOwn (t.getD n z77).f0) :: S.drop (needMany (t.getD n z77).f0), ⟨⟨rfl, g3⟩, q1, g1, q2, g2⟩, by simp; omega, ?_, fun r h => q3 r ?_⟩
 ·unfold pile
  rw [kindsOf_length]
  simp only [kindsOf, List.map_cons, List.reverse_cons, List.map_drop, List.append_cancel_right_eq]
  rw [List.reverse_drop, List.length_map]
 ·simpa [valsOf] using h
theorem value_l0 (wi va : Int) (hDo : DoOk wi) (hFl : FlOk wi) (hw : 1 ≤ wi ∧ wi ≤ 64) (t : List S77) (hx : ∀ x ∈ t, 0 ≤ x.f1) (s : List Int) (hs : StateOk wi va s) (hp : ∀ a ∈ s, 0 ≤ a) (ht : t.length ≤ 48) (kd : Int) (d : Nat) : ∀ (n : Nat) (S : List (Nat × Int × Int)), n + d = t.length → Piled wi t s n S → S.length ≤ n → Runs wi va (t.drop n) (kindsOf S) [kd] →
  ∃ v, Ev (fun k => Qab.l0 k wi s (valsOf S) t (t.length : Int) (n : Int)) v ∧ Ev (fun k => Qal.f k wi t ((t.length - 1 : Nat) : Int) s) v ∧ VOk wi kd v := by
 induction d with
 | zero =>
  intro n S hd hS hl hR
  rw [List.drop_of_length_le (by omega)] at hR
  have hR : kindsOf S = [kd] := hR
  match S, hS, hR with
  | [], _, hR => simp [kindsOf] at hR
  | [y], hS, hR =>
   obtain ⟨⟨h0, _⟩, h1, _, h3, _⟩ := hS
   have hk : y.2.2 = kd := by simpa [kindsOf] using hR
   have he : t.length - 1 = y.1 := by omega
   refine ⟨y.2.1, Ev.step (f := fun _ => some y.2.1) (fun k => by simp only [Qab.l0]; rw [if_neg (by omega), if_pos (by simp [valsOf])]; rfl) (Ev.now _), by rw [he]; exact h1, hk ▸ h3⟩
  | y :: z :: R, _, hR =>
   have := congrArg List.length hR
   simp [kindsOf] at this
 | succ d ih =>
  intro n S hd hS hl hR
  have hn : n < t.length := by omega
  rw [drop_cons hn z77] at hR
  obtain ⟨S', a1, a2, a3, a4⟩ := value_step wi va hDo hFl hw t s hs hp n hn ht (hx _ (getD_mem hn _)) S hS hl hR.1
  obtain ⟨v, b1, b2, b3⟩ := ih (n + 1) S' (by omega) a1 a2 (by rw [a3]; exact hR.2)
  exact ⟨v, a4 v b1, b2, b3⟩
theorem value_both (wi va kd : Int) (hDo : DoOk wi) (hFl : FlOk wi) (t : List S77) (hx : ∀ x ∈ t, 0 ≤ x.f1) (s : List Int) (hs : StateOk wi va s) (hp : ∀ a ∈ s, 0 ≤ a) (h : TermOf wi va t kd) :
  ∃ v, Ev (fun k => Qab.f k wi t s) v ∧ Ev (fun k => Qal.f k wi t (wrap64 ((t.length : Int) - 1)) s) v ∧ VOk wi kd v := by
 obtain ⟨v, a, b, c⟩ := value_l0 wi va hDo hFl h.1 t hx s hs hp h.2.2.1.2 kd t.length 0 [] (by omega) rfl (by simp) h.2.2.2
 have h1 := h.2.2.1
 have w : wrap64 ((t.length : Int) - 1) = ((t.length - 1 : Nat) : Int) := by rw [wid (by omega) (by omega)]; omega
 exact ⟨v, a, by rw [w]; exact b, c⟩
theorem flip_ok {wi : Int} (h : 1 ≤ wi ∧ wi ≤ 64) : FlOk wi := fun a ha => by
 have h1 := ha.2.1.le
 have h0 := ha.1
 have e := not_word a ha.1 h1
 refine ⟨(18446744073709551615 - a) % 2 ^ wi.toNat, 2 ^ wi.toNat - 1, ?_, mask_eq h.1 h.2, ?_, Int.emod_nonneg _ (Int.ne_of_gt (two_pos _)), ⟨h.1, h.2, Int.emod_lt_of_pos _ (two_pos _)⟩, fun g => by omega⟩
 ·rw [e]; exact l1Cut_ev wi _ (by omega) (by omega) (by omega)
 ·rw [e]; exact and_mask _ _ (by omega) (by omega) (by omega)
theorem cut_same {wi a : Int} (ha : GW wi a) (h0 : 0 ≤ a) : Go.bits .and .u64 a (2 ^ wi.toNat - 1) = a := by
 rw [and_mask a _ (by have := ha.2.1; omega) h0 ha.le]; exact Int.emod_eq_of_lt h0 ha.2.2
theorem vok_mod {wi : Int} (h : 1 ≤ wi ∧ wi ≤ 64) (x : Int) : VOk wi 1 (x % 2 ^ wi.toNat) :=
 ⟨Int.emod_nonneg _ (Int.ne_of_gt (two_pos _)), ⟨h.1, h.2, Int.emod_lt_of_pos _ (two_pos _)⟩, fun g => by omega⟩
theorem cut_wrap {wi : Int} (h : 1 ≤ wi ∧ wi ≤ 64) (x : Int) : Ev (fun k => Qai.f k wi (IntKind.u64.wrap x)) (IntKind.u64.wrap x % 2 ^ wi.toNat) ∧ Go.bits .and .u64 (IntKind.u64.wrap x) (2 ^ wi.toNat - 1) = IntKind.u64.wrap x % 2 ^ wi.toNat :=
 ⟨l1Cut_ev wi _ (by omega) (wu_in x).1 (wu_in x).2, and_mask _ _ (by omega) (wu_in x).1 (wu_in x).2⟩
theorem div_both {wi a b : Int} (ha : GW wi a) (hb : GW wi b) (h0 : 0 ≤ a) (hb0 : 0 ≤ b) : ∃ q r, Ev (fun k => Qa2.f k wi a b) (q, r, true) ∧ Qbn.f wi a b = some (q, r, true) ∧ VOk wi 1 q ∧ VOk wi 1 r := by
 have hp := two_pos wi.toNat
 rcases Int.lt_or_eq_of_le hb0 with h | h
 ·refine ⟨a / b, a % b, spec_DivWord_yes ha hb h0 h, DivWord_yes ha hb h0 h, ⟨Int.ediv_nonneg h0 hb0, ⟨ha.1, ha.2.1, ?_⟩, fun g => by omega⟩, ⟨Int.emod_nonneg _ (by omega), ⟨ha.1, ha.2.1, ?_⟩, fun g => by omega⟩⟩
  ·exact Int.lt_of_le_of_lt (Int.ediv_le_self _ h0) ha.2.2
  ·exact Int.lt_trans (Int.emod_lt_of_pos _ h) hb.2.2
 ·subst h
  have e : (18446744073709551615 : Int) % 2 ^ wi.toNat = 2 ^ wi.toNat - 1 := by
   have hd := two_dvd (n := wi.toNat) (by have := ha.2.1; omega)
   obtain ⟨c, hc⟩ := hd
   rw [show (18446744073709551615 : Int) = (2 ^ wi.toNat - 1) + 2 ^ wi.toNat * (c - 1) by rw [Int.mul_sub, ← hc]; omega, Int.add_mul_emod_self_left]
   exact Int.emod_eq_of_lt (by omega) (by omega)
  refine ⟨2 ^ wi.toNat - 1, a, e ▸ spec_DivWord_zero ha hb h0, DivWord_zero ha hb, ⟨by omega, ⟨ha.1, ha.2.1, by omega⟩, fun g => by omega⟩, ⟨h0, ha, fun g => by omega⟩⟩
def DoAt (wi op a b : Int) : Prop := ∃ c, Ev (fun k => Qae.f k wi op a b) c ∧ Ev (fun k => Qaa.f k wi op a b) c ∧ VOk wi (needOwn op) c
section
variable {wi a b : Int}
theorem do_add (ha : GW wi a) (hb : GW wi b) (h0 : 0 ≤ a) (hb0 : 0 ≤ b) : DoAt wi 3 a b := by
 have h : 1 ≤ wi ∧ wi ≤ 64 := ⟨ha.1, ha.2.1⟩
 obtain ⟨q, r, d1, _, _, _⟩ := div_both ha hb h0 hb0
 obtain ⟨c1, c2⟩ := cut_wrap h (a + b)
 refine ⟨_, Ev.bind d1 (Ev.congr (fun k => by simp) (Ev.bind c1 (Ev.now _))), Ev.congr (f := fun _ => some (IntKind.u64.wrap (a + b) % 2 ^ wi.toNat)) (fun k => by simp [Qaa.f, mask_eq h.1 h.2, c2]) (Ev.now _), vok_mod h _⟩
theorem do_sub (ha : GW wi a) (hb : GW wi b) (h0 : 0 ≤ a) (hb0 : 0 ≤ b) : DoAt wi 4 a b := by
 have h : 1 ≤ wi ∧ wi ≤ 64 := ⟨ha.1, ha.2.1⟩
 obtain ⟨q, r, d1, _, _, _⟩ := div_both ha hb h0 hb0
 obtain ⟨c1, c2⟩ := cut_wrap h (a - b)
 refine ⟨_, Ev.bind d1 (Ev.congr (fun k => by simp) (Ev.bind c1 (Ev.now _))), Ev.congr (f := fun _ => some (IntKind.u64.wrap (a - b) % 2 ^ wi.toNat)) (fun k => by simp [Qaa.f, mask_eq h.1 h.2, c2]) (Ev.now _), vok_mod h _⟩
theorem do_mul (ha : GW wi a) (hb : GW wi b) (h0 : 0 ≤ a) (hb0 : 0 ≤ b) : DoAt wi 5 a b := by
 have h : 1 ≤ wi ∧ wi ≤ 64 := ⟨ha.1, ha.2.1⟩
 obtain ⟨q, r, d1, _, _, _⟩ := div_both ha hb h0 hb0
 obtain ⟨c1, c2⟩ := cut_wrap h (a * b)
 refine ⟨_, Ev.bind d1 (Ev.congr (fun k => by simp) (Ev.bind c1 (Ev.now _))), Ev.congr (f := fun _ => some (IntKind.u64.wrap (a * b) % 2 ^ wi.toNat)) (fun k => by simp [Qaa.f, mask_eq h.1 h.2, c2]) (Ev.now _), vok_mod h _⟩
theorem do_div (ha : GW wi a) (hb : GW wi b) (h0 : 0 ≤ a) (hb0 : 0 ≤ b) : DoAt wi 6 a b := by
 have h : 1 ≤ wi ∧ wi ≤ 64 := ⟨ha.1, ha.2.1⟩
 obtain ⟨q, r, d1, d2, d3, d4⟩ := div_both ha hb h0 hb0
 refine ⟨q, Ev.bind d1 (Ev.congr (f := fun _ => some q) (fun k => by simp) (Ev.now _)), Ev.congr (f := fun _ => some q) (fun k => by simp [Qaa.f, mask_eq h.1 h.2, d2, cut_same d3.2.1 d3.1]) (Ev.now _), d3⟩
theorem do_rem (ha : GW wi a) (hb : GW wi b) (h0 : 0 ≤ a) (hb0 : 0 ≤ b) : DoAt wi 7 a b := by
 have h : 1 ≤ wi ∧ wi ≤ 64 := ⟨ha.1, ha.2.1⟩
 obtain ⟨q, r, d1, d2, d3, d4⟩ := div_both ha hb h0 hb0
 refine ⟨r, Ev.bind d1 (Ev.congr (f := fun _ => some r) (fun k => by simp) (Ev.now _)), Ev.congr (f := fun _ => some r) (fun k => by simp [Qaa.f, mask_eq h.1 h.2, d2, cut_same d4.2.1 d4.1]) (Ev.now _), d4⟩
theorem and_vok {n : Int} (ha : VOk wi n a) (hb : VOk wi n b) : VOk wi n (Go.bits .and .u64 a b) := by
 obtain ⟨x, rfl⟩ := Int.eq_ofNat_of_zero_le ha.1
 obtain ⟨y, rfl⟩ := Int.eq_ofNat_of_zero_le hb.1
 have h1 := ha.2.1.le
 have h2 := hb.2.1.le
 have h3 : x &&& y ≤ x := Nat.and_le_left
 rw [bits_and_u64_nat _ _ (by omega) (by omega)]
 refine ⟨Int.natCast_nonneg _, ⟨ha.2.1.1, ha.2.1.2.1, ?_⟩, fun g => ?_⟩
 ·have := ha.2.1.2.2; omega
 ·have := ha.2.2 g; omega
theorem or_vok {n : Int} (ha : VOk wi n a) (hb : VOk wi n b) : VOk wi n (Go.bits .or .u64 a b) := by
 obtain ⟨x, rfl⟩ := Int.eq_ofNat_of_zero_le ha.1
 obtain ⟨y, rfl⟩ := Int.eq_ofNat_of_zero_le hb.1
 have h1 := ha.2.1.le
 have h2 := hb.2.1.le
 rw [bits_or_u64_nat _ _ (by omega) (by omega)]
 refine ⟨Int.natCast_nonneg _, ⟨ha.2.1.1, ha.2.1.2.1, ?_⟩, fun g => ?_⟩
 ·have g1 := ha.2.1.2.2
  have g2 := hb.2.1.2.2
  rw [← two_nat] at g1 g2 ⊢
  exact Int.ofNat_lt.2 (Nat.or_lt_two_pow (Int.ofNat_lt.1 g1) (Int.ofNat_lt.1 g2))
 ·have g1 := ha.2.2 g
  have g2 := hb.2.2 g
  have : x ||| y < 2 ^ 1 := Nat.or_lt_two_pow (by omega) (by omega)
  omega
theorem xor_vok (ha : VOk wi 1 a) (hb : VOk wi 1 b) : VOk wi 1 (Go.bits .xor .u64 a b) := by
 obtain ⟨x, rfl⟩ := Int.eq_ofNat_of_zero_le ha.1
 obtain ⟨y, rfl⟩ := Int.eq_ofNat_of_zero_le hb.1
 have h1 := ha.2.1.le
 have h2 := hb.2.1.le
 rw [bits_xor_u64_nat _ _ (by omega) (by omega)]
 refine ⟨Int.natCast_nonneg _, ⟨ha.2.1.1, ha.2.1.2.1, ?_⟩, fun g => by omega⟩
 have g1 := ha.2.1.2.2
 have g2 := hb.2.1.2.2
 rw [← two_nat] at g1 g2 ⊢
 exact Int.ofNat_lt.2 (Nat.xor_lt_two_pow (Int.ofNat_lt.1 g1) (Int.ofNat_lt.1 g2))
theorem bool_vok (h : 1 ≤ wi ∧ wi ≤ 64) (c : Prop) [Decidable c] : VOk wi 2 (if c then 1 else 0) := by
 have h3 : 2 ^ 1 ≤ 2 ^ wi.toNat := Nat.pow_le_pow_right (by omega) (by omega)
 have h5 : (2 : Int) ≤ 2 ^ wi.toNat := by rw [← two_nat]; omega
 split
 ·exact ⟨by omega, ⟨h.1, h.2, by omega⟩, fun _ => by omega⟩
 ·exact ⟨by omega, ⟨h.1, h.2, by omega⟩, fun _ => by omega⟩
theorem do_and {op : Int} (ho : op = 8 ∨ op = 17) (ha : VOk wi (needPart op) a) (hb : VOk wi (needPart op) b) : DoAt wi op a b := by
 have h : 1 ≤ wi ∧ wi ≤ 64 := ⟨ha.2.1.1, ha.2.1.2.1⟩
 obtain ⟨q, r, d1, _, _, _⟩ := div_both ha.2.1 hb.2.1 ha.1 hb.1
 have hv := and_vok ha hb
 have hn : needPart op = needOwn op := by rcases ho with rfl | rfl <;> rfl
 have hc := cut_same hv.2.1 hv.1
 refine ⟨Go.bits .and .u64 a b, Ev.bind d1 (Ev.congr (f := fun k => Qae.j0 k wi a b op true) (fun k => by rcases ho with rfl | rfl <;> simp) (Ev.step (f := fun _ => some (Go.bits .and .u64 a b)) (fun k => by simp [Qae.j0]) (Ev.now _))), Ev.congr (f := fun k => Qaa.j0 k wi op a b 0 op true) (fun k => by rcases ho with rfl | rfl <;> simp [Qaa.f]) (Ev.step (f := fun _ => some (Go.bits .and .u64 a b)) (fun k => by simp [Qaa.j0, mask_eq h.1 h.2, hc]) (Ev.now _)), hn ▸ hv⟩
theorem do_or {op : Int} (ho : op = 9 ∨ op = 18) (ha : VOk wi (needPart op) a) (hb : VOk wi (needPart op) b) : DoAt wi op a b := by
 have h : 1 ≤ wi ∧ wi ≤ 64 := ⟨ha.2.1.1, ha.2.1.2.1⟩
 obtain ⟨q, r, d1, _, _, _⟩ := div_both ha.2.1 hb.2.1 ha.1 hb.1
 have hv := or_vok ha hb
 have hn : needPart op = needOwn op := by rcases ho with rfl | rfl <;> rfl
 have hc := cut_same hv.2.1 hv.1
 refine ⟨Go.bits .or .u64 a b, Ev.bind d1 (Ev.congr (f := fun k => Qae.j0 k wi a b op false) (fun k => by rcases ho with rfl | rfl <;> simp) (Ev.step (f := fun k => Qae.j1 k wi a b op true) (fun k => by rcases ho with rfl | rfl <;> simp [Qae.j0]) (Ev.step (f := fun _ => some (Go.bits .or .u64 a b)) (fun k => by simp [Qae.j1]) (Ev.now _)))), Ev.congr (f := fun k => Qaa.j0 k wi op a b 0 op false) (fun k => by rcases ho with rfl | rfl <;> simp [Qaa.f]) (Ev.step (f := fun k => Qaa.j1 k wi op a b 0 op true) (fun k => by rcases ho with rfl | rfl <;> simp [Qaa.j0]) (Ev.step (f := fun _ => some (Go.bits .or .u64 a b)) (fun k => by simp [Qaa.j1, mask_eq h.1 h.2, hc]) (Ev.now _))), hn ▸ hv⟩
theorem do_xor (ha : VOk wi 1 a) (hb : VOk wi 1 b) : DoAt wi 10 a b := by
 have h : 1 ≤ wi ∧ wi ≤ 64 := ⟨ha.2.1.1, ha.2.1.2.1⟩
 obtain ⟨q, r, d1, _, _, _⟩ := div_both ha.2.1 hb.2.1 ha.1 hb.1
 have hv := xor_vok ha hb
 have hc := cut_same hv.2.1 hv.1
 refine ⟨Go.bits .xor .u64 a b, Ev.bind d1 (Ev.congr (f := fun k => Qae.j0 k wi a b 10 false) (fun k => by simp) (Ev.step (f := fun k => Qae.j1 k wi a b 10 false) (fun k => by simp [Qae.j0]) (Ev.step (f := fun _ => some (Go.bits .xor .u64 a b)) (fun k => by simp [Qae.j1]) (Ev.now _)))), Ev.congr (f := fun k => Qaa.j0 k wi 10 a b 0 10 false) (fun k => by simp [Qaa.f]) (Ev.step (f := fun k => Qaa.j1 k wi 10 a b 0 10 false) (fun k => by simp [Qaa.j0]) (Ev.step (f := fun _ => some (Go.bits .xor .u64 a b)) (fun k => by simp [Qaa.j1, mask_eq h.1 h.2, hc]) (Ev.now _))), hv⟩
theorem do_eq (ha : VOk wi 1 a) (hb : VOk wi 1 b) : DoAt wi 14 a b := by
 have h : 1 ≤ wi ∧ wi ≤ 64 := ⟨ha.2.1.1, ha.2.1.2.1⟩
 obtain ⟨q, r, d1, _, _, _⟩ := div_both ha.2.1 hb.2.1 ha.1 hb.1
 have hv := bool_vok h (a = b)
 have hc := cut_same hv.2.1 hv.1
 generalize hz : (if a = b then (1 : Int) else 0) = z at hv hc
 have e1 : Qbb.f (a == b) = some z := by rw [← hz]; by_cases g : a = b <;> simp [Qbb.f, g]
 have e2 : Qbe.f (a == b) = some z := by rw [← hz]; by_cases g : a = b <;> simp [Qbe.f, g]
 refine ⟨z, Ev.bind d1 (Ev.congr (f := fun k => Qae.j0 k wi a b 14 false) (fun k => by simp) (Ev.step (f := fun k => Qae.j1 k wi a b 14 false) (fun k => by simp [Qae.j0]) (Ev.step (f := fun _ => some z) (fun k => by simp [Qae.j1, e1]) (Ev.now _)))), Ev.congr (f := fun k => Qaa.j0 k wi 14 a b 0 14 false) (fun k => by simp [Qaa.f]) (Ev.step (f := fun k => Qaa.j1 k wi 14 a b 0 14 false) (fun k => by simp [Qaa.j0]) (Ev.step (f := fun k => Qaa.j2 k wi 14 a b 0 14 false) (fun k => by simp [Qaa.j1]) (Ev.step (f := fun _ => some z) (fun k => by simp [Qaa.j2, e2, mask_eq h.1 h.2, hc]) (Ev.now _)))), hv⟩
theorem do_less (ha : VOk wi 1 a) (hb : VOk wi 1 b) : DoAt wi 15 a b := by
 have h : 1 ≤ wi ∧ wi ≤ 64 := ⟨ha.2.1.1, ha.2.1.2.1⟩
 obtain ⟨q, r, d1, _, _, _⟩ := div_both ha.2.1 hb.2.1 ha.1 hb.1
 have hv := bool_vok h (a < b)
 have hc := cut_same hv.2.1 hv.1
 generalize hz : (if a < b then (1 : Int) else 0) = z at hv hc
 have e1 : Qbb.f (decide (a < b)) = some z := by rw [← hz]; by_cases g : a < b <;> simp [Qbb.f, g]
 have e2 : Qbe.f (decide (a < b)) = some z := by rw [← hz]; by_cases g : a < b <;> simp [Qbe.f, g]
 refine ⟨z, Ev.bind d1 (Ev.congr (f := fun k => Qae.j0 k wi a b 15 false) (fun k => by simp) (Ev.step (f := fun k => Qae.j1 k wi a b 15 false) (fun k => by simp [Qae.j0]) (Ev.step (f := fun _ => some z) (fun k => by simp only [Qae.j1, e1]; rfl) (Ev.now _)))), Ev.congr (f := fun k => Qaa.j0 k wi 15 a b 0 15 false) (fun k => by simp [Qaa.f]) (Ev.step (f := fun k => Qaa.j1 k wi 15 a b 0 15 false) (fun k => by simp [Qaa.j0]) (Ev.step (f := fun k => Qaa.j2 k wi 15 a b 0 15 false) (fun k => by simp [Qaa.j1]) (Ev.step (f := fun _ => some z) (fun k => by simp only [Qaa.j2, e2, mask_eq h.1 h.2, Option.bind_some, hc]; rfl) (Ev.now _)))), hv⟩
theorem shift_both (ha : VOk wi 1 a) (hb : VOk wi 1 b) (d : Bool) : ∃ z, Ev (fun k => QaA.f k wi a b d) z ∧ Qbr.f wi a b d = some z ∧ VOk wi 1 z := by
 obtain ⟨h0, ⟨h1, h2, h3⟩, _⟩ := ha
 obtain ⟨n, rfl⟩ := Int.eq_ofNat_of_zero_le hb.1
 have ew : IntKind.u64.wrap wi = wi := by rw [wu]; omega
 by_cases h : (n : Int) < wi
 ·cases d with
  | true =>
   refine ⟨(a * 2 ^ n) % 2 ^ wi.toNat, Ev.congr (f := fun k => QaA.l0 k wi a (n : Int) true) (fun k => by simp only [QaA.f]; rw [ew, if_neg (by omega)]) (l1Shift_left wi ⟨h1, h2⟩ n (by omega) a h0 h3), shift_left h1 h2 h, vok_mod ⟨h1, h2⟩ _⟩
  | false =>
   obtain ⟨m, rfl⟩ := Int.eq_ofNat_of_zero_le h0
   refine ⟨((m / 2 ^ n : Nat) : Int), Ev.congr (f := fun k => QaA.l0 k wi (m : Int) (n : Int) false) (fun k => by simp only [QaA.f]; rw [ew, if_neg (by omega)]) (l1Shift_right wi n (by omega) m), ?_, ⟨Int.natCast_nonneg _, ⟨h1, h2, ?_⟩, fun g => by omega⟩⟩
   ·rw [shift_right h1 h2 h]; simp
   ·have : m / 2 ^ n ≤ m := Nat.div_le_self _ _
    omega
 ·refine ⟨0, Ev.congr (f := fun _ => some 0) (fun k => by simp only [QaA.f]; rw [ew, if_pos (by omega)]) (Ev.now _), by unfold Qbr.f; rw [ew, if_pos (by omega)], ⟨by omega, ⟨h1, h2, two_pos _⟩, fun g => by omega⟩⟩
theorem do_left (ha : VOk wi 1 a) (hb : VOk wi 1 b) : DoAt wi 11 a b := by
 have h : 1 ≤ wi ∧ wi ≤ 64 := ⟨ha.2.1.1, ha.2.1.2.1⟩
 obtain ⟨q, r, d1, _, _, _⟩ := div_both ha.2.1 hb.2.1 ha.1 hb.1
 obtain ⟨z, e1, e2, hv⟩ := shift_both ha hb true
 have hc := cut_same hv.2.1 hv.1
 refine ⟨z, Ev.bind d1 (Ev.congr (f := fun k => Qae.j0 k wi a b 11 false) (fun k => by simp) (Ev.step (f := fun k => Qae.j1 k wi a b 11 false) (fun k => by simp [Qae.j0]) (Ev.step (f := fun k => (QaA.f k wi a b true).bind fun t => some t) (fun k => by simp [Qae.j1]) (Ev.bind e1 (Ev.now _))))), Ev.congr (f := fun k => Qaa.j0 k wi 11 a b 0 11 false) (fun k => by simp [Qaa.f]) (Ev.step (f := fun k => Qaa.j1 k wi 11 a b 0 11 false) (fun k => by simp [Qaa.j0]) (Ev.step (f := fun k => Qaa.j2 k wi 11 a b 0 11 true) (fun k => by simp [Qaa.j1]) (Ev.step (f := fun _ => some z) (fun k => by simp [Qaa.j2, e2, mask_eq h.1 h.2, hc]) (Ev.now _)))), hv⟩
theorem do_right (ha : VOk wi 1 a) (hb : VOk wi 1 b) : DoAt wi 12 a b := by
 have h : 1 ≤ wi ∧ wi ≤ 64 := ⟨ha.2.1.1, ha.2.1.2.1⟩
 obtain ⟨q, r, d1, _, _, _⟩ := div_both ha.2.1 hb.2.1 ha.1 hb.1
 obtain ⟨z, e1, e2, hv⟩ := shift_both ha hb false
 have hc := cut_same hv.2.1 hv.1
 refine ⟨z, Ev.bind d1 (Ev.congr (f := fun k => Qae.j0 k wi a b 12 false) (fun k => by simp) (Ev.step (f := fun k => Qae.j1 k wi a b 12 false) (fun k => by simp [Qae.j0]) (Ev.step (f := fun k => (QaA.f k wi a b false).bind fun t => some t) (fun k => by simp [Qae.j1]) (Ev.bind e1 (Ev.now _))))), Ev.congr (f := fun k => Qaa.j0 k wi 12 a b 0 12 false) (fun k => by simp [Qaa.f]) (Ev.step (f := fun k => Qaa.j1 k wi 12 a b 0 12 false) (fun k => by simp [Qaa.j0]) (Ev.step (f := fun k => Qaa.j2 k wi 12 a b 0 12 true) (fun k => by simp [Qaa.j1]) (Ev.step (f := fun _ => some z) (fun k => by simp [Qaa.j2, e2, mask_eq h.1 h.2, hc]) (Ev.now _)))), hv⟩
theorem do_lessS (ha : VOk wi 1 a) (hb : VOk wi 1 b) : DoAt wi 16 a b := by
 have h : 1 ≤ wi ∧ wi ≤ 64 := ⟨ha.2.1.1, ha.2.1.2.1⟩
 obtain ⟨q, r, d1, _, _, _⟩ := div_both ha.2.1 hb.2.1 ha.1 hb.1
 have sa := l1Signed_ev ha.2.1 ha.1
 have sb := l1Signed_ev hb.2.1 hb.1
 have ta := signed_eq ha.2.1 ha.1
 have tb := signed_eq hb.2.1 hb.1
 generalize sgn wi a = x at sa ta
 generalize sgn wi b = y at sb tb
 have hv := bool_vok h (x < y)
 have hc := cut_same hv.2.1 hv.1
 generalize hz : (if x < y then (1 : Int) else 0) = z at hv hc
 have e1 : Qbb.f (decide (x < y)) = some z := by rw [← hz]; by_cases g : x < y <;> simp [Qbb.f, g]
 have e2 : Qbe.f (decide (x < y)) = some z := by rw [← hz]; by_cases g : x < y <;> simp [Qbe.f, g]
 refine ⟨z, Ev.bind d1 (Ev.congr (f := fun k => Qae.j0 k wi a b 16 false) (fun k => by simp) (Ev.step (f := fun k => Qae.j1 k wi a b 16 false) (fun k => by simp [Qae.j0]) (Ev.step (f := fun k => (Qa5.f k wi a).bind fun u => (Qa5.f k wi b).bind fun v => (Qbb.f (decide (u < v))).bind fun t => some t) (fun k => by simp only [Qae.j1]; rfl) (Ev.bind sa (Ev.bind sb (Ev.bind (ev_const e1) (Ev.now _))))))), Ev.congr (f := fun k => Qaa.j0 k wi 16 a b 0 16 false) (fun k => by simp [Qaa.f]) (Ev.step (f := fun k => Qaa.j1 k wi 16 a b 0 16 false) (fun k => by simp [Qaa.j0]) (Ev.step (f := fun k => Qaa.j2 k wi 16 a b 0 16 false) (fun k => by simp [Qaa.j1]) (Ev.step (f := fun _ => some z) (fun k => by simp only [Qaa.j2, ta, tb, e2, mask_eq h.1 h.2, Option.bind_some, hc]; rfl) (Ev.now _)))), hv⟩
end
theorem do_ok (wi : Int) : DoOk wi := fun op a b hm ha hb => by
 have hop : (3 ≤ op ∧ op ≤ 12) ∨ (14 ≤ op ∧ op ≤ 18) := by
  unfold needMany at hm
  by_cases c : op = 1 ∨ op = 2 ∨ op = 20
  ·rw [if_pos c] at hm; omega
  ·rw [if_neg c] at hm
   by_cases c3 : op = 13 ∨ op = 19
   ·rw [if_pos c3] at hm; omega
   ·rw [if_neg c3] at hm
    by_cases c2 : 3 ≤ op ∧ op ≤ 18
    ·omega
    ·rw [if_neg c2] at hm; omega
 show DoAt wi op a b
 by_cases c8 : op = 8 ∨ op = 17
 ·exact do_and c8 ha hb
 by_cases c9 : op = 9 ∨ op = 18
 ·exact do_or c9 ha hb
 rcases (show op = 3 ∨ op = 4 ∨ op = 5 ∨ op = 6 ∨ op = 7 ∨ op = 10 ∨ op = 11 ∨ op = 12 ∨ op = 14 ∨ op = 15 ∨ op = 16 by omega) with rfl | rfl | rfl | rfl | rfl | rfl | rfl | rfl | rfl | rfl | rfl
 ·exact do_add ha.2.1 hb.2.1 ha.1 hb.1
 ·exact do_sub ha.2.1 hb.2.1 ha.1 hb.1
 ·exact do_mul ha.2.1 hb.2.1 ha.1 hb.1
 ·exact do_div ha.2.1 hb.2.1 ha.1 hb.1
 ·exact do_rem ha.2.1 hb.2.1 ha.1 hb.1
 ·exact do_xor ha hb
 ·exact do_left ha hb
 ·exact do_right ha hb
 ·exact do_eq ha hb
 ·exact do_less ha hb
 ·exact do_lessS ha hb
noncomputable def Vl (wi : Int) (t : List S77) (s : List Int) : Int := Classical.epsilon fun v => Ev (fun k => Qab.f k wi t s) v
def Sta (wi va : Int) (s : List Int) : Prop := StateOk wi va s ∧ ∀ a ∈ s, 0 ≤ a
def Prg (wi va : Int) (st : List S77) (co : List S82) : Prop := GoodP wi va st co ∧ Wd st ∧ ∀ c ∈ co, Wd c.f0 ∧ ∀ x ∈ c.f1, Wd x.f1
theorem value_is {wi va kd : Int} {t : List S77} {s : List Int} (ht : TermOf wi va t kd) (hw : Wd t) (hs : Sta wi va s) :
  Ev (fun k => Qab.f k wi t s) (Vl wi t s) ∧ Ev (fun k => Qal.f k wi t (wrap64 ((t.length : Int) - 1)) s) (Vl wi t s) ∧ VOk wi kd (Vl wi t s) := by
 obtain ⟨v, a, b, c⟩ := value_both wi va kd (do_ok wi) (flip_ok ht.1) t (fun x hx => (hw x hx).1) s hs.1 hs.2 ht
 have e : Vl wi t s = v := ev_uniq (Classical.epsilon_spec (p := fun v => Ev (fun k => Qab.f k wi t s) v) ⟨v, a⟩) a
 rw [e]; exact ⟨a, b, c⟩
noncomputable def hold (wi : Int) (t : List S77) (s : List Int) : Bool := Vl wi t s == 1
theorem holds_spec {wi va : Int} (st : List S77) (co : List S82) {t : List S77} {s : List Int} (ht : TermOf wi va t 2) (hw : Wd t) (hs : Sta wi va s) : Ev (fun k => Qa7.f k wi va st co t s) (hold wi t s) := Ev.bind (value_is ht hw hs).2.1 (Ev.now _)
theorem holds_impl {wi va : Int} (st : List S77) (co : List S82) {t : List S77} {s : List Int} (ht : TermOf wi va t 2) (hw : Wd t) (hs : Sta wi va s) : Ev (fun k => Qa4.f k wi va st co t s) (hold wi t s) := Ev.bind (value_is ht hw hs).1 (Ev.now _)
theorem Prg.when {wi va : Int} {st : List S77} {co : List S82} (h : Prg wi va st co) {j : Nat} (hj : j < co.length) : TermOf wi va (co.getD j z82).f0 2 ∧ Wd (co.getD j z82).f0 := ⟨(h.1.2.2 _ (getD_mem hj _)).1, (h.2.2 _ (getD_mem hj _)).1⟩
noncomputable def enFrom (wi : Int) (co : List S82) (s : List Int) : Nat → Nat → List Int
 | _, 0 => []
 | j, d + 1 => if hold wi (co.getD j z82).f0 s = true then (j : Int) :: enFrom wi co s (j + 1) d else enFrom wi co s (j + 1) d
theorem mem_enFrom (wi : Int) (co : List S82) (s : List Int) (x : Int) : ∀ (d j : Nat), x ∈ enFrom wi co s j d ↔ ∃ i : Nat, x = i ∧ j ≤ i ∧ i < j + d ∧ hold wi (co.getD i z82).f0 s = true
 | 0, j => by simp [enFrom]; intro i _ h1 h2; omega
 | d + 1, j => by
  have ih := mem_enFrom wi co s x d (j + 1)
  unfold enFrom
  by_cases h : hold wi (co.getD j z82).f0 s = true
  ·rw [if_pos h, List.mem_cons, ih]
   exact ⟨fun g => by
    rcases g with rfl | ⟨i, h1, h2, h3, h4⟩
    ·exact ⟨j, rfl, by omega, by omega, h⟩
    ·exact ⟨i, h1, by omega, by omega, h4⟩, fun ⟨i, h1, h2, h3, h4⟩ => by
    rcases Nat.eq_or_lt_of_le h2 with e | e
    ·subst e; exact .inl h1
    ·exact .inr ⟨i, h1, e, by omega, h4⟩⟩
  ·rw [if_neg h, ih]
   exact ⟨fun ⟨i, h1, h2, h3, h4⟩ => ⟨i, h1, by omega, by omega, h4⟩, fun ⟨i, h1, h2, h3, h4⟩ => by
    rcases Nat.eq_or_lt_of_le h2 with e | e
    ·subst e; exact absurd h4 h
    ·exact ⟨i, h1, e, by omega, h4⟩⟩
theorem enFrom_length (wi : Int) (co : List S82) (s : List Int) : ∀ (d j : Nat), (enFrom wi co s j d).length ≤ d
 | 0, j => by simp [enFrom]
 | d + 1, j => by
  have ih := enFrom_length wi co s d (j + 1)
  unfold enFrom
  split
  ·simp; omega
  ·omega
noncomputable def enab (wi : Int) (co : List S82) (s : List Int) : List Int := enFrom wi co s 0 co.length
noncomputable def aft (wi : Int) (s : List Int) : List S100 → List Int → List Int
 | [], o => o
 | x :: t, o => aft wi s t (o.set x.f0.toNat (Vl wi x.f1 s))
def ChAll (wi va : Int) (l : List S100) : Prop := ∀ x ∈ l, 0 ≤ x.f0 ∧ x.f0 < va ∧ TermOf wi va x.f1 1 ∧ Wd x.f1
theorem Prg.changes {wi va : Int} {st : List S77} {co : List S82} (h : Prg wi va st co) {c : S82} (hc : c ∈ co) : ChAll wi va c.f1 := fun x hx => by
 obtain ⟨i, hi, rfl⟩ := List.getElem_of_mem hx
 have h1 := (h.1.2.2 c hc).2 i (Nat.zero_le _) hi
 have e : c.f1.getD i z100 = c.f1[i] := getD_eq hi _
 rw [ChangeOk, e] at h1
 exact ⟨h1.1.1, by omega, h1.2.2, (h.2.2 c hc).2 _ hx⟩
theorem aft_sta {wi va : Int} {s : List Int} (hs : Sta wi va s) : ∀ (l : List S100) (o : List Int), ChAll wi va l → Sta wi va o → Sta wi va (aft wi s l o)
 | [], o, _, h => h
 | x :: t, o, hl, h => by
  obtain ⟨h1, h2, h3, h4⟩ := hl x (by simp)
  obtain ⟨_, _, v1, v2, _⟩ := value_is h3 h4 hs
  refine aft_sta hs t _ (fun y hy => hl y (by simp [hy])) ⟨⟨by simpa using h.1.1, fun a ha => ?_⟩, fun a ha => ?_⟩
  ·rcases List.mem_or_eq_of_mem_set ha with ha | rfl
   ·exact h.1.2 a ha
   ·exact v2
  ·rcases List.mem_or_eq_of_mem_set ha with ha | rfl
   ·exact h.2 a ha
   ·exact v1
def dig (w : Nat) : Nat → Nat → List Int
 | 0, _ => []
 | v + 1, n => ((n % 2 ^ w : Nat) : Int) :: dig w v (n / 2 ^ w)
def undig (w : Nat) : List Int → Nat
 | [] => 0
 | a :: t => a.toNat + 2 ^ w * undig w t
theorem dig_length (w : Nat) : ∀ v n, (dig w v n).length = v
 | 0, _ => rfl
 | v + 1, n => by simp [dig, dig_length w v]
theorem dig_in (w : Nat) : ∀ v n, ∀ a ∈ dig w v n, 0 ≤ a ∧ a < ((2 ^ w : Nat) : Int)
 | 0, _ => by simp [dig]
 | v + 1, n => by
  intro a ha
  rcases List.mem_cons.1 ha with rfl | ha
  ·exact ⟨by omega, Int.ofNat_lt.2 (Nat.mod_lt _ (Nat.two_pow_pos w))⟩
  ·exact dig_in w v _ a ha
theorem dig_undig (w : Nat) : ∀ s : List Int, (∀ a ∈ s, 0 ≤ a ∧ a < ((2 ^ w : Nat) : Int)) → dig w s.length (undig w s) = s ∧ undig w s < 2 ^ (w * s.length)
 | [], _ => by simp [dig, undig]
 | a :: t, h => by
  obtain ⟨h1, h2⟩ := h a (by simp)
  obtain ⟨h3, h4⟩ := dig_undig w t (fun b hb => h b (by simp [hb]))
  have h5 : a.toNat < 2 ^ w := by omega
  have h6 : (a.toNat + 2 ^ w * undig w t) % 2 ^ w = a.toNat := by rw [Nat.add_mul_mod_self_left, Nat.mod_eq_of_lt h5]
  have h7 : (a.toNat + 2 ^ w * undig w t) / 2 ^ w = undig w t := by rw [Nat.add_mul_div_left _ _ (Nat.two_pow_pos w), Nat.div_eq_of_lt h5, Nat.zero_add]
  refine ⟨?_, ?_⟩
  ·simp only [List.length_cons, dig, undig]
   rw [h6, h7, h3, Int.toNat_of_nonneg h1]
  ·simp only [List.length_cons, undig, Nat.mul_succ, Nat.pow_add]
   have h8 : 2 ^ w * (undig w t + 1) ≤ 2 ^ w * 2 ^ (w * t.length) := Nat.mul_le_mul_left _ h4
   rw [Nat.mul_add, Nat.mul_one] at h8
   rw [Nat.mul_comm (2 ^ (w * t.length))]
   omega
theorem gw_dig {w : Nat} (h1 : 1 ≤ w) (h2 : w ≤ 64) (a : Int) : GW (w : Int) a ↔ a < ((2 ^ w : Nat) : Int) := by
 unfold GW
 rw [Int.toNat_natCast, two_nat]
 exact ⟨fun h => h.2.2, fun h => ⟨by omega, by omega, h⟩⟩
theorem dig_sta {w v : Nat} (h1 : 1 ≤ w) (h2 : w ≤ 64) (n : Nat) : Sta (w : Int) (v : Int) (dig w v n) :=
 ⟨⟨by rw [dig_length], fun a ha => (gw_dig h1 h2 a).2 (dig_in w v n a ha).2⟩, fun a ha => (dig_in w v n a ha).1⟩
def ofGood (w v n : Nat) : Bool := decide (Qaq.f 10 (w : Int) (v : Int) [] [] (n : Int) = some (dig w v n)) && decide (QaC.f 10 (w : Int) (v : Int) [] [] (n : Int) = some (dig w v n))
theorem ofs_good : ∀ w, w < 6 → ∀ v, v < 6 → ∀ n, n < 32 → (1 ≤ w ∧ 1 ≤ v ∧ w * v ≤ 5 ∧ n < 2 ^ (w * v)) → ofGood w v n = true := by
 decide +kernel
theorem small_in {w v n : Nat} (hw : 1 ≤ w) (hv : 1 ≤ v) (hm : w * v ≤ 5) (hn : n < 2 ^ (w * v)) : w < 6 ∧ v < 6 ∧ n < 32 := by
 have h1 : w ≤ w * v := Nat.le_mul_of_pos_right _ hv
 have h2 : v ≤ w * v := Nat.le_mul_of_pos_left _ hw
 have h3 : 2 ^ (w * v) ≤ 2 ^ 5 := Nat.pow_le_pow_right (by omega) hm
 omega
theorem of_both {w v n : Nat} (hw : 1 ≤ w) (hv : 1 ≤ v) (hm : w * v ≤ 5) (hn : n < 2 ^ (w * v)) (st : List S77) (co : List S82) :
  Ev (fun k => Qaq.f k (w : Int) (v : Int) st co (n : Int)) (dig w v n) ∧ Ev (fun k => QaC.f k (w : Int) (v : Int) st co (n : Int)) (dig w v n) := by
 obtain ⟨h1, h2, h3⟩ := small_in hw hv hm hn
 have h := ofs_good w h1 v h2 n h3 ⟨hw, hv, hm, hn⟩
 simp only [ofGood, Bool.and_eq_true, decide_eq_true_eq] at h
 exact ⟨ev_mono ((stateOf_l0_same _ st co _ _ 10 _ _ _).trans h.1) (fun k => Qaq.mono _ _ _ _ _ k), ev_mono ((l7Of_l0_same _ st co _ _ 10 _ _).trans h.2) (fun k => QaC.mono _ _ _ _ _ k)⟩
structure SP (w v : Nat) (st : List S77) (co : List S82) : Prop where
 prg : Prg (w : Int) (v : Int) st co
 w1 : 1 ≤ w
 w2 : w ≤ 64
 v1 : 1 ≤ v
 v2 : v ≤ 4
 m : w * v ≤ 5
theorem SP.of {wi va : Int} {st : List S77} {co : List S82} (h : SmallP wi va st co) (hst : Wd st) (hco : ∀ c ∈ co, Wd c.f0 ∧ ∀ x ∈ c.f1, Wd x.f1) : ∃ w v : Nat, wi = (w : Int) ∧ va = (v : Int) ∧ SP w v st co := by
 obtain ⟨hg, hm⟩ := h
 obtain ⟨w, v, rfl, rfl, hw, hw2, hv, hv2, e, hb⟩ := small_nat hg
 rw [e] at hm
 exact ⟨w, v, rfl, rfl, ⟨hg, hst, hco⟩, hw, hw2, hv, hv2, by omega⟩
section
variable {w v : Nat} {st : List S77} {co : List S82} (h : SP w v st co)
include h
theorem SP.pow : 2 ^ (w * v) ≤ 32 := Nat.pow_le_pow_right (by omega) h.m
theorem SP.states : Qbc.f (w : Int) (v : Int) st co = some ((2 ^ (w * v) : Nat) : Int) := by
 have hm := h.m
 have e : (w : Int) * (v : Int) = ((w * v : Nat) : Int) := by simp
 unfold Qbc.f
 rw [e, wid (by omega) (by omega), if_pos (by omega), shl_few _ (by omega)]
theorem SP.many : QbE.f (w : Int) (v : Int) st co = some ((2 ^ (w * v) : Nat) : Int) := by
 have hm := h.m
 have e : (w : Int) * (v : Int) = ((w * v : Nat) : Int) := by simp
 unfold QbE.f
 rw [e, wid (by omega) (by omega), wu, Int.emod_eq_of_lt (by omega) (by omega), if_pos (by omega), shl_few _ (by omega)]
end
noncomputable def whFrom (w v : Nat) (t : List S77) : Nat → Nat → List Int
 | _, 0 => []
 | j, d + 1 => if hold (w : Int) t (dig w v j) = true then (j : Int) :: whFrom w v t (j + 1) d else whFrom w v t (j + 1) d
theorem mem_whFrom (w v : Nat) (t : List S77) (x : Int) : ∀ (d j : Nat), x ∈ whFrom w v t j d ↔ ∃ i : Nat, x = i ∧ j ≤ i ∧ i < j + d ∧ hold (w : Int) t (dig w v i) = true
 | 0, j => by simp [whFrom]; intro i _ h1 h2; omega
 | d + 1, j => by
  have ih := mem_whFrom w v t x d (j + 1)
  unfold whFrom
  by_cases h : hold (w : Int) t (dig w v j) = true
  ·rw [if_pos h, List.mem_cons, ih]
   exact ⟨fun g => by
    rcases g with rfl | ⟨i, h1, h2, h3, h4⟩
    ·exact ⟨j, rfl, by omega, by omega, h⟩
    ·exact ⟨i, h1, by omega, by omega, h4⟩, fun ⟨i, h1, h2, h3, h4⟩ => by
    rcases Nat.eq_or_lt_of_le h2 with e | e
    ·subst e; exact .inl h1
    ·exact .inr ⟨i, h1, e, by omega, h4⟩⟩
  ·rw [if_neg h, ih]
   exact ⟨fun ⟨i, h1, h2, h3, h4⟩ => ⟨i, h1, by omega, by omega, h4⟩, fun ⟨i, h1, h2, h3, h4⟩ => by
    rcases Nat.eq_or_lt_of_le h2 with e | e
    ·subst e; exact absurd h4 h
    ·exact ⟨i, h1, e, by omega, h4⟩⟩
theorem whFrom_rise (w v : Nat) (t : List S77) : ∀ (d j : Nat), (whFrom w v t j d).Pairwise (· < ·)
 | 0, j => by simp [whFrom]
 | d + 1, j => by
  have ih := whFrom_rise w v t d (j + 1)
  unfold whFrom
  split
  ·refine List.pairwise_cons.2 ⟨fun a ha => ?_, ih⟩
   obtain ⟨i, rfl, h1, _⟩ := (mem_whFrom w v t a d (j + 1)).1 ha
   omega
  ·exact ih
noncomputable def whereS (w v : Nat) (t : List S77) : List Int := whFrom w v t 0 (2 ^ (w * v))
section
variable {w v : Nat} {st : List S77} {co : List S82} (h : SP w v st co)
include h
theorem SP.those_l0 {t : List S77} (ht : TermOf (w : Int) (v : Int) t 2) (hw : Wd t) (d : Nat) : ∀ (j : Nat) (out : List Int), j + d = 2 ^ (w * v) → out.length ≤ j →
  Ev (fun k => QaF.l0 k t out (j : Int) (w : Int) (v : Int) st co) (out ++ whFrom w v t j d) := by
 have hp := h.pow
 have hM := h.many
 induction d with
 | zero => exact fun j out hj hl => ev_eq (Ev.step (f := fun _ => some out) (fun k => by simp only [QaF.l0]; rw [hM, Option.bind_some, if_neg (by omega)]) (Ev.now _)) (by simp [whFrom])
 | succ d ih =>
  intro j out hj hl
  refine Ev.step (fun k => by simp only [QaF.l0]; rw [hM, Option.bind_some, if_pos (by omega), wsucc (by omega)]) (Ev.bind (of_both h.w1 h.v1 h.m (by omega) st co).2 (Ev.bind (holds_spec st co ht hw (dig_sta h.w1 h.w2 j)) ?_))
  by_cases h1 : hold (w : Int) t (dig w v j) = true
  ·exact ev_pos h1 (ev_pos (by omega) (ev_eq (ih (j + 1) (out ++ [(j : Int)]) (by omega) (by simp; omega)) (by rw [whFrom, if_pos h1]; simp)))
  ·exact ev_neg h1 (ev_eq (ih (j + 1) out (by omega) (by omega)) (by rw [whFrom, if_neg h1]))
theorem SP.those {t : List S77} (ht : TermOf (w : Int) (v : Int) t 2) (hw : Wd t) : Ev (fun k => QaF.f k (w : Int) (v : Int) st co t) (whereS w v t) := h.those_l0 ht hw _ 0 [] (Nat.zero_add _) (Nat.le_refl _)
end
theorem l1Has_l0 (l : List Int) (x : Int) (hl : l.length ≤ 9223372036854775807) (d : Nat) : ∀ (j : Nat), j + d = l.length → Tells (fun k => QaI.l0 k x l (l.length : Int) (j : Int)) (x ∈ l.drop j) := by
 induction d with
 | zero => exact fun j hj => tells_step (f := fun _ => some false) (fun k => by simp only [QaI.l0]; rw [if_neg (by omega)]) (tells_no (by rw [List.drop_of_length_le (by omega)]; simp))
 | succ d ih =>
  intro j hj
  refine tells_step (fun k => by simp only [QaI.l0]; rw [if_pos (by omega), if_pos (by omega), if_pos (by omega), rd_nat, wsucc (by omega)]) ?_
  rw [drop_cons (show j < l.length by omega) 0]
  exact tells_if (fun h => tells_yes (by rw [h]; simp)) (fun h => tells_iff (ih (j + 1) (by omega)) (by rw [List.mem_cons]; exact ⟨fun g => .inr g, fun g => g.resolve_left (fun e => h e.symm)⟩))
theorem l1Has_tells (l : List Int) (x : Int) (hl : l.length ≤ 9223372036854775807) : Tells (fun k => QaI.f k l x) (x ∈ l) := by
 have := l1Has_l0 l x hl l.length 0 (by omega)
 rwa [List.drop_zero] at this
def Rise (l : List Int) : Prop := l.Pairwise (· < ·)
theorem rise_uniq : ∀ {a b : List Int}, Rise a → Rise b → (∀ x, x ∈ a ↔ x ∈ b) → a = b
 | [], [], _, _, _ => rfl
 | [], y :: t, _, _, h => by have := (h y).2 (by simp); simp at this
 | x :: s, [], _, _, h => by have := (h x).1 (by simp); simp at this
 | x :: s, y :: t, ha, hb, h => by
  obtain ⟨a1, a2⟩ := List.pairwise_cons.1 ha
  obtain ⟨b1, b2⟩ := List.pairwise_cons.1 hb
  have e : x = y := by
   rcases List.mem_cons.1 ((h x).1 (by simp)) with e | h1
   ·exact e
   ·rcases List.mem_cons.1 ((h y).2 (by simp)) with e | h2
    ·exact e.symm
    ·have := a1 y h2; have := b1 x h1; omega
  subst e
  congr 1
  refine rise_uniq a2 b2 (fun z => ⟨fun hz => ?_, fun hz => ?_⟩)
  ·rcases List.mem_cons.1 ((h z).1 (by simp [hz])) with e | h1
   ·have := a1 z hz; omega
   ·exact h1
  ·rcases List.mem_cons.1 ((h z).2 (by simp [hz])) with e | h1
   ·have := b1 z hz; omega
   ·exact h1
theorem rise_len : ∀ {l : List Int} {lo hi : Int}, Rise l → (∀ x ∈ l, lo ≤ x ∧ x < hi) → lo ≤ hi → (l.length : Int) ≤ hi - lo
 | [], _, _, _, _, h => by simp; omega
 | x :: t, lo, hi, hr, h, hl => by
  obtain ⟨h1, h2⟩ := List.pairwise_cons.1 hr
  have h3 := h x (by simp)
  have := rise_len (l := t) (lo := x + 1) (hi := hi) h2 (fun y hy => ⟨by have := h1 y hy; omega, (h y (by simp [hy])).2⟩) (by omega)
  simp only [List.length_cons]; omega
theorem rise_sub : ∀ {a b : List Int}, Rise a → Rise b → (∀ x ∈ a, x ∈ b) → a.length ≤ b.length ∧ (a.length = b.length → a = b)
 | [], b, _, _, _ => ⟨by simp, fun h => by cases b with | nil => rfl | cons _ _ => simp at h⟩
 | x :: s, [], _, _, h => by have := h x (by simp); simp at this
 | x :: s, y :: t, ha, hb, h => by
  obtain ⟨a1, a2⟩ := List.pairwise_cons.1 ha
  obtain ⟨b1, b2⟩ := List.pairwise_cons.1 hb
  rcases List.mem_cons.1 (h x (by simp)) with e | h1
  ·subst e
   obtain ⟨h2, h3⟩ := rise_sub a2 b2 (fun z hz => (List.mem_cons.1 (h z (by simp [hz]))).resolve_left (fun e => by have := a1 z hz; omega))
   exact ⟨by simp only [List.length_cons]; omega, fun e => by rw [h3 (by simpa using e)]⟩
  ·have h4 := b1 x h1
   obtain ⟨h2, h3⟩ := rise_sub ha b2 (fun z hz => (List.mem_cons.1 (h z hz)).resolve_left (fun e => by
    rcases List.mem_cons.1 hz with e2 | hz
    ·omega
    ·have := a1 z hz; omega))
   simp only [List.length_cons] at h2 ⊢
   exact ⟨by omega, fun e => by omega⟩
theorem compact_sorted {l : List Int} (hs : l.Pairwise (· ≤ ·)) : Rise (Go.Lib.compact l) ∧ ∀ x, x ∈ Go.Lib.compact l ↔ x ∈ l := by
 have at_ : ∀ j, j < l.length → l.toArray[j]! = l.getD j 0 := fun j hj => by
  rw [getElem!_pos _ j (by simpa using hj), getD_eq hj]; simp
 have mono : ∀ i j, i ≤ j → j < l.length → l.getD i 0 ≤ l.getD j 0 := fun i j h1 h2 => by
  rcases Nat.eq_or_lt_of_le h1 with e | e
  ·subst e; omega
  ·rw [getD_eq (by omega), getD_eq h2]
   exact List.pairwise_iff_getElem.1 hs i j (by omega) h2 e
 have keep : ∀ j, j < l.length → (Go.Lib.keeps l.toArray j = true ↔ j = 0 ∨ l.getD j 0 ≠ l.getD (j - 1) 0) := fun j hj => by
  unfold Go.Lib.keeps
  rw [decide_eq_true_iff, at_ j hj, at_ (j - 1) (by omega)]
 unfold Go.Lib.compact Go.Lib.compactUpTo
 refine ⟨List.pairwise_map.2 ?_, fun x => ⟨fun h => ?_, fun h => ?_⟩⟩
 ·have h1 : ((List.range l.length).filter (Go.Lib.keeps l.toArray)).Pairwise (· < ·) := List.Pairwise.filter _ List.pairwise_lt_range
  refine List.Pairwise.imp_of_mem (fun {a b} ha hb hab => ?_) h1
  obtain ⟨a1, _⟩ := List.mem_filter.1 ha
  obtain ⟨b1, b2⟩ := List.mem_filter.1 hb
  have a1 := List.mem_range.1 a1
  have b1 := List.mem_range.1 b1
  rw [at_ a a1, at_ b b1]
  have h2 := ((keep b b1).1 b2).resolve_left (by omega)
  have h3 := mono a (b - 1) (by omega) (by omega)
  have h4 := mono (b - 1) b (by omega) b1
  omega
 ·obtain ⟨j, hj, rfl⟩ := List.mem_map.1 h
  have hj := List.mem_range.1 (List.mem_filter.1 hj).1
  rw [at_ j hj]
  exact getD_mem hj 0
 ·obtain ⟨i, hi, rfl⟩ := List.getElem_of_mem h
  have least : ∀ (n i : Nat) (hi : i < l.length), i ≤ n → ∃ j, j < l.length ∧ l.getD j 0 = l.getD i 0 ∧ (j = 0 ∨ l.getD j 0 ≠ l.getD (j - 1) 0) := by
   intro n
   induction n with
   | zero => exact fun i hi h => ⟨i, hi, rfl, .inl (by omega)⟩
   | succ n ih =>
    intro i hi h
    by_cases h1 : i = 0 ∨ l.getD i 0 ≠ l.getD (i - 1) 0
    ·exact ⟨i, hi, rfl, h1⟩
    ·obtain ⟨j, h2, h3, h4⟩ := ih (i - 1) (by omega) (by omega)
     exact ⟨j, h2, by have : l.getD i 0 = l.getD (i - 1) 0 := Classical.byContradiction (fun g => h1 (.inr g)); omega, h4⟩
  obtain ⟨j, h2, h3, h4⟩ := least i i hi (Nat.le_refl _)
  refine List.mem_map.2 ⟨j, List.mem_filter.2 ⟨List.mem_range.2 h2, (keep j h2).2 h4⟩, ?_⟩
  rw [at_ j h2, h3, getD_eq hi]
theorem sort_compact (l : List Int) : Rise (Go.Lib.compact (l.mergeSort fun x y => decide (x ≤ y))) ∧ ∀ x, x ∈ Go.Lib.compact (l.mergeSort fun x y => decide (x ≤ y)) ↔ x ∈ l := by
 have hs : (l.mergeSort fun x y => decide (x ≤ y)).Pairwise (fun a b => decide (a ≤ b) = true) := List.pairwise_mergeSort (fun a b c h1 h2 => by simp only [decide_eq_true_eq] at *; omega) (fun a b => by simp only [Bool.or_eq_true, decide_eq_true_eq]; omega) l
 obtain ⟨h1, h2⟩ := compact_sorted (hs.imp (fun h => by simpa using h))
 exact ⟨h1, fun x => (h2 x).trans (List.mergeSort_perm l _).mem_iff⟩
def Rg (n : Nat) (l : List Int) : Prop := Rise l ∧ ∀ x ∈ l, 0 ≤ x ∧ x < (n : Int)
theorem Rg.len {n : Nat} {l : List Int} (h : Rg n l) : l.length ≤ n := by
 have := rise_len h.1 h.2 (by omega); omega
theorem Rg.nil (n : Nat) : Rg n [] := ⟨List.Pairwise.nil, by simp⟩
theorem Rg.uniq {n m : Nat} {a b : List Int} (h : Rg n a) (h' : Rg m b) (he : ∀ x, x ∈ a ↔ x ∈ b) : a = b := rise_uniq h.1 h'.1 he
theorem l1Put_l0 (l : List Int) (n : Int) (hr : Rise l) (hl : l.length ≤ 1048576) (d : Nat) : ∀ (j : Nat), j + d = l.length → (∀ i, i < j → l.getD i 0 < n) → ∃ r : List Int, Rise r ∧ (∀ x, x ∈ r ↔ x = n ∨ x ∈ l) ∧ Ev (fun k => QaD.l0 k l n (j : Int)) r := by
 have ins : ∀ j : Nat, j ≤ l.length → (∀ i, i < j → l.getD i 0 < n) → (∀ i, j ≤ i → i < l.length → n < l.getD i 0) → Rise (l.take j ++ [n] ++ l.drop j) ∧ ∀ x, x ∈ l.take j ++ [n] ++ l.drop j ↔ x = n ∨ x ∈ l := fun j hj h1 h2 => by
  refine ⟨?_, fun x => ?_⟩
  ·have t1 : ∀ x ∈ l.take j, x < n := fun x hx => by
    obtain ⟨i, hi, rfl⟩ := List.getElem_of_mem hx
    simp only [List.length_take] at hi
    have := h1 i (by omega)
    rw [getD_eq (by omega)] at this
    simpa using this
   have t2 : ∀ x ∈ l.drop j, n < x := fun x hx => by
    obtain ⟨i, hi, rfl⟩ := List.getElem_of_mem hx
    simp only [List.length_drop] at hi
    have := h2 (j + i) (by omega) (by omega)
    rw [getD_eq (by omega)] at this
    simpa using this
   refine List.pairwise_append.2 ⟨List.pairwise_append.2 ⟨List.Pairwise.sublist (List.take_sublist j l) hr, by simp, fun a ha b hb => by rw [List.mem_singleton.1 hb]; exact t1 a ha⟩, List.Pairwise.sublist (List.drop_sublist j l) hr, fun a ha b hb => ?_⟩
   have hb := t2 b hb
   rcases List.mem_append.1 ha with ha | ha
   ·have := t1 a ha; omega
   ·rw [List.mem_singleton.1 ha]; exact hb
  ·have : x ∈ l ↔ x ∈ l.take j ∨ x ∈ l.drop j := by rw [← List.mem_append, List.take_append_drop]
   simp only [List.mem_append, List.mem_singleton, this]
   constructor
   ·rintro ((h | h) | h)
    ·exact .inr (.inl h)
    ·exact .inl h
    ·exact .inr (.inr h)
   ·rintro (h | h | h)
    ·exact .inl (.inr h)
    ·exact .inl (.inl h)
    ·exact .inr h
 have tl : ∀ j : Nat, j ≤ l.length → (l.take j).length = j := fun j hj => by simp; omega
 have dl : ∀ j : Nat, (l.drop j).length = l.length - j := fun j => by simp
 induction d with
 | zero =>
  intro j hj h1
  obtain ⟨i1, i2⟩ := ins j (by omega) h1 (fun i h2 h3 => by omega)
  refine ⟨_, i1, i2, Ev.step (f := fun _ => some (l.take j ++ [n] ++ l.drop j)) (fun k => ?_) (Ev.now _)⟩
  simp only [QaD.l0, Option.bind_some, List.nil_append, List.length_nil, Int.toNat_natCast, List.length_append, List.length_singleton, tl j (by omega), dl]
  repeat (first | rw [if_pos (by omega)] | rw [if_neg (by omega)])
 | succ d ih =>
  intro j hj h1
  by_cases h2 : l.getD j 0 < n
  ·obtain ⟨r, r1, r2, r3⟩ := ih (j + 1) (by omega) (fun i hi => by
    rcases Nat.lt_or_ge i j with h3 | h3
    ·exact h1 i h3
    ·obtain rfl : i = j := by omega
     exact h2)
   exact ⟨r, r1, r2, Ev.step (fun k => by simp only [QaD.l0]; rw [if_pos (by omega), if_pos (by omega), rd_nat, if_pos h2, wsucc (by omega)]) r3⟩
  ·by_cases h3 : l.getD j 0 = n
   ·refine ⟨l, hr, fun x => ⟨fun h => .inr h, fun h => h.elim (fun e => by rw [e, ← h3]; exact getD_mem (by omega) 0) id⟩, Ev.step (f := fun _ => some l) (fun k => by simp only [QaD.l0]; rw [if_pos (by omega), if_pos (by omega), rd_nat, if_neg h2, if_pos h3]) (Ev.now _)⟩
   ·obtain ⟨i1, i2⟩ := ins j (by omega) h1 (fun i h4 h5 => by
     rcases Nat.eq_or_lt_of_le h4 with e | e
     ·subst e; omega
     ·have h6 := List.pairwise_iff_getElem.1 hr j i (by omega) h5 e
      rw [getD_eq (show j < l.length by omega)] at h2
      rw [getD_eq h5]; omega)
    refine ⟨_, i1, i2, Ev.step (f := fun _ => some (l.take j ++ [n] ++ l.drop j)) (fun k => ?_) (Ev.now _)⟩
    simp only [QaD.l0]
    rw [if_pos (by omega), if_pos (by omega), rd_nat, if_neg h2, if_neg h3]
    simp only [Option.bind_some, List.nil_append, List.length_nil, Int.toNat_natCast, List.length_append, List.length_singleton, tl j (by omega), dl]
    repeat (first | rw [if_pos (by omega)] | rw [if_neg (by omega)])
theorem l1Put_is (l : List Int) (n : Int) (hr : Rise l) (hl : l.length ≤ 1048576) : ∃ r : List Int, Rise r ∧ (∀ x, x ∈ r ↔ x = n ∨ x ∈ l) ∧ Ev (fun k => QaD.f k l n) r :=
 l1Put_l0 l n hr hl l.length 0 (by omega) (fun i hi => by omega)
theorem Rg.put {m : Nat} {l : List Int} {n : Int} (h : Rg m l) (hm : m ≤ 1048576) (h0 : 0 ≤ n) (h1 : n < (m : Int)) : ∃ r : List Int, Rg m r ∧ (∀ x, x ∈ r ↔ x = n ∨ x ∈ l) ∧ Ev (fun k => QaD.f k l n) r := by
 obtain ⟨r, r1, r2, r3⟩ := l1Put_is l n h.1 (by have := h.len; omega)
 refine ⟨r, ⟨r1, fun x hx => ?_⟩, r2, r3⟩
 rcases (r2 x).1 hx with rfl | h2
 ·exact ⟨h0, h1⟩
 ·exact h.2 x h2
theorem l1Own_eq (l : List Int) (h : l.length ≤ 1048576) : QbM.f l = some l := by
 simp only [QbM.f, Option.bind_some, List.nil_append, List.length_nil]
 rw [if_pos (by omega)]
theorem l8Union_l0 {m : Nat} (hm : m ≤ 1048576) {b : List Int} (hb : ∀ x ∈ b, 0 ≤ x ∧ x < (m : Int)) (hbl : b.length ≤ 1048576) (d : Nat) : ∀ (j : Nat) (o : List Int), j + d = b.length → Rg m o → ∃ r, Rg m r ∧ (∀ x, x ∈ r ↔ x ∈ o ∨ x ∈ b.drop j) ∧ Ev (fun k => QaJ.l0 k o b (b.length : Int) (j : Int)) r := by
 induction d with
 | zero => exact fun j o hj ho => ⟨o, ho, fun x => by rw [List.drop_of_length_le (by omega)]; simp, Ev.step (f := fun _ => some o) (fun k => by simp only [QaJ.l0]; rw [if_neg (by omega)]) (Ev.now _)⟩
 | succ d ih =>
  intro j o hj ho
  obtain ⟨h0, h1⟩ := hb _ (getD_mem (l := b) (j := j) (by omega) 0)
  obtain ⟨p, p1, p2, p3⟩ := ho.put hm h0 h1
  obtain ⟨r, r1, r2, r3⟩ := ih (j + 1) p (by omega) p1
  refine ⟨r, r1, fun x => ?_, Ev.step (fun k => by simp only [QaJ.l0]; rw [if_pos (by omega), if_pos (by omega), if_pos (by omega), rd_nat, wsucc (by omega)]) (Ev.bind p3 r3)⟩
  rw [r2, p2, drop_cons (show j < b.length by omega) 0, List.mem_cons]
  constructor
  ·rintro ((h | h) | h)
   ·exact .inr (.inl h)
   ·exact .inl h
   ·exact .inr (.inr h)
  ·rintro (h | h | h)
   ·exact .inl (.inr h)
   ·exact .inl (.inl h)
   ·exact .inr h
theorem l8Union_is {m : Nat} (hm : m ≤ 1048576) {a b : List Int} (ha : Rg m a) (hb : ∀ x ∈ b, 0 ≤ x ∧ x < (m : Int)) (hbl : b.length ≤ 1048576) : ∃ r, Rg m r ∧ (∀ x, x ∈ r ↔ x ∈ a ∨ x ∈ b) ∧ Ev (fun k => QaJ.f k a b) r := by
 obtain ⟨r, r1, r2, r3⟩ := l8Union_l0 hm hb hbl b.length 0 a (by omega) ha
 exact ⟨r, r1, by simpa using r2, Ev.bind (ev_const (l1Own_eq a (by have := ha.len; omega))) r3⟩
theorem l7Enabled_l0 {wi va : Int} {st : List S77} {co : List S82} (hG : Prg wi va st co) {s : List Int} (hs : Sta wi va s) (d : Nat) : ∀ (j : Nat) (out : List Int), j + d = co.length → out.length ≤ j →
  Ev (fun k => QaS.l0 k s out co (co.length : Int) (j : Int) wi va st co) (out ++ enFrom wi co s j d) := by
 have h6 := hG.1.2.1
 induction d with
 | zero => exact fun j out hj hl => ev_eq (Ev.step (f := fun _ => some out) (fun k => by simp only [QaS.l0]; rw [if_neg (by omega)]) (Ev.now _)) (by simp [enFrom])
 | succ d ih =>
  intro j out hj hl
  have er : rd_T82 co (j : Int) = co.getD j z82 := by simp [rd_T82]
  obtain ⟨w1, w2⟩ := hG.when (j := j) (by omega)
  refine Ev.step (fun k => by simp only [QaS.l0]; rw [if_pos (by omega), if_pos (by omega), if_pos (by omega), wsucc (by omega), er]) (Ev.bind (holds_spec st co w1 w2 hs) ?_)
  by_cases h : hold wi (co.getD j z82).f0 s = true
  ·exact ev_pos h (ev_pos (by omega) (ev_eq (ih (j + 1) (out ++ [(j : Int)]) (by omega) (by simp; omega)) (by rw [enFrom, if_pos h]; simp)))
  ·exact ev_neg h (ev_eq (ih (j + 1) out (by omega) (by omega)) (by rw [enFrom, if_neg h]))
theorem l7Enabled_ev {wi va : Int} {st : List S77} {co : List S82} (hG : Prg wi va st co) {s : List Int} (hs : Sta wi va s) : Ev (fun k => QaS.f k wi va st co s) (enab wi co s) :=
 l7Enabled_l0 hG hs co.length 0 [] (by omega) (Nat.le_refl _)
theorem cloneU64_eq (l : List Int) (h : l.length < 17592186044416) : QbH.f l = some l := by
 rw [QbH.f, if_pos h]
theorem l7Do_l0 {wi va : Int} (st : List S77) (co : List S82) {s : List Int} (hs : Sta wi va s) {l : List S100} (hl : l.length ≤ 1048576) (hc : ChAll wi va l) (d : Nat) : ∀ (j : Nat) (o : List Int), j + d = l.length → (o.length : Int) = va →
  Ev (fun k => QaB.l0 k s o l (l.length : Int) (j : Int) wi va st co) (aft wi s (l.drop j) o) := by
 induction d with
 | zero => exact fun j o hj ho => ev_eq (Ev.step (f := fun _ => some o) (fun k => by simp only [QaB.l0]; rw [if_neg (by omega)]) (Ev.now _)) (by rw [List.drop_of_length_le (by omega)]; rfl)
 | succ d ih =>
  intro j o hj ho
  have er : rd_T100 l (j : Int) = l.getD j z100 := by simp [rd_T100]
  obtain ⟨h1, h2, h3, h4⟩ := hc _ (getD_mem (l := l) (j := j) (by omega) z100)
  refine Ev.step (fun k => by simp only [QaB.l0]; rw [if_pos (by omega), if_pos (by omega), if_pos (by omega), wsucc (by omega), er]) ?_
  refine Ev.bind (value_is h3 h4 hs).2.1 (ev_pos h1 (ev_pos (by omega) ?_))
  refine ev_eq (ih (j + 1) _ (by omega) (by simpa using ho)) ?_
  rw [drop_cons (show j < l.length by omega) z100]; rfl
theorem after_l0 {wi va : Int} (st : List S77) (co : List S82) {s : List Int} (hs : Sta wi va s) {l : List S100} (hl : l.length ≤ 1048576) (hc : ChAll wi va l) (d : Nat) : ∀ (j : Nat) (o : List Int), j + d = l.length → (o.length : Int) = va →
  Ev (fun k => QaE.l0 k s o l (l.length : Int) (j : Int) wi va st co) (aft wi s (l.drop j) o) := by
 induction d with
 | zero => exact fun j o hj ho => ev_eq (Ev.step (f := fun _ => some o) (fun k => by simp only [QaE.l0]; rw [if_neg (by omega)]) (Ev.now _)) (by rw [List.drop_of_length_le (by omega)]; rfl)
 | succ d ih =>
  intro j o hj ho
  have er : rd_T100 l (j : Int) = l.getD j z100 := by simp [rd_T100]
  obtain ⟨h1, h2, h3, h4⟩ := hc _ (getD_mem (l := l) (j := j) (by omega) z100)
  refine Ev.step (fun k => by simp only [QaE.l0]; rw [if_pos (by omega), if_pos (by omega), if_pos (by omega), wsucc (by omega), er]) ?_
  refine Ev.bind (value_is h3 h4 hs).1 (ev_pos h1 (ev_pos (by omega) ?_))
  refine ev_eq (ih (j + 1) _ (by omega) (by simpa using ho)) ?_
  rw [drop_cons (show j < l.length by omega) z100]; rfl
theorem Prg.few {wi va : Int} {st : List S77} {co : List S82} (h : Prg wi va st co) {c : S82} (hc : c ∈ co) : c.f1.length ≤ 4 := by
 have h1 := h.1.1.2.1
 have h2 := changes_few (va := va) (by omega) (h.1.2.2 c hc).2
 omega
theorem l7Do_ev {wi va : Int} {st : List S77} {co : List S82} (h : Prg wi va st co) {s : List Int} (hs : Sta wi va s) {j : Nat} (hj : j < co.length) : Ev (fun k => QaB.f k wi va st co s (j : Int)) (aft wi s (co.getD j z82).f1 s) := by
 have h1 := h.1.1.2.1
 have h2 := hs.1.1
 have h3 := h.few (getD_mem hj z82)
 have er : rd_T82 co (j : Int) = co.getD j z82 := by simp [rd_T82]
 have e := l7Do_l0 st co hs (l := (co.getD j z82).f1) (by omega) (h.changes (getD_mem hj _)) _ 0 s (Nat.zero_add _) h2
 refine Ev.congr (fun k => by simp only [QaB.f, Option.bind_some, List.nil_append, List.length_nil]; rw [if_pos (by omega), if_pos (by omega), if_pos (by omega), er]; rfl) e
theorem after_ev {wi va : Int} {st : List S77} {co : List S82} (h : Prg wi va st co) {s : List Int} (hs : Sta wi va s) {j : Nat} (hj : j < co.length) : Ev (fun k => QaE.f k wi va st co (co.getD j z82).f0 (co.getD j z82).f1 s) (aft wi s (co.getD j z82).f1 s) := by
 have h1 := h.1.1.2.1
 have h2 := hs.1.1
 have h3 := h.few (getD_mem hj z82)
 exact Ev.bind (ev_const (cloneU64_eq s (by omega))) (after_l0 st co hs (l := (co.getD j z82).f1) (by omega) (h.changes (getD_mem hj _)) _ 0 s (Nat.zero_add _) h2)
theorem stateNo_same (st : List S77) (co : List S82) (w v : Int) : ∀ (k : Nat) (x5 : Int) (x8 : List Int) (x9 x10 : Int), QaK.l0 k x5 x8 x9 x10 w v st co = QaK.l0 k x5 x8 x9 x10 w v [] []
 | 0, x5, x8, x9, x10 => rfl
 | k + 1, x5, x8, x9, x10 => by simp only [QaK.l0, stateNo_same st co w v k]
theorem l7No_same (st : List S77) (co : List S82) (w v : Int) : ∀ (k : Nat) (x1 : List Int) (x5 x6 : Int), QaN.l0 k x1 x5 x6 w v st co = QaN.l0 k x1 x5 x6 w v [] []
 | 0, x1, x5, x6 => rfl
 | k + 1, x1, x5, x6 => by simp only [QaN.l0, l7No_same st co w v k]
def noGood (w v n : Nat) : Bool := decide (QaK.f 10 (w : Int) (v : Int) [] [] (dig w v n) = some (n : Int)) && decide (QaN.f 10 (w : Int) (v : Int) [] [] (dig w v n) = some (n : Int))
theorem nos_good : ∀ w, w < 6 → ∀ v, v < 6 → ∀ n, n < 32 → (1 ≤ w ∧ 1 ≤ v ∧ w * v ≤ 5 ∧ n < 2 ^ (w * v)) → noGood w v n = true := by
 decide +kernel
theorem no_both {w v n : Nat} (hw : 1 ≤ w) (hv : 1 ≤ v) (hm : w * v ≤ 5) (hn : n < 2 ^ (w * v)) (st : List S77) (co : List S82) :
  Ev (fun k => QaK.f k (w : Int) (v : Int) st co (dig w v n)) (n : Int) ∧ Ev (fun k => QaN.f k (w : Int) (v : Int) st co (dig w v n)) (n : Int) := by
 obtain ⟨h1, h2, h3⟩ := small_in hw hv hm hn
 have h := nos_good w h1 v h2 n h3 ⟨hw, hv, hm, hn⟩
 simp only [noGood, Bool.and_eq_true, decide_eq_true_eq] at h
 exact ⟨ev_mono ((stateNo_same st co _ _ 10 _ _ _ _).trans h.1) (fun k => QaK.mono _ _ _ _ _ k), ev_mono ((l7No_same st co _ _ 10 _ _ _).trans h.2) (fun k => QaN.mono _ _ _ _ _ k)⟩
noncomputable def nxt' (w v : Nat) (co : List S82) (n i : Nat) : Nat := undig w (aft (w : Int) (dig w v n) (co.getD i z82).f1 (dig w v n))
noncomputable def can (w v : Nat) (co : List S82) (n i : Nat) : Prop := hold (w : Int) (co.getD i z82).f0 (dig w v n) = true
def Nx (w v : Nat) (co : List S82) (n : Nat) (x : Int) : Prop := (∃ i, i < co.length ∧ can w v co n i ∧ x = (nxt' w v co n i : Int)) ∨ (x = (n : Int) ∧ ∀ i, i < co.length → ¬ can w v co n i)
section
variable {w v : Nat} {st : List S77} {co : List S82} (h : SP w v st co)
include h
theorem SP.nxt_in (n : Nat) {i : Nat} (hi : i < co.length) : nxt' w v co n i < 2 ^ (w * v) ∧ aft (w : Int) (dig w v n) (co.getD i z82).f1 (dig w v n) = dig w v (nxt' w v co n i) := by
 have hS := dig_sta (v := v) h.w1 h.w2 n
 have hA := aft_sta hS (co.getD i z82).f1 _ (h.prg.changes (getD_mem hi _)) hS
 obtain ⟨h3, h4⟩ := dig_undig w _ (fun a ha => ⟨hA.2 a ha, (gw_dig h.w1 h.w2 a).1 (hA.1.2 a ha)⟩)
 have hl : (aft (w : Int) (dig w v n) (co.getD i z82).f1 (dig w v n)).length = v := by have := hA.1.1; omega
 rw [hl] at h3 h4
 exact ⟨h4, h3.symm⟩
theorem SP.nx_in {n : Nat} (hn : n < 2 ^ (w * v)) {x : Int} (hx : Nx w v co n x) : 0 ≤ x ∧ x < ((2 ^ (w * v) : Nat) : Int) := by
 rcases hx with ⟨i, hi, _, rfl⟩ | ⟨rfl, _⟩
 ·have := (h.nxt_in n hi).1; omega
 ·omega
end
noncomputable def nextS (w v : Nat) (co : List S82) (n : Nat) : List Int := ((List.range (2 ^ (w * v))).map (fun i : Nat => (i : Int))).filter (fun x => @decide (Nx w v co n x) (Classical.propDecidable _))
theorem SP.mem_nextS {w v : Nat} {st : List S77} {co : List S82} (h : SP w v st co) {n : Nat} (hn : n < 2 ^ (w * v)) (x : Int) : x ∈ nextS w v co n ↔ Nx w v co n x := by
 unfold nextS
 rw [List.mem_filter, @decide_eq_true_iff _ (Classical.propDecidable _)]
 refine ⟨fun g => g.2, fun g => ⟨?_, g⟩⟩
 have := h.nx_in hn g
 exact List.mem_map.2 ⟨x.toNat, List.mem_range.2 (by omega), by omega⟩
theorem nextS_rg (w v : Nat) (co : List S82) (n : Nat) : Rg (2 ^ (w * v)) (nextS w v co n) := by
 refine ⟨List.Pairwise.filter _ (List.pairwise_map.2 (List.pairwise_lt_range.imp (fun h => by omega))), fun x hx => ?_⟩
 obtain ⟨i, hi, rfl⟩ := List.mem_map.1 (List.mem_filter.1 hx).1
 have := List.mem_range.1 hi
 omega
theorem SP.l8Next_l0 {w v : Nat} {st : List S77} {co : List S82} (h : SP w v st co) {n : Nat} (hn : n < 2 ^ (w * v)) {en : List Int} (he : ∀ x ∈ en, ∃ i : Nat, x = i ∧ i < co.length) (hel : en.length ≤ 6) (d : Nat) : ∀ (j : Nat) (o : List Int), j + d = en.length → Rg (2 ^ (w * v)) o →
  ∃ r, Rg (2 ^ (w * v)) r ∧ (∀ x, x ∈ r ↔ (x ∈ o ∨ ∃ i : Nat, (i : Int) ∈ en.drop j ∧ x = (nxt' w v co n i : Int)) ∨ (x = (n : Int) ∧ o = [] ∧ en.drop j = [])) ∧ Ev (fun k => Qar.l0 k (n : Int) (dig w v n) o en (en.length : Int) (j : Int) (w : Int) (v : Int) st co) r := by
 have hp := h.pow
 induction d with
 | zero =>
  intro j o hj ho
  rw [List.drop_of_length_le (by omega)]
  by_cases h0 : o = []
  ·subst h0
   refine ⟨[(n : Int)], ⟨by simp [Rise], fun y hy => by rw [List.mem_singleton.1 hy]; omega⟩, fun x => by simp, Ev.step (f := fun _ => some [(n : Int)]) (fun k => by simp only [Qar.l0]; rw [if_neg (by omega), if_pos (by simp)]) (Ev.now _)⟩
  ·have hl : 0 < o.length := List.length_pos_iff.2 h0
   exact ⟨o, ho, fun x => by simp [h0], Ev.step (f := fun _ => some o) (fun k => by simp only [Qar.l0]; rw [if_neg (by omega), if_neg (by omega)]) (Ev.now _)⟩
 | succ d ih =>
  intro j o hj ho
  obtain ⟨i, e, hi⟩ := he _ (getD_mem (l := en) (j := j) (by omega) 0)
  obtain ⟨n1, n2⟩ := h.nxt_in n hi
  obtain ⟨p, p1, p2, p3⟩ := ho.put (by omega) (n := (nxt' w v co n i : Int)) (by omega) (by omega)
  obtain ⟨r, r1, r2, r3⟩ := ih (j + 1) p (by omega) p1
  have hd := l7Do_ev h.prg (dig_sta (v := v) h.w1 h.w2 n) hi
  rw [n2] at hd
  have hpn : p ≠ [] := fun g => by have := (p2 (nxt' w v co n i : Int)).2 (.inl rfl); rw [g] at this; simp at this
  have hdr : en.drop j = (i : Int) :: en.drop (j + 1) := by rw [drop_cons (show j < en.length by omega) 0, e]
  refine ⟨r, r1, fun x => ?_, ?_⟩
  ·rw [r2, p2, hdr]
   constructor
   ·rintro (((g | g) | ⟨i', g1, g2⟩) | ⟨_, g, _⟩)
    ·exact .inl (.inr ⟨i, by simp, g⟩)
    ·exact .inl (.inl g)
    ·exact .inl (.inr ⟨i', by simp [g1], g2⟩)
    ·exact absurd g hpn
   ·rintro ((g | ⟨i', g1, g2⟩) | ⟨_, _, g⟩)
    ·exact .inl (.inl (.inr g))
    ·rcases List.mem_cons.1 g1 with g1 | g1
     ·have : i' = i := by omega
      subst this
      exact .inl (.inl (.inl g2))
     ·exact .inl (.inr ⟨i', g1, g2⟩)
    ·simp at g
  ·refine Ev.step (fun k => by simp only [Qar.l0]; rw [if_pos (by omega), if_pos (by omega), if_pos (by omega), rd_nat, e, wsucc (by omega)]) ?_
   exact Ev.bind hd (Ev.bind (no_both h.w1 h.v1 h.m n1 st co).2 (Ev.bind p3 r3))
theorem SP.l8Next {w v : Nat} {st : List S77} {co : List S82} (h : SP w v st co) {n : Nat} (hn : n < 2 ^ (w * v)) : Ev (fun k => Qar.f k (w : Int) (v : Int) st co (n : Int)) (nextS w v co n) := by
 have hS := dig_sta (v := v) h.w1 h.w2 n
 have hen : ∀ x, x ∈ enab (w : Int) co (dig w v n) ↔ ∃ i : Nat, x = i ∧ i < co.length ∧ can w v co n i := fun x => by
  unfold enab can
  rw [mem_enFrom]
  exact ⟨fun ⟨i, h1, _, h2, h3⟩ => ⟨i, h1, by omega, h3⟩, fun ⟨i, h1, h2, h3⟩ => ⟨i, h1, Nat.zero_le _, by omega, h3⟩⟩
 obtain ⟨r, r1, r2, r3⟩ := h.l8Next_l0 hn (en := enab (w : Int) co (dig w v n)) (fun x hx => by
  obtain ⟨i, h1, h2, _⟩ := (hen x).1 hx
  exact ⟨i, h1, h2⟩) (by have := enFrom_length (w : Int) co (dig w v n) co.length 0; have := h.prg.1.2.1; unfold enab; omega) _ 0 [] (Nat.zero_add _) (Rg.nil _)
 have e : r = nextS w v co n := by
  refine r1.uniq (nextS_rg w v co n) (fun x => ?_)
  rw [r2, h.mem_nextS hn, List.drop_zero]
  unfold Nx
  constructor
  ·rintro ((g | ⟨i, g1, g2⟩) | ⟨g1, _, g2⟩)
   ·simp at g
   ·obtain ⟨i', e1, g3, g4⟩ := (hen _).1 g1
    have : i = i' := by omega
    subst this
    exact .inl ⟨i, g3, g4, g2⟩
   ·exact .inr ⟨g1, fun i hi hc => by have := (hen (i : Int)).2 ⟨i, rfl, hi, hc⟩; rw [g2] at this; simp at this⟩
  ·rintro (⟨i, g1, g2, g3⟩ | ⟨g1, g2⟩)
   ·exact .inl (.inr ⟨i, (hen _).2 ⟨i, rfl, g1, g2⟩, g3⟩)
   ·refine .inr ⟨g1, rfl, List.eq_nil_iff_forall_not_mem.2 (fun x hx => ?_)⟩
    obtain ⟨i, _, g3, g4⟩ := (hen x).1 hx
    exact g2 i g3 g4
 rw [← e]
 exact Ev.bind (of_both h.w1 h.v1 h.m hn st co).2 (Ev.bind (l7Enabled_ev h.prg hS) r3)
theorem SP.l8After_l1 {w v : Nat} {st : List S77} {co : List S82} (h : SP w v st co) {so : List Int} {i : Nat} {t : List Int} (ht : Rg (2 ^ (w * v)) t) (hi : i < so.length) (hsl : so.length ≤ 1048576) (d : Nat) : ∀ (j : Nat) (o : List Int), j + d = t.length → Rg (2 ^ (w * v)) o →
  ∃ p, Rg (2 ^ (w * v)) p ∧ (∀ x, x ∈ p ↔ x ∈ o ∨ x ∈ t.drop j) ∧ ∀ r, Ev (fun k => Qak.l0 k p so (so.length : Int) ((i + 1 : Nat) : Int) (w : Int) (v : Int) st co) r → Ev (fun k => Qak.l1 k o so (so.length : Int) (i : Int) t (t.length : Int) (j : Int) (w : Int) (v : Int) st co) r := by
 have hp := h.pow
 have htl := ht.len
 induction d with
 | zero => exact fun j o hj ho => ⟨o, ho, fun x => by rw [List.drop_of_length_le (by omega)]; simp, fun r hr => Ev.step (fun k => by simp only [Qak.l1]; rw [if_neg (by omega), wsucc (by omega)]) hr⟩
 | succ d ih =>
  intro j o hj ho
  obtain ⟨h0, h1⟩ := ht.2 _ (getD_mem (l := t) (j := j) (by omega) 0)
  obtain ⟨q, q1, q2, q3⟩ := ho.put (by omega) h0 h1
  obtain ⟨p, p1, p2, p3⟩ := ih (j + 1) q (by omega) q1
  refine ⟨p, p1, fun x => ?_, fun r hr => Ev.step (fun k => by simp only [Qak.l1]; rw [if_pos (by omega), if_pos (by omega), if_pos (by omega), rd_nat, wsucc (by omega)]) (Ev.bind q3 (p3 r hr))⟩
  rw [p2, q2, drop_cons (show j < t.length by omega) 0, List.mem_cons]
  constructor
  ·rintro ((h | h) | h)
   ·exact .inr (.inl h)
   ·exact .inl h
   ·exact .inr (.inr h)
  ·rintro (h | h | h)
   ·exact .inl (.inr h)
   ·exact .inl (.inl h)
   ·exact .inr h
theorem SP.l8After_l0 {w v : Nat} {st : List S77} {co : List S82} (h : SP w v st co) {so : List Int} (hso : ∀ x ∈ so, 0 ≤ x ∧ x < ((2 ^ (w * v) : Nat) : Int)) (hsl : so.length ≤ 1048576) (d : Nat) : ∀ (i : Nat) (o : List Int), i + d = so.length → Rg (2 ^ (w * v)) o →
  ∃ r, Rg (2 ^ (w * v)) r ∧ (∀ x, x ∈ r ↔ x ∈ o ∨ ∃ u : Nat, (u : Int) ∈ so.drop i ∧ x ∈ nextS w v co u) ∧ Ev (fun k => Qak.l0 k o so (so.length : Int) (i : Int) (w : Int) (v : Int) st co) r := by
 induction d with
 | zero => exact fun i o hi ho => ⟨o, ho, fun x => by rw [List.drop_of_length_le (by omega)]; simp, Ev.step (f := fun _ => some o) (fun k => by simp only [Qak.l0]; rw [if_neg (by omega)]) (Ev.now _)⟩
 | succ d ih =>
  intro i o hi ho
  obtain ⟨h0, h1⟩ := hso _ (getD_mem (l := so) (j := i) (by omega) 0)
  obtain ⟨u, hu⟩ := Int.eq_ofNat_of_zero_le h0
  have hun : u < 2 ^ (w * v) := by omega
  obtain ⟨p, p1, p2, p3⟩ := h.l8After_l1 (so := so) (i := i) (nextS_rg w v co u) (by omega) hsl _ 0 o (Nat.zero_add _) ho
  obtain ⟨r, r1, r2, r3⟩ := ih (i + 1) p (by omega) p1
  refine ⟨r, r1, fun x => ?_, Ev.step (fun k => by simp only [Qak.l0]; rw [if_pos (by omega), if_pos (by omega), if_pos (by omega), rd_nat, hu]) (Ev.bind (h.l8Next hun) (p3 r r3))⟩
  rw [r2, p2, List.drop_zero, drop_cons (show i < so.length by omega) 0, hu]
  constructor
  ·rintro ((g | g) | ⟨y, g1, g2⟩)
   ·exact .inl g
   ·exact .inr ⟨u, by simp, g⟩
   ·exact .inr ⟨y, by simp [g1], g2⟩
  ·rintro (g | ⟨y, g1, g2⟩)
   ·exact .inl (.inl g)
   ·rcases List.mem_cons.1 g1 with g1 | g1
    ·have : y = u := by omega
     subst this
     exact .inl (.inr g2)
    ·exact .inr ⟨y, g1, g2⟩
theorem SP.l8After {w v : Nat} {st : List S77} {co : List S82} (h : SP w v st co) {so : List Int} (hso : ∀ x ∈ so, 0 ≤ x ∧ x < ((2 ^ (w * v) : Nat) : Int)) (hsl : so.length ≤ 1048576) :
  ∃ r, Rg (2 ^ (w * v)) r ∧ (∀ x, x ∈ r ↔ ∃ u : Nat, (u : Int) ∈ so ∧ x ∈ nextS w v co u) ∧ Ev (fun k => Qak.f k (w : Int) (v : Int) st co so) r := by
 obtain ⟨r, r1, r2, r3⟩ := h.l8After_l0 hso hsl _ 0 [] (Nat.zero_add _) (Rg.nil _)
 exact ⟨r, r1, fun x => by rw [r2]; simp, r3⟩
theorem SP.nextOf_l0 {w v : Nat} {st : List S77} {co : List S82} (h : SP w v st co) {n : Nat} (hn : n < 2 ^ (w * v)) (d : Nat) : ∀ (j : Nat) (o : List Int), j + d = co.length → o.length ≤ j → (∀ x ∈ o, 0 ≤ x ∧ x < ((2 ^ (w * v) : Nat) : Int)) →
  ∃ r, Rg (2 ^ (w * v)) r ∧ (∀ x, x ∈ r ↔ (x ∈ o ∨ ∃ i, j ≤ i ∧ i < co.length ∧ can w v co n i ∧ x = (nxt' w v co n i : Int)) ∨ (x = (n : Int) ∧ o = [] ∧ ∀ i, j ≤ i → i < co.length → ¬ can w v co n i)) ∧ Ev (fun k => Qaw.l0 k (n : Int) (dig w v n) o co (co.length : Int) (j : Int) (w : Int) (v : Int) st co) r := by
 have h6 := h.prg.1.2.1
 induction d with
 | zero =>
  intro j o hj hl ho
  by_cases h0 : o = []
  ·subst h0
   exact ⟨[(n : Int)], ⟨by simp [Rise], fun y hy => by rw [List.mem_singleton.1 hy]; omega⟩, fun x => by
    simp only [List.mem_singleton, List.not_mem_nil, false_or]
    exact ⟨fun g => .inr ⟨g, trivial, fun i h1 h2 => by omega⟩, fun g => g.elim (fun ⟨i, h1, h2, _⟩ => by omega) (fun g => g.1)⟩, Ev.step (f := fun _ => some [(n : Int)]) (fun k => by simp only [Qaw.l0]; rw [if_neg (by omega), if_pos (by simp)]) (Ev.now _)⟩
  ·have hl0 : 0 < o.length := List.length_pos_iff.2 h0
   obtain ⟨s1, s2⟩ := sort_compact o
   have e1 : QbK.f o = some (o.mergeSort fun x y => decide (x ≤ y)) := by rw [QbK.f, if_pos (by omega)]
   have e2 : QbI.f (o.mergeSort fun x y => decide (x ≤ y)) = some (Go.Lib.compact (o.mergeSort fun x y => decide (x ≤ y))) := by rw [QbI.f, if_pos (by rw [List.length_mergeSort]; omega)]
   refine ⟨Go.Lib.compact (o.mergeSort fun x y => decide (x ≤ y)), ⟨s1, fun x hx => ho x ((s2 x).1 hx)⟩, fun x => (s2 x).trans ⟨fun g => .inl (.inl g), fun g => ?_⟩, Ev.step (f := fun _ => some (Go.Lib.compact (o.mergeSort fun x y => decide (x ≤ y)))) (fun k => by simp only [Qaw.l0]; rw [if_neg (by omega), if_neg (by omega), e1, Option.bind_some, e2, Option.bind_some]) (Ev.now _)⟩
   rcases g with (g | ⟨i, g1, g2, _⟩) | ⟨_, g, _⟩
   ·exact g
   ·omega
   ·exact absurd g h0
 | succ d ih =>
  intro j o hj hl ho
  have hjl : j < co.length := by omega
  obtain ⟨w1, w2⟩ := h.prg.when hjl
  have er : rd_T82 co (j : Int) = co.getD j z82 := by simp [rd_T82]
  obtain ⟨n1, n2⟩ := h.nxt_in n hjl
  have hS := dig_sta (v := v) h.w1 h.w2 n
  have hh := holds_impl st co w1 w2 hS
  by_cases hc : hold (w : Int) (co.getD j z82).f0 (dig w v n) = true
  ·obtain ⟨r, r1, r2, r3⟩ := ih (j + 1) (o ++ [(nxt' w v co n j : Int)]) (by omega) (by simp; omega) (fun x hx => by
    rcases List.mem_append.1 hx with hx | hx
    ·exact ho x hx
    ·rw [List.mem_singleton.1 hx]; omega)
   have ha := after_ev h.prg hS hjl
   rw [n2] at ha
   refine ⟨r, r1, fun x => ?_, Ev.step (fun k => by simp only [Qaw.l0]; rw [if_pos (by omega), if_pos (by omega), if_pos (by omega), wsucc (by omega), er]) ?_⟩
   ·rw [r2]
    simp only [List.mem_append, List.mem_singleton]
    constructor
    ·rintro (((g | g) | ⟨i, g1, g2, g3, g4⟩) | ⟨_, g, _⟩)
     ·exact .inl (.inl g)
     ·exact .inl (.inr ⟨j, Nat.le_refl _, hjl, hc, g⟩)
     ·exact .inl (.inr ⟨i, by omega, g2, g3, g4⟩)
     ·simp at g
    ·rintro ((g | ⟨i, g1, g2, g3, g4⟩) | ⟨_, _, g⟩)
     ·exact .inl (.inl (.inl g))
     ·rcases Nat.eq_or_lt_of_le g1 with e | e
      ·subst e; exact .inl (.inl (.inr g4))
      ·exact .inl (.inr ⟨i, e, g2, g3, g4⟩)
     ·exact absurd hc (g j (Nat.le_refl _) hjl)
   ·exact Ev.bind hh (ev_pos hc (Ev.bind ha (Ev.bind (no_both h.w1 h.v1 h.m n1 st co).1 (ev_pos (by omega) r3))))
  ·obtain ⟨r, r1, r2, r3⟩ := ih (j + 1) o (by omega) (by omega) ho
   refine ⟨r, r1, fun x => ?_, Ev.step (fun k => by simp only [Qaw.l0]; rw [if_pos (by omega), if_pos (by omega), if_pos (by omega), wsucc (by omega), er]) (Ev.bind hh (ev_neg hc r3))⟩
   rw [r2]
   constructor
   ·rintro ((g | ⟨i, g1, g2, g3, g4⟩) | ⟨g1, g2, g3⟩)
    ·exact .inl (.inl g)
    ·exact .inl (.inr ⟨i, by omega, g2, g3, g4⟩)
    ·exact .inr ⟨g1, g2, fun i h1 h2 => by
      rcases Nat.eq_or_lt_of_le h1 with e | e
      ·subst e; exact hc
      ·exact g3 i e h2⟩
   ·rintro ((g | ⟨i, g1, g2, g3, g4⟩) | ⟨g1, g2, g3⟩)
    ·exact .inl (.inl g)
    ·rcases Nat.eq_or_lt_of_le g1 with e | e
     ·subst e; exact absurd g3 hc
     ·exact .inl (.inr ⟨i, e, g2, g3, g4⟩)
    ·exact .inr ⟨g1, g2, fun i h1 h2 => g3 i (by omega) h2⟩
theorem SP.nextOf {w v : Nat} {st : List S77} {co : List S82} (h : SP w v st co) {n : Nat} (hn : n < 2 ^ (w * v)) : Ev (fun k => Qaw.f k (w : Int) (v : Int) st co (n : Int)) (nextS w v co n) := by
 obtain ⟨r, r1, r2, r3⟩ := h.nextOf_l0 hn _ 0 [] (Nat.zero_add _) (Nat.le_refl _) (by simp)
 have e : r = nextS w v co n := by
  refine r1.uniq (nextS_rg w v co n) (fun x => ?_)
  rw [r2, h.mem_nextS hn]
  unfold Nx
  simp only [List.not_mem_nil, false_or, Nat.zero_le, true_and, forall_const]
 rw [← e]
 exact Ev.bind (of_both h.w1 h.v1 h.m hn st co).1 r3
def Arr (g : List (List Int)) : Prop := ∀ x ∈ g, x.length ≤ 1048576 ∧ ∀ w ∈ x, 0 ≤ w ∧ w < (g.length : Int)
def Walk (g : List (List Int)) (fr : List Int) : Nat → Int → Prop
 | 0, v => v ∈ fr
 | n + 1, v => ∃ u : Nat, u < g.length ∧ Walk g fr n (u : Int) ∧ v ∈ g.getD u []
def Reach (g : List (List Int)) (fr : List Int) (v : Int) : Prop := ∃ n, Walk g fr n v
theorem Walk.in_ {g : List (List Int)} {fr : List Int} (ha : Arr g) (hf : ∀ v ∈ fr, 0 ≤ v ∧ v < (g.length : Int)) : ∀ {n : Nat} {v : Int}, Walk g fr n v → 0 ≤ v ∧ v < (g.length : Int)
 | 0, v, h => hf v h
 | n + 1, v, ⟨u, hu, _, hv⟩ => (ha _ (getD_mem hu [])).2 v hv
def negs (l : List Int) : Nat := l.countP (fun x => decide (x < 0))
theorem getD_set' {l : List Int} {i j : Nat} {x d : Int} : (l.set i x).getD j d = if i = j ∧ j < l.length then x else l.getD j d := by
 simp only [List.getD_eq_getElem?_getD, List.getElem?_set]
 by_cases h : i = j
 ·subst h
  by_cases h2 : i < l.length
  ·simp [h2]
  ·simp [h2]
 ·simp [h]
theorem negs_set {l : List Int} {i : Nat} {x : Int} (hi : i < l.length) (h : l.getD i 0 < 0) (hx : 0 ≤ x) : negs (l.set i x) + 1 = negs l := by
 have e : l.getD i 0 = l[i] := getD_eq hi 0
 rw [e] at h
 have h1 : 0 < l.countP (fun x => decide (x < 0)) := List.countP_pos_iff.2 ⟨l[i], List.getElem_mem hi, by simpa using h⟩
 unfold negs
 rw [List.countP_set hi]
 simp only [h, show ¬ x < 0 by omega, decide_true, decide_false, if_true]
 simp only [Bool.false_eq_true, if_false]
 omega
structure Bfs (g : List (List Int)) (fr : List Int) (N : Nat) (c : Int) (st q : List Int) : Prop where
 len : st.length = g.length
 lo : ∀ x ∈ st, -1 ≤ x
 hi : ∀ x ∈ st, x ≤ c
 ok : ∀ v ∈ q, 0 ≤ v ∧ v < (g.length : Int) ∧ 0 ≤ st.getD v.toNat 0
 sum : negs st + q.length ≤ N
 way : ∀ v : Nat, v < g.length → 0 ≤ st.getD v 0 → Walk g fr (st.getD v 0).toNat v
 start : ∀ v ∈ fr, st.getD v.toNat 0 = 0
 shut : ∀ v : Nat, v < g.length → 0 ≤ st.getD v 0 → (v : Int) ∉ q → ∀ w ∈ g.getD v [], 0 ≤ st.getD w.toNat 0 ∧ st.getD w.toNat 0 ≤ st.getD v 0 + 1
 mono : q.Pairwise fun a b => st.getD a.toNat 0 ≤ st.getD b.toNat 0
 top : ∀ a ∈ q, ∀ x ∈ st, x ≤ st.getD a.toNat 0 + 1
structure Dist (g : List (List Int)) (fr : List Int) (st : List Int) : Prop where
 len : st.length = g.length
 lo : ∀ x ∈ st, -1 ≤ x
 few : ∀ x ∈ st, x ≤ 4194304
 way : ∀ v : Nat, v < g.length → 0 ≤ st.getD v 0 → Walk g fr (st.getD v 0).toNat v
 least : ∀ (n : Nat) (v : Nat), v < g.length → Walk g fr n v → 0 ≤ st.getD v 0 ∧ st.getD v 0 ≤ n
theorem Bfs.done {g : List (List Int)} {fr : List Int} {N : Nat} {c : Int} {st : List Int} (h : Bfs g fr N c st []) (hc : c ≤ 4194304) : Dist g fr st := by
 refine ⟨h.len, h.lo, fun x hx => by have := h.hi x hx; omega, h.way, fun n => ?_⟩
 induction n with
 | zero =>
  intro v hv hw
  have := h.start v hw
  rw [Int.toNat_natCast] at this
  omega
 | succ n ih =>
  intro v hv ⟨u, hu, h1, h2⟩
  obtain ⟨h3, h4⟩ := ih u hu h1
  have := h.shut u hu h3 (by simp) v h2
  rw [Int.toNat_natCast] at this
  omega
structure Mid (g : List (List Int)) (fr : List Int) (N : Nat) (c : Int) (v j : Nat) (st q : List Int) : Prop where
 len : st.length = g.length
 lo : ∀ x ∈ st, -1 ≤ x
 hi : ∀ x ∈ st, x ≤ c
 ok : ∀ v ∈ q, 0 ≤ v ∧ v < (g.length : Int) ∧ 0 ≤ st.getD v.toNat 0
 sum : negs st + q.length ≤ N
 way : ∀ v : Nat, v < g.length → 0 ≤ st.getD v 0 → Walk g fr (st.getD v 0).toNat v
 start : ∀ v ∈ fr, st.getD v.toNat 0 = 0
 shut : ∀ u : Nat, u < g.length → 0 ≤ st.getD u 0 → u ≠ v → (u : Int) ∉ q → ∀ w ∈ g.getD u [], 0 ≤ st.getD w.toNat 0 ∧ st.getD w.toNat 0 ≤ st.getD u 0 + 1
 mono : q.Pairwise fun a b => st.getD a.toNat 0 ≤ st.getD b.toNat 0
 top : ∀ x ∈ st, x ≤ st.getD v 0 + 1
 ge : ∀ a ∈ q, st.getD v 0 ≤ st.getD a.toNat 0
 vin : v < g.length
 v0 : 0 ≤ st.getD v 0
 part : ∀ i, i < j → i < (g.getD v []).length → 0 ≤ st.getD ((g.getD v []).getD i 0).toNat 0
theorem Bfs.mid {g : List (List Int)} {fr : List Int} {N : Nat} {c : Int} {st q : List Int} {v : Nat} (h : Bfs g fr (N + 1) c st ((v : Int) :: q)) : Mid g fr N c v 0 st q := by
 obtain ⟨h1, h2, h3⟩ := h.ok v (by simp)
 rw [Int.toNat_natCast] at h3
 obtain ⟨m1, m2⟩ := List.pairwise_cons.1 h.mono
 have hs := h.sum
 simp only [List.length_cons] at hs
 exact ⟨h.len, h.lo, h.hi, fun x hx => h.ok x (by simp [hx]), by omega, h.way, h.start, fun u hu h0 hne hq => h.shut u hu h0 (fun g => by
  rcases List.mem_cons.1 g with e | e
  ·exact hne (by omega)
  ·exact hq e), m2, fun x hx => by have := h.top v (by simp) x hx; rwa [Int.toNat_natCast] at this, fun a ha => by have := m1 a ha; rwa [Int.toNat_natCast] at this, by omega, h3, fun i hi => by omega⟩
theorem Mid.skip {g : List (List Int)} {fr : List Int} {N : Nat} {c : Int} {st q : List Int} {v j : Nat} (h : Mid g fr N c v j st q) (hn : 0 ≤ st.getD ((g.getD v []).getD j 0).toNat 0) : Mid g fr N c v (j + 1) st q := by
 refine ⟨h.len, h.lo, h.hi, h.ok, h.sum, h.way, h.start, h.shut, h.mono, h.top, h.ge, h.vin, h.v0, fun i h1 h2 => ?_⟩
 rcases Nat.lt_or_ge i j with h3 | h3
 ·exact h.part i h3 h2
 ·obtain rfl : i = j := by omega
  exact hn
theorem Mid.put {g : List (List Int)} {fr : List Int} {N : Nat} {c : Int} {st q : List Int} {v j w : Nat} (h : Mid g fr N c v j st q) (hj : j < (g.getD v []).length) (hw : (g.getD v []).getD j 0 = (w : Int)) (hwl : w < g.length) (hn : st.getD w 0 < 0) (hc : st.getD v 0 + 1 ≤ c) :
  Mid g fr N c v (j + 1) (st.set w (st.getD v 0 + 1)) (q ++ [(w : Int)]) := by
 have hl := h.len
 have hwv : w ≠ v := fun e => by subst e; have := h.v0; omega
 have hv0 := h.v0
 have keep : ∀ x : Nat, x ≠ w → (st.set w (st.getD v 0 + 1)).getD x 0 = st.getD x 0 := fun x hx => by
  rw [getD_set', if_neg (fun g => hx g.1.symm)]
 have new : (st.set w (st.getD v 0 + 1)).getD w 0 = st.getD v 0 + 1 := by rw [getD_set', if_pos ⟨rfl, by omega⟩]
 have old : ∀ x : Nat, 0 ≤ st.getD x 0 → (st.set w (st.getD v 0 + 1)).getD x 0 = st.getD x 0 := fun x hx => keep x (fun e => by subst e; omega)
 have hq : ∀ a ∈ q, (st.set w (st.getD v 0 + 1)).getD a.toNat 0 = st.getD a.toNat 0 := fun a ha => old _ (h.ok a ha).2.2
 refine ⟨by simpa using hl, fun x hx => ?_, fun x hx => ?_, fun x hx => ?_, ?_, fun x hx h0 => ?_, fun x hx => ?_, fun u hu h0 hne hnq => ?_, ?_, fun x hx => ?_, fun a ha => ?_, h.vin, by rw [keep v hwv.symm]; exact hv0, fun i h1 h2 => ?_⟩
 ·rcases List.mem_or_eq_of_mem_set hx with hx | rfl
  ·exact h.lo x hx
  ·omega
 ·rcases List.mem_or_eq_of_mem_set hx with hx | rfl
  ·exact h.hi x hx
  ·exact hc
 ·rcases List.mem_append.1 hx with hx | hx
  ·obtain ⟨h1, h2, h3⟩ := h.ok x hx
   exact ⟨h1, h2, by rw [hq x hx]; exact h3⟩
  ·rw [List.mem_singleton.1 hx, Int.toNat_natCast, new]
   exact ⟨by omega, by omega, by omega⟩
 ·have h1 := negs_set (l := st) (i := w) (x := st.getD v 0 + 1) (by omega) hn (by omega)
  have h2 := h.sum
  simp only [List.length_append, List.length_singleton]; omega
 ·by_cases e : x = w
  ·subst e
   rw [new, show (st.getD v 0 + 1).toNat = (st.getD v 0).toNat + 1 by omega]
   exact ⟨v, h.vin, h.way v h.vin hv0, by rw [← hw]; exact getD_mem hj 0⟩
  ·rw [keep x e] at h0 ⊢
   exact h.way x hx h0
 ·have := h.start x hx
  rw [old _ (by omega)]; exact this
 ·have hu2 : u ≠ w := fun e => hnq (by rw [e]; simp)
  rw [keep u hu2] at h0 ⊢
  intro x hx
  obtain ⟨h1, h2⟩ := h.shut u hu h0 hne (fun g => hnq (by simp [g])) x hx
  rw [old _ h1]
  exact ⟨h1, h2⟩
 ·refine List.pairwise_append.2 ⟨h.mono.imp_of_mem (fun {a b} ha hb hab => by rw [hq a ha, hq b hb]; exact hab), by simp, fun a ha b hb => ?_⟩
  rw [List.mem_singleton.1 hb, Int.toNat_natCast, new, hq a ha]
  have h1 := (h.ok a ha).2
  exact h.top _ (getD_mem (by omega) 0)
 ·rw [keep v hwv.symm]
  rcases List.mem_or_eq_of_mem_set hx with hx | rfl
  ·exact h.top x hx
  ·omega
 ·rw [keep v hwv.symm]
  rcases List.mem_append.1 ha with ha | ha
  ·rw [hq a ha]; exact h.ge a ha
  ·rw [List.mem_singleton.1 ha, Int.toNat_natCast, new]; omega
 ·rcases Nat.lt_or_ge i j with h3 | h3
  ·have := h.part i h3 h2
   rw [old _ this]; exact this
  ·obtain rfl : i = j := by omega
   rw [hw, Int.toNat_natCast, new]; omega
theorem Mid.done {g : List (List Int)} {fr : List Int} {N : Nat} {c : Int} {st q : List Int} {v : Nat} (ha : Arr g) (h : Mid g fr N c v (g.getD v []).length st q) : Bfs g fr N c st q := by
 refine ⟨h.len, h.lo, h.hi, h.ok, h.sum, h.way, h.start, fun u hu h0 hq w hw => ?_, h.mono, fun a hm x hx => ?_⟩
 ·by_cases e : u = v
  ·subst e
   obtain ⟨i, hi, e2⟩ := List.getElem_of_mem hw
   have h1 := h.part i hi hi
   rw [getD_eq hi, e2] at h1
   have h2 := (ha _ (getD_mem hu [])).2 w hw
   have h3 := h.len
   exact ⟨h1, h.top _ (getD_mem (by omega) 0)⟩
  ·exact h.shut u hu h0 e hq w hw
 ·have h1 := h.top x hx
  have h2 := h.ge a hm
  omega
noncomputable def grS (w v : Nat) (co : List S82) : List (List Int) := (List.range (2 ^ (w * v))).map (nextS w v co)
theorem grS_length (w v : Nat) (co : List S82) : (grS w v co).length = 2 ^ (w * v) := by simp [grS]
theorem grS_at {w v : Nat} {co : List S82} {u : Nat} (hu : u < 2 ^ (w * v)) : (grS w v co).getD u [] = nextS w v co u := by
 rw [getD_eq (by rw [grS_length]; exact hu)]; simp [grS]
theorem SP.arr {w v : Nat} {st : List S77} {co : List S82} (h : SP w v st co) : Arr (grS w v co) := fun x hx => by
 obtain ⟨u, hu, rfl⟩ := List.getElem_of_mem hx
 rw [grS_length] at hu
 have hp := h.pow
 have e : (grS w v co)[u]'(by rw [grS_length]; exact hu) = nextS w v co u := by simp [grS]
 rw [e, grS_length]
 have hr := nextS_rg w v co u
 exact ⟨by have := hr.len; omega, hr.2⟩
theorem SP.graph_l0 {w v : Nat} {st : List S77} {co : List S82} (h : SP w v st co) (d : Nat) : ∀ (j : Nat) (o : List (List Int)), j + d = 2 ^ (w * v) → o.length ≤ j →
  Ev (fun k => QaR.l0 k o ((2 ^ (w * v) : Nat) : Int) (j : Int) (w : Int) (v : Int) st co) (o ++ (List.range' j d).map (nextS w v co)) := by
 have hp := h.pow
 induction d with
 | zero => exact fun j o hj hl => ev_eq (Ev.step (f := fun _ => some o) (fun k => by simp only [QaR.l0]; rw [if_neg (by omega)]) (Ev.now _)) (by simp)
 | succ d ih =>
  intro j o hj hl
  refine Ev.step (fun k => by simp only [QaR.l0]; rw [if_pos (by omega), wsucc (by omega)]) ?_
  refine Ev.bind (h.nextOf (by omega)) (ev_pos (by omega) ?_)
  exact ev_eq (ih (j + 1) (o ++ [nextS w v co j]) (by omega) (by simp; omega)) (by rw [List.range'_succ]; simp)
theorem SP.graph {w v : Nat} {st : List S77} {co : List S82} (h : SP w v st co) : Ev (fun k => QaR.f k (w : Int) (v : Int) st co) (grS w v co) := by
 refine Ev.bind (ev_const h.states) (ev_eq (h.graph_l0 _ 0 [] (Nat.zero_add _) (Nat.le_refl _)) ?_)
 rw [List.nil_append, ← List.range_eq_range']; rfl
def Lvl (w v : Nat) (co : List S82) (fr : List Int) (n : Nat) (o : List Int) : Prop := Rg (2 ^ (w * v)) o ∧ ∀ x, x ∈ o ↔ ∃ m, m ≤ n ∧ Walk (grS w v co) fr m x
theorem shut_all {w v : Nat} {co : List S82} {fr : List Int} {n : Nat} {o : List Int} (h1 : Lvl w v co fr n o) (h2 : Lvl w v co fr (n + 1) o) : ∀ {m : Nat} {x : Int}, Walk (grS w v co) fr m x → x ∈ o
 | 0, x, g => (h1.2 x).2 ⟨0, Nat.zero_le _, g⟩
 | m + 1, x, ⟨u, g1, g2, g3⟩ => by
  obtain ⟨q, q1, q2⟩ := (h1.2 u).1 (shut_all h1 h2 g2)
  exact (h2.2 x).2 ⟨q + 1, by omega, u, g1, q2, g3⟩
theorem lvl0 {w v : Nat} {co : List S82} {fr : List Int} (hf : Rg (2 ^ (w * v)) fr) : Lvl w v co fr 0 fr :=
 ⟨hf, fun x => ⟨fun g => ⟨0, Nat.le_refl _, g⟩, fun ⟨m, g1, g2⟩ => by
  obtain rfl : m = 0 := by omega
  exact g2⟩⟩
section
variable {w v : Nat} {st : List S77} {co : List S82} (h : SP w v st co)
include h
theorem SP.start_rg (t : List S77) : Rg (2 ^ (w * v)) (whereS w v t) := by
 have hp := h.pow
 refine ⟨whFrom_rise w v t _ 0, fun x hx => ?_⟩
 obtain ⟨i, rfl, _, h2, _⟩ := (mem_whFrom w v t x _ 0).1 hx
 omega
theorem SP.lvl_next {fr : List Int} (hf : Rg (2 ^ (w * v)) fr) {n : Nat} {o : List Int} (ho : Lvl w v co fr n o) : ∃ a o', Ev (fun k => Qak.f k (w : Int) (v : Int) st co o) a ∧ Ev (fun k => QaJ.f k o a) o' ∧ Lvl w v co fr (n + 1) o' ∧ ∀ x ∈ o, x ∈ o' := by
 have hp := h.pow
 have hl := ho.1.len
 obtain ⟨a, a1, a2, a3⟩ := h.l8After ho.1.2 (by omega)
 obtain ⟨o', b1, b2, b3⟩ := l8Union_is (by omega) ho.1 a1.2 (by have := a1.len; omega)
 refine ⟨a, o', a3, b3, ⟨b1, fun x => ?_⟩, fun x hx => (b2 x).2 (.inl hx)⟩
 rw [b2, ho.2, a2]
 constructor
 ·rintro (⟨m, g1, g2⟩ | ⟨u, g1, g2⟩)
  ·exact ⟨m, by omega, g2⟩
  ·obtain ⟨m, g3, g4⟩ := (ho.2 _).1 g1
   have hu := Walk.in_ h.arr (fun y hy => by rw [grS_length]; exact hf.2 y hy) g4
   rw [grS_length] at hu
   exact ⟨m + 1, by omega, u, by rw [grS_length]; omega, g4, by rw [grS_at (by omega)]; exact g2⟩
 ·rintro ⟨m, g1, g2⟩
  cases m with
  | zero => exact .inl ⟨0, Nat.zero_le _, g2⟩
  | succ m =>
   obtain ⟨u, g3, g4, g5⟩ := g2
   rw [grS_length] at g3
   rw [grS_at g3] at g5
   exact .inr ⟨u, (ho.2 _).2 ⟨m, by omega, g4⟩, g5⟩
theorem SP.reach_l0 {fr : List Int} (hf : Rg (2 ^ (w * v)) fr) (d : Nat) : ∀ (n : Nat) (o : List Int), Lvl w v co fr n o → 2 ^ (w * v) ≤ o.length + d → ∃ r, Rg (2 ^ (w * v)) r ∧ (∀ x, x ∈ r ↔ Reach (grS w v co) fr x) ∧ Ev (fun k => QaV.l0 k o (w : Int) (v : Int) st co) r := by
 induction d with
 | zero =>
  intro n o ho hd
  obtain ⟨a, o', a1, a2, a3, a4⟩ := h.lvl_next hf ho
  obtain ⟨s1, s2⟩ := rise_sub ho.1.1 a3.1.1 a4
  have s3 := a3.1.len
  have e2 := s2 (by omega)
  refine ⟨o, ho.1, fun x => ⟨fun g => by obtain ⟨m, _, g⟩ := (ho.2 x).1 g; exact ⟨m, g⟩, fun ⟨m, g⟩ => shut_all ho (e2 ▸ a3) g⟩, Ev.step (fun k => by rw [QaV.l0]) ?_⟩
  exact Ev.bind a1 (Ev.bind a2 (ev_pos (by omega) (Ev.now _)))
 | succ d ih =>
  intro n o ho hd
  obtain ⟨a, o', a1, a2, a3, a4⟩ := h.lvl_next hf ho
  obtain ⟨s1, s2⟩ := rise_sub ho.1.1 a3.1.1 a4
  by_cases e : o'.length = o.length
  ·have e2 := s2 e.symm
   refine ⟨o, ho.1, fun x => ⟨fun g => by obtain ⟨m, _, g⟩ := (ho.2 x).1 g; exact ⟨m, g⟩, fun ⟨m, g⟩ => shut_all ho (e2 ▸ a3) g⟩, Ev.step (fun k => by rw [QaV.l0]) ?_⟩
   exact Ev.bind a1 (Ev.bind a2 (ev_pos (by omega) (Ev.now _)))
  ·obtain ⟨r, r1, r2, r3⟩ := ih (n + 1) o' a3 (by omega)
   refine ⟨r, r1, r2, Ev.step (fun k => by rw [QaV.l0]) ?_⟩
   exact Ev.bind a1 (Ev.bind a2 (ev_neg (by omega) r3))
theorem SP.l8Reach (hst : Wd st) : ∃ r, Rg (2 ^ (w * v)) r ∧ (∀ x, x ∈ r ↔ Reach (grS w v co) (whereS w v st) x) ∧ Ev (fun k => QaV.f k (w : Int) (v : Int) st co) r := by
 obtain ⟨r, r1, r2, r3⟩ := h.reach_l0 (h.start_rg st) (2 ^ (w * v)) 0 _ (lvl0 (h.start_rg st)) (by omega)
 exact ⟨r, r1, r2, Ev.bind (h.those h.prg.1.1 hst) r3⟩
end
def NoOk (wi va : Int) (st : List S77) (co : List S82) (no : Int) : Prop := SmallP wi va st co ∧ 0 ≤ no ∧ no < 2 ^ (wi * va).toNat
theorem isNo_tells (wi va : Int) (st : List S77) (co : List S82) (no : Int) (hx : ∀ c ∈ co, c.f1.length ≤ 9223372036854775807) : Tells (fun k => Qbk.f k wi va st co no) (NoOk wi va st co no) := by
 refine tells_ask (isSmall_tells wi va st co hx) (fun h => tells_pos rfl ?_) (fun h => tells_neg (by simp) (tells_no (fun g => h g.1)))
 refine tells_if (fun h0 => ?_) (fun h0 => tells_no (fun g => h0 g.2.1))
 have h5 := h.2
 obtain ⟨w, v, rfl, rfl, _, _, _, _, e, hb⟩ := small_nat h.1
 have e2 : Qbc.f (w : Int) (v : Int) st co = some ((2 ^ (w * v) : Nat) : Int) := by
  unfold Qbc.f
  rw [e, wid (by omega) (by omega), if_pos (by omega), shl_few _ (by omega)]
 refine tells_bind (ev_const e2) (tells_some ?_)
 rw [decide_eq_true_iff]
 unfold NoOk
 rw [e, Int.toNat_natCast, two_nat]
 exact ⟨fun g => ⟨h, h0, g⟩, fun g => g.2.2⟩
theorem least_of {P : Nat → Prop} : ∀ (m : Nat), P m → ∃ d, P d ∧ ∀ n, P n → d ≤ n := fun m => by
 induction m using Nat.strongRecOn with
 | _ m ih =>
  intro hm
  by_cases g : ∃ n, n < m ∧ P n
  ·obtain ⟨n, g1, g2⟩ := g; exact ih n g1 g2
  ·refine ⟨m, hm, fun n hn => ?_⟩
   rcases Nat.lt_or_ge n m with e | e
   ·exact absurd ⟨n, e, hn⟩ g
   ·exact e
section
variable {w v : Nat} {st : List S77} {co : List S82} (h : SP w v st co)
include h
theorem SP.steps_l0 {fr : List Int} (hf : Rg (2 ^ (w * v)) fr) {x : Int} {dd : Nat} (hd : Walk (grS w v co) fr dd x) (hm : ∀ n, Walk (grS w v co) fr n x → dd ≤ n) (hdb : dd ≤ 32) (d : Nat) : ∀ (n : Nat) (o : List Int), n + d = dd → Lvl w v co fr n o → Ev (fun k => Qat.l0 k x o (n : Int) (w : Int) (v : Int) st co) ((dd : Int), true) := by
 have hp := h.pow
 induction d with
 | zero =>
  intro n o hn ho
  have hin : x ∈ o := (ho.2 x).2 ⟨dd, by omega, hd⟩
  have hl := ho.1.len
  refine Ev.step (fun k => by rw [Qat.l0]) ?_
  exact Ev.bind (tells_ev (l1Has_tells o x (by omega)) hin) (ev_pos rfl (ev_eq (Ev.now ((n : Int), true)) (by congr 1; omega)))
 | succ d ih =>
  intro n o hn ho
  have hl := ho.1.len
  have hout : x ∉ o := fun g => by
   obtain ⟨m, g1, g2⟩ := (ho.2 x).1 g
   have := hm m g2; omega
  obtain ⟨a, o', a1, a2, a3, _⟩ := h.lvl_next hf ho
  refine Ev.step (fun k => by rw [Qat.l0, wsucc (by omega)]) ?_
  exact Ev.bind (tells_ev_not (l1Has_tells o x (by omega)) hout) (ev_neg (by simp) (Ev.bind a1 (Ev.bind a2 (ih (n + 1) o' (by omega) a3))))
theorem SP.steps_few {fr : List Int} (hf : Rg (2 ^ (w * v)) fr) {x : Int} {dd : Nat} (hd : Walk (grS w v co) fr dd x) (hm : ∀ n, Walk (grS w v co) fr n x → dd ≤ n) : ∀ n, n ≤ dd → ∃ o, Lvl w v co fr n o ∧ n ≤ o.length
 | 0, _ => ⟨fr, lvl0 hf, Nat.zero_le _⟩
 | n + 1, hn => by
  obtain ⟨o, o1, o2⟩ := SP.steps_few hf hd hm n (by omega)
  obtain ⟨a, o', a1, a2, a3, a4⟩ := h.lvl_next hf o1
  obtain ⟨s1, s2⟩ := rise_sub o1.1.1 a3.1.1 a4
  rcases Nat.eq_or_lt_of_le s1 with e | e
  ·have e2 := s2 e
   have := shut_all o1 (e2 ▸ a3) hd
   obtain ⟨m, g1, g2⟩ := (o1.2 x).1 this
   have := hm m g2; omega
  ·exact ⟨o', a3, by omega⟩
theorem SP.steps_yes (hst : Wd st) (g1 : Tells (fun k => Qbf.f k (w : Int) (v : Int) st co) (SmallP (w : Int) (v : Int) st co)) (hsm : SmallP (w : Int) (v : Int) st co) {x : Int} {m : Nat} (hw : Walk (grS w v co) (whereS w v st) m x) :
  ∃ dd : Nat, dd ≤ 32 ∧ Walk (grS w v co) (whereS w v st) dd x ∧ (∀ n, Walk (grS w v co) (whereS w v st) n x → dd ≤ n) ∧ Ev (fun k => Qat.f k (w : Int) (v : Int) st co x) ((dd : Int), true) := by
 have hp := h.pow
 have hsr := h.start_rg st
 obtain ⟨dd, d1, d2⟩ := least_of (P := fun n => Walk (grS w v co) (whereS w v st) n x) m hw
 have d3 : dd ≤ 32 := by
  obtain ⟨o, o1, o2⟩ := h.steps_few hsr d1 d2 dd (Nat.le_refl _)
  have := o1.1.len; omega
 obtain ⟨r, r1, r2, r3⟩ := h.l8Reach hst
 have hrl := r1.len
 refine ⟨dd, d3, d1, d2, Ev.bind (tells_ev g1 hsm) (ev_pos rfl (Ev.bind r3 (Ev.bind (tells_ev (l1Has_tells r x (by omega)) ((r2 x).2 ⟨m, hw⟩)) ?_)))⟩
 refine Ev.step (fun k => by simp only [Qat.j0]; rw [if_neg (by simp)]) ?_
 exact Ev.bind (h.those h.prg.1.1 hst) (h.steps_l0 hsr d1 d2 d3 dd 0 _ (Nat.zero_add _) (lvl0 hsr))
theorem SP.steps_no (hst : Wd st) (g1 : Tells (fun k => Qbf.f k (w : Int) (v : Int) st co) (SmallP (w : Int) (v : Int) st co)) (hsm : SmallP (w : Int) (v : Int) st co) {x : Int} (hw : ∀ m, ¬ Walk (grS w v co) (whereS w v st) m x) : Ev (fun k => Qat.f k (w : Int) (v : Int) st co x) (0, false) := by
 have hp := h.pow
 obtain ⟨r, r1, r2, r3⟩ := h.l8Reach hst
 have hrl := r1.len
 have n1 : Ev (fun k => Qat.j0 k x true (w : Int) (v : Int) st co) (0, false) := Ev.step (f := fun _ => some (0, false)) (fun k => by simp only [Qat.j0, if_true]) (Ev.now _)
 exact Ev.bind (tells_ev g1 hsm) (ev_pos rfl (Ev.bind r3 (Ev.bind (tells_ev_not (l1Has_tells r x (by omega)) (fun g => by obtain ⟨m, g⟩ := (r2 x).1 g; exact hw m g)) n1)))
end
theorem walk_front {g : List (List Int)} {s : Nat} (hs : s < g.length) (ha : Arr g) : ∀ (m : Nat) (y : Int), Walk g [(s : Int)] (m + 1) y ↔ ∃ u ∈ g.getD s [], Walk g [u] m y
 | 0, y => by
  constructor
  ·rintro ⟨u, h1, h2, h3⟩
   have e : (u : Int) = (s : Int) := List.mem_singleton.1 h2
   obtain rfl : u = s := by omega
   exact ⟨y, h3, List.mem_singleton.2 rfl⟩
  ·rintro ⟨u, h1, h2⟩
   rw [List.mem_singleton.1 h2]
   exact ⟨s, hs, List.mem_singleton.2 rfl, h1⟩
 | m + 1, y => by
  constructor
  ·rintro ⟨z, h1, h2, h3⟩
   obtain ⟨u, h4, h5⟩ := (walk_front hs ha m z).1 h2
   exact ⟨u, h4, z, h1, h5, h3⟩
  ·rintro ⟨u, h4, z, h1, h5, h3⟩
   exact ⟨z, h1, (walk_front hs ha m z).2 ⟨u, h4, h5⟩, h3⟩
theorem walk_turn {g T : List (List Int)} (ha : Arr g) (hT : T.length = g.length) (ht : ∀ (u : Nat) (x : Int), x ∈ T.getD u [] ↔ ∃ i : Nat, x = (i : Int) ∧ i < g.length ∧ u < g.length ∧ (u : Int) ∈ g.getD i []) (no : Int) : ∀ (m : Nat) (s : Nat), s < g.length → (Walk T [no] m (s : Int) ↔ Walk g [(s : Int)] m no)
 | 0, s, hs => by
  show (s : Int) ∈ [no] ↔ no ∈ [(s : Int)]
  rw [List.mem_singleton, List.mem_singleton]; exact eq_comm
 | m + 1, s, hs => by
  rw [walk_front hs ha]
  constructor
  ·rintro ⟨y, h1, h2, h3⟩
   obtain ⟨i, h4, _, _, h5⟩ := (ht y s).1 h3
   obtain rfl : s = i := by omega
   exact ⟨y, h5, (walk_turn ha hT ht no m y (by omega)).1 h2⟩
  ·rintro ⟨u, h1, h2⟩
   have h3 := (ha _ (getD_mem hs [])).2 u h1
   obtain ⟨y, rfl⟩ := Int.eq_ofNat_of_zero_le h3.1
   exact ⟨y, by omega, (walk_turn ha hT ht no m y (by omega)).2 h2, (ht y s).2 ⟨s, rfl, hs, by omega, h1⟩⟩
structure To (g : List (List Int)) (no : Int) (q : List Int) : Prop where
 len : q.length = g.length
 few : ∀ x ∈ q, x ≤ 4194304
 way : ∀ s : Nat, s < g.length → 0 ≤ q.getD s 0 → Walk g [(s : Int)] (q.getD s 0).toNat no
 least : ∀ (n : Nat) (s : Nat), s < g.length → Walk g [(s : Int)] n no → 0 ≤ q.getD s 0 ∧ q.getD s 0 ≤ n
theorem Dist.to {g T : List (List Int)} {no : Int} {q : List Int} (ha : Arr g) (hT : T.length = g.length) (ht : ∀ (u : Nat) (x : Int), x ∈ T.getD u [] ↔ ∃ i : Nat, x = (i : Int) ∧ i < g.length ∧ u < g.length ∧ (u : Int) ∈ g.getD i []) (h : Dist T [no] q) : To g no q :=
 ⟨h.len.trans hT, h.few, fun s hs h0 => (walk_turn ha hT ht no _ s hs).1 (h.way s (by omega) h0), fun n s hs hw => h.least n s (by omega) ((walk_turn ha hT ht no n s hs).2 hw)⟩
theorem To.next {g : List (List Int)} {no : Int} {q : List Int} (ha : Arr g) (h : To g no q) {s m : Nat} (hs : s < g.length) (hm : q.getD s 0 = ((m + 1 : Nat) : Int)) :
  (∃ u ∈ g.getD s [], q.getD u.toNat 0 = (m : Int)) ∧ ∀ u ∈ g.getD s [], Walk g [u] m no → q.getD u.toNat 0 = (m : Int) := by
 have h2 : ∀ u ∈ g.getD s [], Walk g [u] m no → q.getD u.toNat 0 = (m : Int) := fun u hu hw => by
  have h3 := (ha _ (getD_mem hs [])).2 u hu
  obtain ⟨y, rfl⟩ := Int.eq_ofNat_of_zero_le h3.1
  rw [Int.toNat_natCast]
  obtain ⟨h4, h5⟩ := h.least m y (by omega) hw
  have h6 := h.way y (by omega) h4
  obtain ⟨_, h7⟩ := h.least _ s hs ((walk_front hs ha _ no).2 ⟨_, hu, h6⟩)
  omega
 have h1 := h.way s hs (by omega)
 rw [hm, Int.toNat_natCast] at h1
 obtain ⟨u, h3, h4⟩ := (walk_front hs ha m no).1 h1
 exact ⟨⟨u, h3, h2 u h3 h4⟩, h2⟩
theorem first_at (st : List Int) (m : Int) : ∀ (ws : List Int), (∃ x ∈ ws, st.getD x.toNat 0 = m) → ∃ i, i < ws.length ∧ st.getD (ws.getD i 0).toNat 0 = m ∧ ∀ j, j < i → st.getD (ws.getD j 0).toNat 0 ≠ m
 | [], h => by obtain ⟨x, hx, _⟩ := h; simp at hx
 | w :: t, h => by
  by_cases e : st.getD w.toNat 0 = m
  ·exact ⟨0, by simp, e, fun j hj => by omega⟩
  ·obtain ⟨i, h1, h2, h3⟩ := first_at st m t (by
    obtain ⟨x, hx, h4⟩ := h
    rcases List.mem_cons.1 hx with rfl | hx
    ·exact absurd h4 e
    ·exact ⟨x, hx, h4⟩)
   refine ⟨i + 1, by simp; omega, h2, fun j hj => ?_⟩
   cases j with
   | zero => exact e
   | succ j => exact h3 j (by omega)
theorem SP.can_l0 {w v : Nat} {st : List S77} {co : List S82} (h : SP w v st co) (no : Int) {s : Nat} (hs : s < 2 ^ (w * v)) (d : Nat) : ∀ (n : Nat) (o : List Int), d ≤ 4194304 → Rg (2 ^ (w * v)) o → (∀ x, x ∈ o ↔ Walk (grS w v co) [(s : Int)] n x) →
  Tells (fun k => QaT.l0 k no (d : Int) o (w : Int) (v : Int) st co) (Walk (grS w v co) [(s : Int)] (n + d) no) := by
 have hp := h.pow
 induction d with
 | zero =>
  intro n o _ ho hx
  have hl := ho.len
  refine tells_step (fun k => by rw [QaT.l0, if_neg (by omega)]) ?_
  exact tells_ask (l1Has_tells o no (by omega)) (fun g => tells_yes ((hx no).1 g)) (fun g => tells_no (fun g' => g ((hx no).2 g')))
 | succ d ih =>
  intro n o hd ho hx
  have hl := ho.len
  obtain ⟨r, r1, r2, r3⟩ := h.l8After (so := o) ho.2 (by omega)
  refine tells_step (fun k => by rw [QaT.l0, if_pos (by omega), show wrap64 (((d + 1 : Nat) : Int) - 1) = (d : Int) by rw [wid (by omega) (by omega)]; omega]) ?_
  refine tells_bind r3 ?_
  have := ih (n + 1) r (by omega) r1 (fun x => by
   rw [r2]
   constructor
   ·rintro ⟨u, g1, g2⟩
    have g3 := ho.2 _ g1
    exact ⟨u, by rw [grS_length]; omega, (hx _).1 g1, by rw [grS_at (by omega)]; exact g2⟩
   ·rintro ⟨u, g1, g2, g3⟩
    rw [grS_length] at g1
    rw [grS_at g1] at g3
    exact ⟨u, (hx _).2 g2, g3⟩)
  rwa [show n + 1 + d = n + (d + 1) by omega] at this
theorem SP.can {w v : Nat} {st : List S77} {co : List S82} (h : SP w v st co) (no : Int) {s : Nat} (hs : s < 2 ^ (w * v)) {d : Nat} (hd : d ≤ 4194304) :
  Tells (fun k => QaT.f k (w : Int) (v : Int) st co (s : Int) no (d : Int)) (Walk (grS w v co) [(s : Int)] d no) := by
 have := h.can_l0 no hs d 0 [(s : Int)] hd ⟨by simp [Rise], fun x hx => by rw [List.mem_singleton.1 hx]; omega⟩ (fun x => Iff.rfl)
 rwa [Nat.zero_add] at this
theorem toNodeS_ev (l : List S79) (hl : l.length ≤ 1048576) : Ev (fun k => QaG.f k l) (l.map cNode) := by
 refine Ev.congr (f := fun k => QaG.l0 k l (List.replicate l.length z77) 0) (fun k => by simp only [QaG.f]; rw [if_pos (by omega), if_pos (by simp only [Int.toNat_natCast]; omega)]; rfl) ?_
 exact copy_all (fun k y j => QaG.l0 k l y j) l cNode z79 z77
  (fun j y r hj hy he => Ev.step (fun k => by simp only [QaG.l0, QbN.f, Option.bind_some]; rw [if_pos (by omega), if_pos (by omega), if_pos (by omega), wsucc (by omega), show rd_T79 l (j : Int) = l.getD j z79 by simp [rd_T79]]; rfl) he)
  (fun y hy => Ev.step (f := fun _ => some y) (fun k => by simp only [QaG.l0]; rw [if_neg (by omega)]) (Ev.now _))
theorem toChangeS_ev (l : List S110) (hl : l.length ≤ 1048576) (hx : ∀ x ∈ l, SmallCh x) : Ev (fun k => QaP.f k l) (l.map cChange) := by
 refine Ev.congr (f := fun k => QaP.l0 k l (List.replicate l.length z100) 0) (fun k => by simp only [QaP.f]; rw [if_pos (by omega), if_pos (by simp only [Int.toNat_natCast]; omega)]; rfl) ?_
 refine copy_all (fun k y j => QaP.l0 k l y j) l cChange z110 z100 (fun j y r hj hy he => ?_) (fun y hy => Ev.step (f := fun _ => some y) (fun k => by simp only [QaP.l0]; rw [if_neg (by omega)]) (Ev.now _))
 refine Ev.step (fun k => by simp only [QaP.l0]; rw [if_pos (by omega), if_pos (by omega), wsucc (by omega), show rd_T110 l (j : Int) = l.getD j z110 by simp [rd_T110]]) ?_
 exact Ev.bind (Ev.bind (toNodeS_ev _ (hx _ (getD_mem hj _))) (Ev.now _)) (ev_pos (by omega) he)
theorem toCommandS_ev (l : List S61) (hl : l.length ≤ 1048576) (hx : ∀ x ∈ l, SmallCo x) : Ev (fun k => QaQ.f k l) (l.map cCommand) := by
 refine Ev.congr (f := fun k => QaQ.l0 k l (List.replicate l.length z82) 0) (fun k => by simp only [QaQ.f]; rw [if_pos (by omega), if_pos (by simp only [Int.toNat_natCast]; omega)]; rfl) ?_
 refine copy_all (fun k y j => QaQ.l0 k l y j) l cCommand z61 z82 (fun j y r hj hy he => ?_) (fun y hy => Ev.step (f := fun _ => some y) (fun k => by simp only [QaQ.l0]; rw [if_neg (by omega)]) (Ev.now _))
 refine Ev.step (fun k => by simp only [QaQ.l0]; rw [if_pos (by omega), if_pos (by omega), wsucc (by omega), show rd_T61 l (j : Int) = l.getD j z61 by simp [rd_T61]]) ?_
 obtain ⟨h1, h2, h3⟩ := hx _ (getD_mem hj z61)
 exact Ev.bind (Ev.bind (toNodeS_ev _ h1) (Ev.bind (toChangeS_ev _ h2 h3) (Ev.now _))) (ev_pos (by omega) he)
theorem toProgram_ev (wi va : Int) (st : List S79) (co : List S61) (h1 : st.length ≤ 1048576) (h2 : co.length ≤ 1048576) (h3 : ∀ x ∈ co, SmallCo x) : Ev (fun k => Qbm.f k wi va st co) (wi, va, st.map cNode, co.map cCommand) :=
 Ev.bind (toNodeS_ev st h1) (Ev.bind (toCommandS_ev co h2 h3) (Ev.now _))
theorem cloneInt_eq (l : List Int) (h : l.length < 17592186044416) : QbD.f l = some l := by
 rw [QbD.f, if_pos h]
section
variable {w v : Nat} {st : List S77} {co : List S82} (h : SP w v st co)
include h
theorem SP.where_l0 {t : List S77} (ht : TermOf (w : Int) (v : Int) t 2) (hw : Wd t) (d : Nat) : ∀ (j : Nat) (out : List Int), j + d = 2 ^ (w * v) → out.length ≤ j →
  Ev (fun k => QaO.l0 k t out ((2 ^ (w * v) : Nat) : Int) (j : Int) (w : Int) (v : Int) st co) (out ++ whFrom w v t j d) := by
 have hp := h.pow
 induction d with
 | zero => exact fun j out hj hl => ev_eq (Ev.step (f := fun _ => some out) (fun k => by simp only [QaO.l0]; rw [if_neg (by omega)]) (Ev.now _)) (by simp [whFrom])
 | succ d ih =>
  intro j out hj hl
  refine Ev.step (fun k => by simp only [QaO.l0]; rw [if_pos (by omega), wsucc (by omega)]) (Ev.bind (of_both h.w1 h.v1 h.m (by omega) st co).1 (Ev.bind (holds_impl st co ht hw (dig_sta h.w1 h.w2 j)) ?_))
  by_cases h1 : hold (w : Int) t (dig w v j) = true
  ·exact ev_pos h1 (ev_pos (by omega) (ev_eq (ih (j + 1) (out ++ [(j : Int)]) (by omega) (by simp; omega)) (by rw [whFrom, if_pos h1]; simp)))
  ·exact ev_neg h1 (ev_eq (ih (j + 1) out (by omega) (by omega)) (by rw [whFrom, if_neg h1]))
theorem SP.wher {t : List S77} (ht : TermOf (w : Int) (v : Int) t 2) (hw : Wd t) : Ev (fun k => QaO.f k (w : Int) (v : Int) st co t) (whereS w v t) := Ev.bind (ev_const h.states) (h.where_l0 ht hw _ 0 [] (Nat.zero_add _) (Nat.le_refl _))
end
theorem repeatNeg_is (n : Nat) (h : n ≤ 1048576) : Qbv.f [(-1)] (n : Int) = some (List.replicate n (-1)) := by
 rw [Qbv.f, if_pos ⟨rfl, by omega, by omega⟩]; rfl
theorem steps_l2 {g : List (List Int)} (hg : g.length ≤ 1048576) (ha : Arr g) (fr : List Int) {v : Nat} (hv : v < g.length) (N : Nat) (hN : N ≤ 4194304) (c : Int) (hc : c ≤ 4194304)
  (M : ∀ st q, Bfs g fr N (c + 1) st q → ∃ r, Dist g fr r ∧ Ev (fun k => Qaf.l1 k g st q) r) (d : Nat) : ∀ (j : Nat) (st q : List Int), j + d = (g.getD v []).length → Mid g fr N (c + 1) v j st q → st.getD v 0 ≤ c →
  ∃ r, Dist g fr r ∧ Ev (fun k => Qaf.l2 k g st ((v : Int) :: q) (g.getD v []) ((g.getD v []).length : Int) (j : Int)) r := by
 obtain ⟨hwl, hw⟩ := ha _ (getD_mem hv [])
 induction d with
 | zero =>
  intro j st q hj hm h1
  have hs := hm.sum
  obtain rfl : j = (g.getD v []).length := by omega
  obtain ⟨r, hr, e⟩ := M st q (hm.done ha)
  exact ⟨r, hr, Ev.step (fun k => by simp only [Qaf.l2]; rw [if_neg (by omega), if_pos (by simp only [List.length_cons]; omega)]; rfl) e⟩
 | succ d ih =>
  intro j st q hj hm h1
  have hl := hm.len
  have h0 := hm.v0
  have hb := hw _ (getD_mem (l := g.getD v []) (j := j) (by omega) 0)
  have hs := hm.sum
  obtain ⟨u, hu⟩ := Int.eq_ofNat_of_zero_le hb.1
  have hug : u < g.length := by omega
  have eh : rd ((v : Int) :: q) 0 = v := by simp [rd]
  by_cases hn : st.getD u 0 < 0
  ·have hne : u ≠ v := fun e => by subst e; omega
   obtain ⟨r, hr, e1⟩ := ih (j + 1) _ _ (by omega) (hm.put (by omega) hu hug hn (by omega)) (by rw [getD_set', if_neg (fun h => hne h.1)]; exact h1)
   have ew : wrap64 (st.getD v 0 + 1) = st.getD v 0 + 1 := wid (by omega) (by omega)
   refine ⟨r, hr, Ev.step (fun k => ?_) e1⟩
   simp only [Qaf.l2]
   rw [if_pos (by omega), if_pos (by omega), if_pos (by omega), rd_nat, hu, if_pos (by omega), if_pos (by omega), rd_nat, if_pos hn, if_pos (by simp only [List.length_cons]; omega), eh, if_pos (by omega), if_pos (by omega), if_pos (by simp only [List.length_cons]; omega), rd_nat, ew, wsucc (by omega), Int.toNat_natCast]
   rfl
  ·obtain ⟨r, hr, e1⟩ := ih (j + 1) st q (by omega) (hm.skip (by rw [hu, Int.toNat_natCast]; omega)) h1
   refine ⟨r, hr, Ev.step (fun k => ?_) e1⟩
   simp only [Qaf.l2]
   rw [if_pos (by omega), if_pos (by omega), if_pos (by omega), rd_nat, hu, if_pos (by omega), if_pos (by omega), rd_nat, if_neg hn, wsucc (by omega)]
theorem steps_l1 {g : List (List Int)} (hg : g.length ≤ 1048576) (ha : Arr g) (fr : List Int) : ∀ (N : Nat) (st q : List Int) (c : Int), 0 ≤ c → c + N ≤ 4194304 → Bfs g fr N c st q → ∃ r, Dist g fr r ∧ Ev (fun k => Qaf.l1 k g st q) r
 | N, st, [], c, _, hcc, hb => ⟨st, hb.done (by omega), Ev.step (f := fun _ => some st) (fun k => by simp only [Qaf.l1]; rw [if_neg (by simp)]) (Ev.now _)⟩
 | 0, st, v :: q, c, _, _, hb => by have := hb.sum; simp only [List.length_cons] at this; omega
 | N + 1, st, v :: q, c, h0, hc, hb => by
  obtain ⟨h1, h2, h3⟩ := hb.ok v (by simp)
  have hl := hb.len
  obtain ⟨u, rfl⟩ := Int.eq_ofNat_of_zero_le h1
  rw [Int.toNat_natCast] at h3
  have hug : u < g.length := by omega
  have eh : rd ((u : Int) :: q) 0 = u := by simp [rd]
  have er : rd_L12 g (u : Int) = g.getD u [] := by simp [rd_L12]
  have hlv : st.getD u 0 ≤ c := hb.hi _ (getD_mem (by omega) 0)
  have hm : Mid g fr N (c + 1) u 0 st q := { hb.mid with hi := fun x hx => by have := hb.hi x hx; omega }
  obtain ⟨r, hr, e1⟩ := steps_l2 hg ha fr hug N (by omega) c (by omega) (fun st' q' hb' => steps_l1 hg ha fr N st' q' (c + 1) (by omega) (by omega) hb') (g.getD u []).length 0 st q (by omega) hm hlv
  refine ⟨r, hr, Ev.step (fun k => ?_) e1⟩
  simp only [Qaf.l1]
  rw [if_pos (by simp only [List.length_cons]; omega), if_pos (by simp only [List.length_cons]; omega), eh, if_pos (by omega), if_pos (by omega), er]
  rfl
theorem steps_l0 {g : List (List Int)} (hg : g.length ≤ 1048576) (ha : Arr g) {fr : List Int} (hfr : ∀ v ∈ fr, 0 ≤ v ∧ v < (g.length : Int)) (hfl : fr.length ≤ 1048576) (d : Nat) : ∀ (j : Nat) (st : List Int), j + d = fr.length → st.length = g.length → (∀ x ∈ st, x ≤ 0) → (∀ x ∈ st, -1 ≤ x) → (∀ i, i < j → st.getD (fr.getD i 0).toNat 0 = 0) → (∀ v : Nat, v < g.length → 0 ≤ st.getD v 0 → (v : Int) ∈ fr) →
  ∃ r, Dist g fr r ∧ Ev (fun k => Qaf.l0 k g st fr fr (fr.length : Int) (j : Int)) r := by
 induction d with
 | zero =>
  intro j st hj hl h1 h2 h3 h4
  have z : ∀ v ∈ fr, st.getD v.toNat 0 = 0 := fun v hv => by
   obtain ⟨i, hi, rfl⟩ := List.getElem_of_mem hv
   have := h3 i (by omega)
   rwa [getD_eq hi] at this
  have hb : Bfs g fr (g.length + fr.length) 0 st fr := by
   refine ⟨hl, h2, h1, fun v hv => ⟨(hfr v hv).1, (hfr v hv).2, by rw [z v hv]; omega⟩, ?_, fun v hv h0 => ?_, z, fun v hv h0 hq => absurd (h4 v hv h0) hq, ?_, fun a ha' x hx => ?_⟩
   ·have := List.countP_le_length (p := fun x : Int => decide (x < 0)) (l := st); unfold negs; omega
   ·have := h1 _ (getD_mem (l := st) (j := v) (by omega) 0)
    rw [show (st.getD v 0).toNat = 0 by omega]
    exact h4 v hv h0
   ·exact List.Pairwise.imp_of_mem (R := fun _ _ => True) (fun {a b} ha' hb' _ => by rw [z a ha', z b hb']; omega) (List.pairwise_of_forall (fun _ _ => trivial))
   ·rw [z a ha']; have := h1 x hx; omega
  obtain ⟨r, hr, e⟩ := steps_l1 hg ha fr (g.length + fr.length) st fr 0 (by omega) (by omega) hb
  exact ⟨r, hr, Ev.step (fun k => by simp only [Qaf.l0]; rw [if_neg (by omega)]) e⟩
 | succ d ih =>
  intro j st hj hl h1 h2 h3 h4
  have hmem := getD_mem (l := fr) (j := j) (by omega) 0
  have hm := hfr _ hmem
  obtain ⟨r, hr, e⟩ := ih (j + 1) (st.set (fr.getD j 0).toNat 0) (by omega) (by simpa using hl)
   (fun x hx => by
    rcases List.mem_or_eq_of_mem_set hx with hx | rfl
    ·exact h1 x hx
    ·omega)
   (fun x hx => by
    rcases List.mem_or_eq_of_mem_set hx with hx | rfl
    ·exact h2 x hx
    ·omega)
   (fun i hi => by
    rw [getD_set']
    split
    ·rfl
    ·rename_i h
     rcases Nat.lt_or_ge i j with h5 | h5
     ·exact h3 i h5
     ·obtain rfl : i = j := by omega
      exact absurd ⟨rfl, by omega⟩ h)
   (fun v hv h0 => by
    rw [getD_set'] at h0
    by_cases h : (fr.getD j 0).toNat = v ∧ v < st.length
    ·rw [show (v : Int) = fr.getD j 0 by omega]; exact hmem
    ·rw [if_neg h] at h0; exact h4 v hv h0)
  exact ⟨r, hr, Ev.step (fun k => by simp only [Qaf.l0]; rw [if_pos (by omega), if_pos (by omega), if_pos (by omega), rd_nat, if_pos hm.1, if_pos (by omega), wsucc (by omega)]) e⟩
theorem steps_dist {g : List (List Int)} (hg : g.length ≤ 1048576) (ha : Arr g) {fr : List Int} (hfr : ∀ v ∈ fr, 0 ≤ v ∧ v < (g.length : Int)) (hfl : fr.length ≤ 1048576) : ∃ r, Dist g fr r ∧ Ev (fun k => Qaf.f k g fr) r := by
 have neg1 : ∀ v : Nat, v < g.length → (List.replicate g.length (-1 : Int)).getD v 0 = -1 := fun v hv => by rw [getD_eq (by simpa using hv)]; simp
 obtain ⟨r, hr, e⟩ := steps_l0 hg ha hfr hfl fr.length 0 (List.replicate g.length (-1)) (by omega) (by simp) (fun x hx => by rw [List.eq_of_mem_replicate hx]; omega) (fun x hx => by rw [List.eq_of_mem_replicate hx]; omega) (fun i hi => by omega) (fun v hv h0 => by rw [neg1 v hv] at h0; omega)
 exact ⟨r, hr, Ev.bind (ev_const (repeatNeg_is g.length hg)) (Ev.bind (ev_const (cloneInt_eq fr (by omega))) e)⟩
theorem turnd_l1 {g : List (List Int)} (hg : g.length ≤ 1048576) (ha : Arr g) {c : Nat} (hc : ∀ x ∈ g, x.length ≤ c) (hcb : g.length * c ≤ 1048576) {j : Nat} (hj : j < g.length) (d : Nat) : ∀ (i : Nat) (T : List (List Int)), i + d = (g.getD j []).length → T.length = g.length → (∀ z ∈ T, z.length ≤ j * c + i) →
  ∃ T' : List (List Int), T'.length = g.length ∧ (∀ z ∈ T', z.length ≤ (j + 1) * c) ∧ (∀ (u : Nat) (x : Int), x ∈ T'.getD u [] ↔ x ∈ T.getD u [] ∨ (x = (j : Int) ∧ u < g.length ∧ (u : Int) ∈ (g.getD j []).drop i)) ∧
   ∀ r, Ev (fun k => Qao.l0 k T' g (g.length : Int) ((j + 1 : Nat) : Int)) r → Ev (fun k => Qao.l1 k T (j : Int) g (g.length : Int) (j : Int) (g.getD j []) ((g.getD j []).length : Int) (i : Int)) r := by
 obtain ⟨hwl, hw⟩ := ha _ (getD_mem hj [])
 have hcl := hc _ (getD_mem hj [])
 have hj2 : (j + 1) * c ≤ g.length * c := Nat.mul_le_mul_right _ (by omega)
 rw [Nat.add_mul, Nat.one_mul] at hj2 ⊢
 induction d with
 | zero => exact fun i T hi hT hz => ⟨T, hT, fun z h => by have := hz z h; omega, fun u x => by rw [List.drop_of_length_le (by omega)]; simp, fun r hr => Ev.step (fun k => by simp only [Qao.l1]; rw [if_neg (by omega), wsucc (by omega)]) hr⟩
 | succ d ih =>
  intro i T hi hT hz
  obtain ⟨h0, h1⟩ := hw _ (getD_mem (l := g.getD j []) (j := i) (by omega) 0)
  obtain ⟨u, hu⟩ := Int.eq_ofNat_of_zero_le h0
  have hug : u < g.length := by omega
  have hrow : (T.getD u []).length ≤ j * c + i := hz _ (getD_mem (by omega) [])
  have er : rd_L12 T (u : Int) = T.getD u [] := by simp [rd_L12]
  obtain ⟨T', t1, t2, t3, t4⟩ := ih (i + 1) (T.set u (T.getD u [] ++ [(j : Int)])) (by omega) (by simpa using hT) (fun z h => by
   rcases List.mem_or_eq_of_mem_set h with h | rfl
   ·have := hz z h; omega
   ·simp only [List.length_append, List.length_singleton]; omega)
  refine ⟨T', t1, t2, fun y x => ?_, fun r hr => Ev.step (fun k => ?_) (t4 r hr)⟩
  ·rw [t3, drop_cons (show i < (g.getD j []).length by omega) 0, hu]
   have e : (T.set u (T.getD u [] ++ [(j : Int)])).getD y [] = if u = y ∧ y < T.length then T.getD u [] ++ [(j : Int)] else T.getD y [] := by
    simp only [List.getD_eq_getElem?_getD, List.getElem?_set]
    by_cases h : u = y
    ·subst h
     rw [if_pos rfl, if_pos (by omega), if_pos ⟨rfl, by omega⟩]; rfl
    ·rw [if_neg h, if_neg (fun g => h g.1)]
   rw [e]
   by_cases h : u = y ∧ y < T.length
   ·rw [if_pos h]
    obtain ⟨rfl, h⟩ := h
    simp only [List.mem_append, List.mem_cons, List.not_mem_nil, or_false]
    constructor
    ·rintro ((g1 | g1) | ⟨g1, g2, g3⟩)
     ·exact .inl g1
     ·exact .inr ⟨g1, hug, .inl trivial⟩
     ·exact .inr ⟨g1, g2, .inr g3⟩
    ·rintro (g1 | ⟨g1, g2, g3⟩)
     ·exact .inl (.inl g1)
     ·exact .inl (.inr g1)
   ·rw [if_neg h]
    constructor
    ·rintro (g1 | ⟨g1, g2, g3⟩)
     ·exact .inl g1
     ·exact .inr ⟨g1, g2, List.mem_cons_of_mem _ g3⟩
    ·rintro (g1 | ⟨g1, g2, g3⟩)
     ·exact .inl g1
     ·rcases List.mem_cons.1 g3 with g3 | g3
      ·exact absurd ⟨by omega, by omega⟩ h
      ·exact .inr ⟨g1, g2, g3⟩
  ·simp only [Qao.l1]
   rw [if_pos (by omega), if_pos (by omega), if_pos (by omega), rd_nat, hu, if_pos (by omega), if_pos (by omega), er, if_pos (by omega), wsucc (by omega), Int.toNat_natCast]
theorem turnd_l0 {g : List (List Int)} (hg : g.length ≤ 1048576) (ha : Arr g) {c : Nat} (hc : ∀ x ∈ g, x.length ≤ c) (hcb : g.length * c ≤ 1048576) (d : Nat) : ∀ (j : Nat) (T : List (List Int)), j + d = g.length → T.length = g.length → (∀ z ∈ T, z.length ≤ j * c) →
  ∃ T' : List (List Int), T'.length = g.length ∧ (∀ z ∈ T', z.length ≤ g.length * c) ∧ (∀ (u : Nat) (x : Int), x ∈ T'.getD u [] ↔ x ∈ T.getD u [] ∨ ∃ i : Nat, x = (i : Int) ∧ j ≤ i ∧ i < g.length ∧ u < g.length ∧ (u : Int) ∈ g.getD i []) ∧ Ev (fun k => Qao.l0 k T g (g.length : Int) (j : Int)) T' := by
 induction d with
 | zero => exact fun j T hj hT hz => ⟨T, hT, fun z h => by have := hz z h; rwa [show j = g.length by omega] at this, fun u x => ⟨fun h => .inl h, fun h => h.elim id (fun ⟨i, _, h1, h2, _⟩ => by omega)⟩, Ev.step (f := fun _ => some T) (fun k => by simp only [Qao.l0]; rw [if_neg (by omega)]) (Ev.now _)⟩
 | succ d ih =>
  intro j T hj hT hz
  have hjg : j < g.length := by omega
  have er : rd_L12 g (j : Int) = g.getD j [] := by simp [rd_L12]
  obtain ⟨T1, a1, a2, a3, a4⟩ := turnd_l1 hg ha hc hcb hjg _ 0 T (Nat.zero_add _) hT hz
  obtain ⟨T', b1, b0, b2, b3⟩ := ih (j + 1) T1 (by omega) a1 a2
  refine ⟨T', b1, b0, fun u x => ?_, Ev.step (fun k => by simp only [Qao.l0]; rw [if_pos (by omega), if_pos (by omega), if_pos (by omega), er]; rfl) (a4 _ b3)⟩
  rw [b2, a3, List.drop_zero]
  constructor
  ·rintro ((h | ⟨h1, h2, h3⟩) | ⟨i, h1, h2, h3, h4, h5⟩)
   ·exact .inl h
   ·exact .inr ⟨j, h1, Nat.le_refl _, hjg, h2, h3⟩
   ·exact .inr ⟨i, h1, by omega, h3, h4, h5⟩
  ·rintro (h | ⟨i, h1, h2, h3, h4, h5⟩)
   ·exact .inl (.inl h)
   ·rcases Nat.eq_or_lt_of_le h2 with e | e
    ·subst e; exact .inl (.inr ⟨h1, h4, h5⟩)
    ·exact .inr ⟨i, h1, e, h3, h4, h5⟩
theorem turnd {g : List (List Int)} (hg : g.length ≤ 1048576) (ha : Arr g) {c : Nat} (hc : ∀ x ∈ g, x.length ≤ c) (hcb : g.length * c ≤ 1048576) : ∃ T : List (List Int), T.length = g.length ∧ (∀ z ∈ T, z.length ≤ 1048576) ∧ (∀ (u : Nat) (x : Int), x ∈ T.getD u [] ↔ ∃ i : Nat, x = (i : Int) ∧ i < g.length ∧ u < g.length ∧ (u : Int) ∈ g.getD i []) ∧ Ev (fun k => Qao.f k g) T := by
 obtain ⟨T, t1, t0, t2, t3⟩ := turnd_l0 hg ha hc hcb g.length 0 (List.replicate g.length []) (Nat.zero_add _) (by simp) (fun z h => by rw [List.eq_of_mem_replicate h]; simp)
 refine ⟨T, t1, fun z h => by have := t0 z h; omega, fun u x => ?_, Ev.congr (fun k => by simp only [Qao.f]; rw [if_pos (by omega), if_pos (by omega), Int.toNat_natCast]; rfl) t3⟩
 rw [t2]
 have e : ∀ y, y ∉ (List.replicate g.length ([] : List Int)).getD u [] := fun y h => by
  rw [List.getD_eq_getElem?_getD, List.getElem?_replicate] at h
  split at h <;> simp at h
 exact ⟨fun h => h.elim (fun h => absurd h (e x)) (fun ⟨i, h1, _, h2, h3, h4⟩ => ⟨i, h1, h2, h3, h4⟩), fun ⟨i, h1, h2, h3, h4⟩ => .inr ⟨i, h1, Nat.zero_le _, h2, h3, h4⟩⟩
theorem rd_toNat {l : List Int} {x : Int} (h : 0 ≤ x) : rd l x = l.getD x.toNat 0 := by obtain ⟨u, rfl⟩ := Int.eq_ofNat_of_zero_le h; rw [rd_nat]; rfl
theorem idx_near (st : List Int) (v m : Int) (hv0 : 0 ≤ v) (hv1 : v < (st.length : Int)) (hm : wrap64 (rd st v - 1) = m) : ∀ (ws : List Int) (s : Int) (i : Nat), (∀ w ∈ ws, 0 ≤ w ∧ w < (st.length : Int)) → i < ws.length → st.getD (ws.getD i 0).toNat 0 = m → (∀ j, j < i → st.getD (ws.getD j 0).toNat 0 ≠ m) → idxO (fun x_ => QbF.f x_ st v) ws s = some (s + i)
 | [], s, i, _, hi, _, _ => by simp at hi
 | w :: t, s, i, hw, hi, h1, h2 => by
  have h3 := hw w (by simp)
  have e : QbF.f w st v = some (st.getD w.toNat 0 == m) := by
   simp only [QbF.f]; rw [if_pos h3.1, if_pos h3.2, if_pos hv0, if_pos hv1, hm, rd_toNat h3.1]
  rw [idxO, e, Option.bind_some]
  cases i with
  | zero =>
   have h4 : st.getD w.toNat 0 = m := h1
   rw [if_pos (by rw [h4]; exact beq_self_eq_true m)]; simp
  | succ i =>
   have h4 : st.getD w.toNat 0 ≠ m := h2 0 (by omega)
   rw [if_neg (by simpa using h4), idx_near st v m hv0 hv1 hm t (s + 1) i (fun x hx => hw x (by simp [hx])) (by simpa using hi) h1 (fun j hj => h2 (j + 1) (by omega))]
   congr 1; omega
section
variable {w v : Nat} {st : List S77} {co : List S82} (h : SP w v st co)
include h
theorem SP.path_scan (no : Int) {m : Nat} (hm : m ≤ 4194304) {ws way : List Int} (hws : Rg (2 ^ (w * v)) ws) (hwl : way.length ≤ 1048576) {i : Nat} (hi : i < ws.length) (h1 : Walk (grS w v co) [ws.getD i 0] m no) (h2 : ∀ j, j < i → ¬ Walk (grS w v co) [ws.getD j 0] m no) {r : List Int × Bool}
  (hr : Ev (fun k => Qaj.l0 k no (wrap64 ((m : Int) - 1)) (way ++ [ws.getD i 0]) (nextS w v co (ws.getD i 0).toNat) (w : Int) (v : Int) st co) r) (d : Nat) : ∀ (j : Nat), j + d = i → Ev (fun k => Qaj.l1 k no (m : Int) way ws (ws.length : Int) (j : Int) (w : Int) (v : Int) st co) r := by
 have hp := h.pow
 have hl := hws.len
 have hb : ∀ j, j < ws.length → ∃ s : Nat, ws.getD j 0 = (s : Int) ∧ s < 2 ^ (w * v) := fun j hj => by
  have h3 := hws.2 _ (getD_mem hj 0)
  obtain ⟨s, hs⟩ := Int.eq_ofNat_of_zero_le h3.1
  exact ⟨s, hs, by omega⟩
 induction d with
 | zero =>
  intro j hj
  obtain rfl : j = i := by omega
  obtain ⟨s, e, hs⟩ := hb j hi
  rw [e] at hr h1
  refine Ev.step (fun k => by simp only [Qaj.l1]; rw [if_pos (by omega), if_pos (by omega), if_pos (by omega), rd_nat, e]) ?_
  refine Ev.bind (tells_ev (h.can no hs hm) h1) (ev_pos rfl (ev_pos (by omega) (Ev.bind (Ev.now _) ?_)))
  have e2 : wrap64 (((way ++ [(s : Int)]).length : Int) - 1) = (way.length : Int) := by
   rw [List.length_append, List.length_singleton, wid (by omega) (by omega)]; omega
  have e3 : rd (way ++ [(s : Int)]) (way.length : Int) = (s : Int) := by rw [rd_nat]; simp
  rw [e2, e3]
  refine ev_pos (by omega) (ev_pos (by rw [List.length_append, List.length_singleton]; omega) ?_)
  exact Ev.bind (h.l8Next hs) hr
 | succ d ih =>
  intro j hj
  obtain ⟨s, e, hs⟩ := hb j (by omega)
  have h3 := h2 j (by omega)
  rw [e] at h3
  refine Ev.step (fun k => by simp only [Qaj.l1]; rw [if_pos (by omega), if_pos (by omega), if_pos (by omega), rd_nat, e, wsucc (by omega)]) ?_
  exact Ev.bind (tells_ev_not (h.can no hs hm) h3) (ev_neg (by simp) (ih (j + 1) (by omega)))
theorem SP.path_both {no : Int} {q : List Int} (hq : To (grS w v co) no q) : ∀ (m : Nat) (ws way : List Int) (i : Nat), m ≤ 32 → way.length + m ≤ 1000 → Rg (2 ^ (w * v)) ws → i < ws.length → q.getD (ws.getD i 0).toNat 0 = (m : Int) → (∀ j, j < i → ¬ Walk (grS w v co) [ws.getD j 0] m no) →
  ∃ r : List Int, r ≠ [] ∧ r.length = way.length + m + 1 ∧ Ev (fun k => Qah.l1 k (grS w v co) (way ++ [ws.getD i 0]) q (ws.getD i 0)) r ∧ Ev (fun k => Qaj.l0 k no (m : Int) way ws (w : Int) (v : Int) st co) (r, true) := by
 have hp := h.pow
 have ha := h.arr
 have gl := grS_length w v co
 have hql := hq.len
 intro m
 induction m with
 | zero =>
  intro ws way i _ hwl hws hi h1 h2
  have h3 := hws.2 _ (getD_mem hi 0)
  obtain ⟨s, hs⟩ := Int.eq_ofNat_of_zero_le h3.1
  rw [hs] at h1 h3
  rw [Int.toNat_natCast] at h1
  have hsl : s < 2 ^ (w * v) := by omega
  have hw := hq.way s (by omega) (by omega)
  rw [h1] at hw
  refine ⟨way ++ [ws.getD i 0], by simp, by simp, ?_, ?_⟩
  ·rw [hs]
   exact Ev.step (f := fun _ => some (way ++ [(s : Int)])) (fun k => by simp only [Qah.l1]; rw [if_pos (by omega), if_pos (by omega), rd_nat, h1, if_neg (by omega)]) (Ev.now _)
  ·refine Ev.step (fun k => by simp only [Qaj.l0]; rw [if_pos (by omega)]) ?_
   refine h.path_scan no (m := 0) (by omega) hws (by omega) hi (by rw [hs]; exact hw) h2 ?_ i 0 (by omega)
   exact Ev.step (f := fun _ => some (way ++ [ws.getD i 0], true)) (fun k => by simp only [Qaj.l0]; rw [show wrap64 (((0 : Nat) : Int) - 1) = -1 by rw [wid (by omega) (by omega)]; rfl, if_neg (by omega)]) (Ev.now _)
 | succ m ih =>
  intro ws way i hmb hwl hws hi h1 h2
  have h3 := hws.2 _ (getD_mem hi 0)
  obtain ⟨s, hs⟩ := Int.eq_ofNat_of_zero_le h3.1
  rw [hs] at h1 h3
  rw [Int.toNat_natCast] at h1
  have hsl : s < 2 ^ (w * v) := by omega
  have hw := hq.way s (by omega) (by omega)
  rw [h1] at hw
  obtain ⟨n1, n2⟩ := hq.next ha (s := s) (m := m) (by omega) h1
  have eg := grS_at (w := w) (v := v) (co := co) hsl
  rw [eg] at n1 n2
  obtain ⟨i2, j1, j2, j3⟩ := first_at q (m : Int) _ n1
  have hr2 := nextS_rg w v co s
  have hr2l := hr2.len
  have j4 := hr2.2 _ (getD_mem j1 0)
  obtain ⟨r, r1, r2, r3, r4⟩ := ih (nextS w v co s) (way ++ [(s : Int)]) i2 (by omega) (by rw [List.length_append, List.length_singleton]; omega) hr2 j1 j2 (fun j hj g => j3 j hj (n2 _ (getD_mem (by omega) 0) g))
  rw [List.length_append, List.length_singleton] at r2
  refine ⟨r, r1, by omega, ?_, ?_⟩
  ·rw [hs]
   have er : rd_L12 (grS w v co) (s : Int) = nextS w v co s := by rw [← eg]; simp [rd_L12]
   have ew : wrap64 (rd q (s : Int) - 1) = (m : Int) := by rw [rd_nat, h1, wid (by omega) (by omega)]; omega
   refine Ev.step (fun k => by simp only [Qah.l1]; rw [if_pos (by omega), if_pos (by omega), rd_nat, h1, if_pos (by omega), if_pos (by omega), er]) ?_
   refine Ev.bind (ev_const (idx_near q (s : Int) m (by omega) (by omega) ew _ 0 i2 (fun x hx => by have := hr2.2 x hx; omega) j1 j2 j3)) ?_
   have e2 : rd (nextS w v co s) (0 + (i2 : Int)) = (nextS w v co s).getD i2 0 := by rw [Int.zero_add, rd_nat]
   rw [e2]
   exact ev_pos (by omega) (ev_pos (by omega) (ev_pos (by rw [List.length_append, List.length_singleton]; omega) r3))
  ·refine Ev.step (fun k => by simp only [Qaj.l0]; rw [if_pos (by omega)]) ?_
   refine h.path_scan no (m := m + 1) (by omega) hws (by omega) hi (by rw [hs]; exact hw) h2 ?_ i 0 (by omega)
   rw [hs, Int.toNat_natCast, show wrap64 (((m + 1 : Nat) : Int) - 1) = (m : Int) by rw [wid (by omega) (by omega)]; omega]
   exact r4
end
theorem best_yes (g : List (List Int)) (q fr : List Int) (hfr : ∀ x ∈ fr, 0 ≤ x ∧ x < (q.length : Int)) (hfl : fr.length ≤ 1048576) (n : Int) (h0 : 0 ≤ n) {i : Nat} (hi : i < fr.length) (h1 : q.getD (fr.getD i 0).toNat 0 = n) (h2 : ∀ x ∈ fr, q.getD x.toNat 0 < 0 ∨ n ≤ q.getD x.toNat 0) (h3 : ∀ j, j < i → q.getD (fr.getD j 0).toNat 0 ≠ n) {r : List Int}
  (hr : Ev (fun k => Qah.l1 k g [fr.getD i 0] q (fr.getD i 0)) r) (d : Nat) : ∀ (j : Nat) (b : Int), j + d = fr.length → (j ≤ i → b = -1 ∨ (0 ≤ b ∧ b < (q.length : Int) ∧ n < q.getD b.toNat 0)) → (i < j → b = fr.getD i 0) → Ev (fun k => Qah.l0 k g b fr (fr.length : Int) (j : Int) q) r := by
 have hfi := hfr _ (getD_mem hi 0)
 induction d with
 | zero =>
  intro j b hj _ hb
  obtain rfl := hb (by omega)
  exact Ev.step (fun k => by simp only [Qah.l0]; rw [if_neg (by omega), if_neg (by omega)]) hr
 | succ d ih =>
  intro j b hj hb1 hb2
  have h4 := hfr _ (getD_mem (l := fr) (j := j) (by omega) 0)
  have e := rd_toNat (l := q) h4.1
  have h5 := h2 _ (getD_mem (l := fr) (j := j) (by omega) 0)
  by_cases hn : q.getD (fr.getD j 0).toNat 0 ≥ 0
  ·by_cases hji : i < j
   ·obtain rfl := hb2 hji
    have eb := rd_toNat (l := q) hfi.1
    exact Ev.step (fun k => by simp only [Qah.l0]; rw [if_pos (by omega), if_pos (by omega), if_pos (by omega), rd_nat, if_pos h4.1, if_pos h4.2, e, if_pos hn, if_neg (by omega), if_pos hfi.1, if_pos hfi.2, eb, if_neg (by omega), wsucc (by omega)]) (ih (j + 1) _ (by omega) (fun g => by omega) (fun _ => rfl))
   ·have hnew : (j + 1 ≤ i → fr.getD j 0 = -1 ∨ (0 ≤ fr.getD j 0 ∧ fr.getD j 0 < (q.length : Int) ∧ n < q.getD (fr.getD j 0).toNat 0)) ∧ (i < j + 1 → fr.getD j 0 = fr.getD i 0) := ⟨fun g => .inr ⟨h4.1, h4.2, by have := h3 j (by omega); omega⟩, fun g => by
     obtain rfl : j = i := by omega
     rfl⟩
    rcases hb1 (by omega) with rfl | ⟨b1, b2, b3⟩
    ·exact Ev.step (fun k => by simp only [Qah.l0]; rw [if_pos (by omega), if_pos (by omega), if_pos (by omega), rd_nat, if_pos h4.1, if_pos h4.2, e, if_pos hn, if_pos (by omega), wsucc (by omega)]) (ih (j + 1) _ (by omega) hnew.1 hnew.2)
    ·have eb := rd_toNat (l := q) b1
     by_cases hlt : q.getD (fr.getD j 0).toNat 0 < q.getD b.toNat 0
     ·exact Ev.step (fun k => by simp only [Qah.l0]; rw [if_pos (by omega), if_pos (by omega), if_pos (by omega), rd_nat, if_pos h4.1, if_pos h4.2, e, if_pos hn, if_neg (by omega), if_pos b1, if_pos b2, eb, if_pos hlt, wsucc (by omega)]) (ih (j + 1) _ (by omega) hnew.1 hnew.2)
     ·exact Ev.step (fun k => by simp only [Qah.l0]; rw [if_pos (by omega), if_pos (by omega), if_pos (by omega), rd_nat, if_pos h4.1, if_pos h4.2, e, if_pos hn, if_neg (by omega), if_pos b1, if_pos b2, eb, if_neg hlt, wsucc (by omega)]) (ih (j + 1) _ (by omega) (fun _ => .inr ⟨b1, b2, b3⟩) (fun g => by
       obtain rfl : j = i := by omega
       omega))
  ·refine Ev.step (fun k => by simp only [Qah.l0]; rw [if_pos (by omega), if_pos (by omega), if_pos (by omega), rd_nat, if_pos h4.1, if_pos h4.2, e, if_neg hn, wsucc (by omega)]) (ih (j + 1) _ (by omega) (fun g => hb1 (by omega)) (fun g => ?_))
   by_cases hji : i < j
   ·exact hb2 hji
   ·obtain rfl : j = i := by omega
    omega
theorem best_no (g : List (List Int)) (q fr : List Int) (hfr : ∀ x ∈ fr, 0 ≤ x ∧ x < (q.length : Int)) (hfl : fr.length ≤ 1048576) (h2 : ∀ x ∈ fr, q.getD x.toNat 0 < 0) (d : Nat) : ∀ (j : Nat), j + d = fr.length → Ev (fun k => Qah.l0 k g (-1) fr (fr.length : Int) (j : Int) q) [] := by
 induction d with
 | zero => exact fun j hj => Ev.step (f := fun _ => some []) (fun k => by simp only [Qah.l0]; rw [if_neg (by omega), if_pos (by omega)]) (Ev.now _)
 | succ d ih =>
  intro j hj
  have h4 := hfr _ (getD_mem (l := fr) (j := j) (by omega) 0)
  have e := rd_toNat (l := q) h4.1
  have h5 := h2 _ (getD_mem (l := fr) (j := j) (by omega) 0)
  exact Ev.step (fun k => by simp only [Qah.l0]; rw [if_pos (by omega), if_pos (by omega), if_pos (by omega), rd_nat, if_pos h4.1, if_pos h4.2, e, if_neg (by omega), wsucc (by omega)]) (ih (j + 1) (by omega))
theorem walk_one {g : List (List Int)} {fr : List Int} : ∀ (n : Nat) (y : Int), Walk g fr n y → ∃ s ∈ fr, Walk g [s] n y
 | 0, y, h => ⟨y, h, List.mem_singleton.2 rfl⟩
 | n + 1, y, ⟨u, h1, h2, h3⟩ => by
  obtain ⟨s, s1, s2⟩ := walk_one n u h2
  exact ⟨s, s1, u, h1, s2, h3⟩
theorem walk_many {g : List (List Int)} {fr : List Int} {s : Int} (hs : s ∈ fr) : ∀ (n : Nat) (y : Int), Walk g [s] n y → Walk g fr n y
 | 0, y, h => by rw [List.mem_singleton.1 h]; exact hs
 | n + 1, y, ⟨u, h1, h2, h3⟩ => ⟨u, h1, walk_many hs n u h2, h3⟩
theorem PathTo_both (wi va : Int) (st : List S77) (co : List S82) (no : Int) (hst : Wd st) (hco : ∀ c ∈ co, Wd c.f0 ∧ ∀ x ∈ c.f1, Wd x.f1) (hcl : ∀ c ∈ co, c.f1.length ≤ 9223372036854775807) :
  ∃ r : List Int × Bool, r.1.length ≤ 1000 ∧ Ev (fun k => Qaj.f k wi va st co no) r ∧ Ev (fun k => QaY.f k wi va st co no) r := by
 have n1 : Ev (fun k => Qat.j0 k no true wi va st co) (0, false) := Ev.step (f := fun _ => some (0, false)) (fun k => by simp only [Qat.j0, if_true]) (Ev.now _)
 have g1 := l7Small_tells wi va st co hst hco
 have g2 := isNo_tells wi va st co no hcl
 by_cases hsm : SmallP wi va st co
 ·by_cases h : NoOk wi va st co no
  ·have g4 := tells_ev g2 h
   obtain ⟨_, h0, h1⟩ := h
   obtain ⟨w, v, rfl, rfl, hS⟩ := SP.of hsm hst hco
   obtain ⟨n, rfl⟩ := Int.eq_ofNat_of_zero_le h0
   rw [show ((w : Int) * (v : Int)).toNat = w * v by rw [← Int.natCast_mul, Int.toNat_natCast], ← two_nat] at h1
   have hn : n < 2 ^ (w * v) := by omega
   have hp := hS.pow
   have gl := grS_length w v co
   have hsr := hS.start_rg st
   have hsl := hsr.len
   have hw := hS.wher hS.prg.1.1 hst
   obtain ⟨T, t1, t2, t3, t4⟩ := turnd (g := grS w v co) (by omega) hS.arr (c := 32) (fun x hx => by
    obtain ⟨i, hi, rfl⟩ := List.getElem_of_mem hx
    rw [gl] at hi
    have e := grS_at (w := w) (v := v) (co := co) hi
    rw [getD_eq (by omega)] at e
    rw [e]
    have := (nextS_rg w v co i).len
    omega) (by rw [gl]; omega)
   have hTa : Arr T := fun x hx => ⟨t2 x hx, fun y hy => by
    obtain ⟨u, hu, rfl⟩ := List.getElem_of_mem hx
    have := (t3 u y).1 (by rw [getD_eq hu]; exact hy)
    obtain ⟨i, i1, i2, _⟩ := this
    omega⟩
   obtain ⟨q, q1, q2⟩ := steps_dist (g := T) (by omega) hTa (fr := [(n : Int)]) (fun x hx => by rw [List.mem_singleton.1 hx]; omega) (by simp)
   have hq := q1.to hS.arr t1 t3
   have hql := hq.len
   have hfr : ∀ x ∈ whereS w v st, 0 ≤ x ∧ x < (q.length : Int) := fun x hx => by have := hsr.2 x hx; omega
   have eI : ∀ {r : List Int × Bool}, Ev (fun k => (Qah.l0 k (grS w v co) (-1) (whereS w v st) ((whereS w v st).length : Int) 0 q).bind fun t => if t = [] then some (t, false) else some (t, true)) r → Ev (fun k => QaY.f k (w : Int) (v : Int) st co (n : Int)) r := fun hr => by
    refine Ev.bind g4 (ev_pos rfl (Ev.bind hS.graph (Ev.bind hw ?_)))
    obtain ⟨k0, hk⟩ := hr
    obtain ⟨k1, hk1⟩ := t4
    obtain ⟨k2, hk2⟩ := q2
    exact ⟨max k0 (max k1 k2), fun k hk3 => by
     have a1 : Qao.f k (grS w v co) = some T := hk1 k (by omega)
     have a2 : Qaf.f k T [(n : Int)] = some q := hk2 k (by omega)
     have a0 := hk k (by omega)
     simp only [Qah.f, a1, a2, Option.bind_some]
     exact a0⟩
   by_cases hr : ∃ m, Walk (grS w v co) (whereS w v st) m (n : Int)
   ·obtain ⟨m, hm⟩ := hr
    obtain ⟨dd, d1, d2, d3, d4⟩ := hS.steps_yes hst g1 hsm hm
    have hfrom : ∀ s ∈ whereS w v st, ∀ k, Walk (grS w v co) [s] k (n : Int) → dd ≤ k := fun s hs k hk => d3 k (walk_many hs k _ hk)
    have hx2 : ∀ x ∈ whereS w v st, q.getD x.toNat 0 < 0 ∨ (dd : Int) ≤ q.getD x.toNat 0 := fun x hx => by
     have := hsr.2 x hx
     obtain ⟨s, rfl⟩ := Int.eq_ofNat_of_zero_le this.1
     rw [Int.toNat_natCast]
     by_cases g : q.getD s 0 < 0
     ·exact .inl g
     ·have := hfrom _ hx _ (hq.way s (by omega) (by omega))
      exact .inr (by omega)
    have hat : ∀ s ∈ whereS w v st, Walk (grS w v co) [s] dd (n : Int) → q.getD s.toNat 0 = (dd : Int) := fun s hs hk => by
     have := hsr.2 s hs
     obtain ⟨u, rfl⟩ := Int.eq_ofNat_of_zero_le this.1
     have a1 := hq.least dd u (by omega) hk
     have a2 := hx2 _ hs
     rw [Int.toNat_natCast] at a2 ⊢
     omega
    obtain ⟨s0, s1, s2⟩ := walk_one dd _ d2
    obtain ⟨i, i1, i2, i3⟩ := first_at q (dd : Int) (whereS w v st) ⟨s0, s1, hat s0 s1 s2⟩
    obtain ⟨r, r1, r2, r3, r4⟩ := hS.path_both hq dd (whereS w v st) [] i d1 (by simp; omega) hsr i1 i2 (fun j hj g => i3 j hj (hat _ (getD_mem (by omega) 0) g))
    rw [List.length_nil] at r2
    refine ⟨(r, true), by show r.length ≤ 1000; omega, Ev.bind d4 (ev_pos rfl ?_), eI ?_⟩
    ·exact Ev.bind (hS.those hS.prg.1.1 hst) r4
    ·refine Ev.bind (best_yes (grS w v co) q (whereS w v st) hfr (by omega) (dd : Int) (by omega) i1 i2 hx2 i3 r3 _ 0 (-1) (Nat.zero_add _) (fun _ => .inl rfl) (fun g => by omega)) ?_
     exact ev_neg r1 (Ev.now _)
   ·have d4 := hS.steps_no hst g1 hsm (x := (n : Int)) (fun m g => hr ⟨m, g⟩)
    refine ⟨([], false), by simp, Ev.bind d4 (ev_neg (by simp) (Ev.now _)), eI ?_⟩
    refine Ev.bind (best_no (grS w v co) q (whereS w v st) hfr (by omega) (fun x hx => ?_) _ 0 (Nat.zero_add _)) (ev_pos rfl (Ev.now _))
    have := hsr.2 x hx
    obtain ⟨s, rfl⟩ := Int.eq_ofNat_of_zero_le this.1
    rw [Int.toNat_natCast]
    by_cases g : q.getD s 0 < 0
    ·exact g
    ·exact absurd ⟨_, walk_many hx _ _ (hq.way s (by omega) (by omega))⟩ hr
  ·have g4 := tells_ev_not g2 h
   obtain ⟨w, v, rfl, rfl, hS⟩ := SP.of hsm hst hco
   have gl := grS_length w v co
   have hsr := hS.start_rg st
   have d4 := hS.steps_no hst g1 hsm (x := no) (fun m g => h (by
    have := Walk.in_ hS.arr (fun y hy => by rw [gl]; exact hsr.2 y hy) g
    rw [gl] at this
    refine ⟨hsm, this.1, ?_⟩
    rw [show ((w : Int) * (v : Int)).toNat = w * v by rw [← Int.natCast_mul, Int.toNat_natCast], ← two_nat]
    exact this.2))
   exact ⟨([], false), by simp, Ev.bind d4 (ev_neg (by simp) (Ev.now _)), Ev.bind g4 (ev_neg (by simp) (Ev.now _))⟩
 ·exact ⟨([], false), by simp, Ev.bind (Ev.bind (tells_ev_not g1 hsm) (ev_neg (by simp) n1)) (ev_neg (by simp) (Ev.now _)), Ev.bind (tells_ev_not g2 (fun g => hsm g.1)) (ev_neg (by simp) (Ev.now _))⟩
theorem eqIntS_l0 (l : List Int) (hl : l.length ≤ 9223372036854775807) (d : Nat) : ∀ (j : Nat), j + d = l.length → Ev (fun k => QaU.l0 k l l (j : Int)) true := by
 induction d with
 | zero => exact fun j hd => Ev.step (f := fun _ => some true) (fun k => by simp only [QaU.l0]; rw [if_neg (by omega)]) (Ev.now _)
 | succ d ih => exact fun j hd => Ev.step (fun k => by simp only [QaU.l0, if_true]; rw [if_pos (by omega), if_pos (by omega), if_pos (by omega), wsucc (by omega)]) (ih (j + 1) (by omega))
theorem eqIntS_ev (l : List Int) (hl : l.length ≤ 9223372036854775807) : Ev (fun k => QaU.f k l l) true :=
 Ev.congr (fun k => by simp only [QaU.f, if_true]; rfl) (eqIntS_l0 l hl l.length 0 (by omega))
def OkCh (x : S100) : Prop := x.f1.length ≤ 1048576
def OkCo (x : S82) : Prop := x.f0.length ≤ 1048576 ∧ x.f1.length ≤ 1048576 ∧ ∀ y ∈ x.f1, OkCh y
theorem eqNodeS_ev (l : List S77) (hl : l.length ≤ 1048576) : Ev (fun k => Qap.f k l l) true :=
 ev_pos rfl (all_loop (fun k j => Qap.l0 k l l j) l.length (fun j hj he => Ev.step (fun k => by simp only [Qap.l0, QbL.f, if_true, Option.bind_some]; rw [if_pos (by omega), if_pos (by omega), if_pos (by omega), wsucc (by omega)]) he)
  (Ev.step (f := fun _ => some true) (fun k => by simp only [Qap.l0]; rw [if_neg (by omega)]) (Ev.now _)) l.length 0 (by omega))
theorem eqChangeS_ev (l : List S100) (hl : l.length ≤ 1048576) (hx : ∀ x ∈ l, OkCh x) : Ev (fun k => Qay.f k l l) true := by
 have e1 : ∀ (j : Nat) (k : Nat), j < l.length → Qay.l0 (k + 1) l l (j : Int) = ((Qbg.f k (l.getD j z100).f0 (l.getD j z100).f1 (l.getD j z100).f0 (l.getD j z100).f1).bind fun t => if t = true then Qay.l0 k l l ((j + 1 : Nat) : Int) else some false) := fun j k hj => by
  have er : rd_T100 l (j : Int) = l.getD j z100 := by simp [rd_T100]
  simp only [Qay.l0]
  rw [if_pos (by omega), if_pos (by omega), if_pos (by omega), wsucc (by omega), er]
 have e2 : ∀ x : S100, OkCh x → Ev (fun k => Qbg.f k x.f0 x.f1 x.f0 x.f1) true := fun x h => ev_pos rfl (Ev.bind (eqNodeS_ev x.f1 h) (ev_pos rfl (Ev.now _)))
 exact ev_pos rfl (all_loop (fun k j => Qay.l0 k l l j) l.length (fun j hj he => Ev.step (fun k => e1 j k hj) (Ev.bind (e2 _ (hx _ (getD_mem hj _))) (ev_pos rfl he)))
  (Ev.step (f := fun _ => some true) (fun k => by simp only [Qay.l0]; rw [if_neg (by omega)]) (Ev.now _)) l.length 0 (by omega))
theorem eqCommandS_ev (l : List S82) (hl : l.length ≤ 1048576) (hx : ∀ x ∈ l, OkCo x) : Ev (fun k => Qaz.f k l l) true := by
 have e1 : ∀ (j : Nat) (k : Nat), j < l.length → Qaz.l0 (k + 1) l l (j : Int) = ((Qbh.f k (l.getD j z82).f0 (l.getD j z82).f1 (l.getD j z82).f0 (l.getD j z82).f1).bind fun t => if t = true then Qaz.l0 k l l ((j + 1 : Nat) : Int) else some false) := fun j k hj => by
  have er : rd_T82 l (j : Int) = l.getD j z82 := by simp [rd_T82]
  simp only [Qaz.l0]
  rw [if_pos (by omega), if_pos (by omega), if_pos (by omega), wsucc (by omega), er]
 have e2 : ∀ x : S82, OkCo x → Ev (fun k => Qbh.f k x.f0 x.f1 x.f0 x.f1) true := fun x h => Ev.bind (eqNodeS_ev x.f0 h.1) (ev_pos rfl (Ev.bind (eqChangeS_ev x.f1 h.2.1 h.2.2) (ev_pos rfl (Ev.now _))))
 exact ev_pos rfl (all_loop (fun k j => Qaz.l0 k l l j) l.length (fun j hj he => Ev.step (fun k => e1 j k hj) (Ev.bind (e2 _ (hx _ (getD_mem hj _))) (ev_pos rfl he)))
  (Ev.step (f := fun _ => some true) (fun k => by simp only [Qaz.l0]; rw [if_neg (by omega)]) (Ev.now _)) l.length 0 (by omega))
theorem eqProgram_ev (wi va : Int) (st : List S77) (co : List S82) (h1 : st.length ≤ 1048576) (h2 : co.length ≤ 1048576) (h3 : ∀ x ∈ co, OkCo x) : Ev (fun k => Qby.f k wi va st co wi va st co) true :=
 ev_pos rfl (ev_pos rfl (Ev.bind (eqNodeS_ev st h1) (ev_pos rfl (Ev.bind (eqCommandS_ev co h2 h3) (ev_pos rfl (Ev.now _))))))
theorem mkCh_le (c : Nat) : ∀ (l : List Nat), (∀ x ∈ l, x ≤ c) → mk100 l ≤ l.length * (1 + 2 * c)
 | [], _ => by simp [mk100]
 | x :: t, h => by
  have h1 := mkCh_le c t (fun y hy => h y (by simp [hy]))
  have h2 := h x (by simp)
  rw [mk100, List.length_cons, Nat.add_mul, Nat.one_mul]; omega
theorem mkCo_le (c : Nat) : ∀ (l : List (Nat × List Nat)), (∀ x ∈ l, 2 * x.1 + mk100 x.2 ≤ c) → mk82 l ≤ l.length * c
 | [], _ => by simp [mk82]
 | x :: t, h => by
  have h1 := mkCo_le c t (fun y hy => h y (by simp [hy]))
  have h2 := h x (by simp)
  rw [mk82, List.length_cons, Nat.add_mul, Nat.one_mul]; omega
theorem mkTot_le (st : List S77) (co : List S82) (h1 : st.length ≤ 1048576) (h2 : co.length ≤ 1048576) (h3 : ∀ c ∈ co, c.f0.length ≤ 1048576 ∧ c.f1.length ≤ 1048576 ∧ ∀ x ∈ c.f1, x.f1.length ≤ 1048576) : mkTot st co ≤ 2305846307750674432 := by
 have h4 : mk82 (co.map (fun x => (x.f0.length, x.f1.map (fun y => y.f1.length)))) ≤ co.length * 2199026401280 := by
  have := mkCo_le 2199026401280 (co.map (fun x => (x.f0.length, x.f1.map (fun y => y.f1.length)))) (fun p hp => by
   obtain ⟨c, hc, rfl⟩ := List.mem_map.1 hp
   obtain ⟨g1, g2, g3⟩ := h3 c hc
   have g4 := mkCh_le 1048576 (c.f1.map (fun y => y.f1.length)) (fun x hx => by
    obtain ⟨y, hy, rfl⟩ := List.mem_map.1 hx
    exact g3 y hy)
   have g5 : c.f1.length * (1 + 2 * 1048576) ≤ 1048576 * (1 + 2 * 1048576) := Nat.mul_le_mul_right _ g2
   simp only [List.length_map] at g4 ⊢
   omega)
  simpa using this
 have h5 : co.length * 2199026401280 ≤ 1048576 * 2199026401280 := Nat.mul_le_mul_right _ h2
 unfold mkTot
 omega
theorem markProgram_ev (wi va : Int) (st : List S77) (co : List S82) (h1 : st.length ≤ 1048576) (h2 : co.length ≤ 1048576) (h3 : ∀ c ∈ co, c.f0.length ≤ 1048576 ∧ c.f1.length ≤ 1048576 ∧ ∀ x ∈ c.f1, x.f1.length ≤ 1048576) :
  Ev (fun k => QbG.f k wi va st co 1) (1 + mkTot st co) := by
 have := mkTot_le st co h1 h2 h3
 exact ⟨0, fun k _ => by unfold QbG.f; rw [if_pos (by omega)]⟩
theorem markIntS_l0 (d : Nat) : ∀ (j : Nat) (y : List Int) (a : Int), j + d = y.length → y.length ≤ 1048576 → 0 ≤ a → a + d ≤ 4611686018427387904 → Ev (fun k => QaX.l0 k y a (j : Int)) (a + d, y.take j ++ cnt d a) := by
 induction d with
 | zero =>
  intro j y a hd hy h0 h1
  refine ev_eq (Ev.step (f := fun _ => some (a, y)) (fun k => by simp only [QaX.l0]; rw [if_neg (by omega)]) (Ev.now _)) ?_
  rw [List.take_of_length_le (by omega)]; simp [cnt]
 | succ d ih =>
  intro j y a hd hy h0 h1
  refine Ev.step (fun k => by simp only [QaX.l0]; rw [if_pos (by omega), if_pos (by omega), wsucc (by omega), wid (x := a + 1) (by omega) (by omega)]) ?_
  refine ev_eq (ih (j + 1) (y.set ((j : Int)).toNat a) (a + 1) (by simp; omega) (by simpa using hy) (by omega) (by omega)) ?_
  simp only [Int.toNat_natCast]
  rw [List.take_succ_eq_append_getElem (by simp; omega), List.take_set_of_le (Nat.le_refl j)]
  simp [cnt]; omega
theorem markIntS_ev (y : List Int) (a : Int) (hy : y.length ≤ 1048576) (h0 : 0 ≤ a) (h1 : a ≤ 2305843009213693952) : Ev (fun k => QaX.f k y a) (a + y.length, cnt y.length a) :=
 ev_eq (markIntS_l0 y.length 0 y a (by omega) hy h0 (by omega)) (by simp)
theorem heldIntS_l0 (y : List Int) (hy : y.length ≤ 1048576) (d : Nat) : ∀ (j : Nat) (a : Int), j + d = y.length → y.drop j = cnt d a → 0 ≤ a → a + d ≤ 4611686018427387904 → Ev (fun k => QaW.l0 k y a (j : Int)) (a + d) := by
 induction d with
 | zero =>
  intro j a hd hc h0 h1
  exact ev_eq (Ev.step (f := fun _ => some a) (fun k => by simp only [QaW.l0]; rw [if_neg (by omega)]) (Ev.now _)) (by omega)
 | succ d ih =>
  intro j a hd hc h0 h1
  rw [drop_cons (by omega) 0, cnt] at hc
  obtain ⟨h2, h3⟩ := List.cons.inj hc
  refine Ev.step (fun k => by simp only [QaW.l0]; rw [if_pos (by omega), if_pos (by omega), rd_nat, if_pos h2, wsucc (by omega), wid (x := a + 1) (by omega) (by omega)]) ?_
  exact ev_eq (ih (j + 1) (a + 1) (by omega) h3 (by omega) (by omega)) (by omega)
theorem heldIntS_ev (n : Nat) (a : Int) (hn : n ≤ 1048576) (h0 : 0 ≤ a) (h1 : a ≤ 2305843009213693952) : Ev (fun k => QaW.f k (cnt n a) a) (a + n) :=
 heldIntS_l0 (cnt n a) (by rw [cnt_length]; exact hn) n 0 a (by rw [cnt_length]; omega) (by simp) h0 (by omega)
structure Come (st : List S79) (co : List S61) : Prop where
 s1 : st.length ≤ 1048576
 s2 : co.length ≤ 1048576
 s3 : ∀ x ∈ co, SmallCo x
 wst : Wd (st.map cNode)
 wco : ∀ c ∈ co.map cCommand, Wd c.f0 ∧ ∀ x ∈ c.f1, Wd x.f1
 ok : ∀ x ∈ co.map cCommand, OkCo x
theorem come_in {st : List S79} {co : List S61} (hst : st.length ≤ 9223372036854775807 ∧ ∀ x ∈ st, In64 x.f0 ∧ InU64 x.f1)
  (hco : co.length ≤ 9223372036854775807 ∧ ∀ x ∈ co, (x.f0.length ≤ 9223372036854775807 ∧ ∀ y ∈ x.f0, In64 y.f0 ∧ InU64 y.f1) ∧ (x.f1.length ≤ 9223372036854775807 ∧ ∀ y ∈ x.f1, In64 y.f0 ∧ (y.f1.length ≤ 9223372036854775807 ∧ ∀ z ∈ y.f1, In64 z.f0 ∧ InU64 z.f1)))
  (h1 : st.length ≤ 1048576) (h2 : co.length ≤ 1048576) (h3 : ∀ x ∈ co, SmallCo x) : Come st co := by
 have wd : ∀ l : List S79, (∀ y ∈ l, InU64 y.f1) → Wd (l.map cNode) := fun l hl x hx => by
  obtain ⟨y, hy, rfl⟩ := List.mem_map.1 hx
  have := hl y hy
  unfold InU64 at this
  simp only [cNode]; omega
 refine ⟨h1, h2, h3, wd st (fun y hy => (hst.2 y hy).2), fun x hx => ?_, fun x hx => ?_⟩
 ·obtain ⟨y, hy, rfl⟩ := List.mem_map.1 hx
  refine ⟨wd y.f0 (fun z hz => ((hco.2 y hy).1.2 z hz).2), fun z hz => ?_⟩
  obtain ⟨u, hu, rfl⟩ := List.mem_map.1 hz
  exact wd u.f1 (fun q hq => (((hco.2 y hy).2.2 u hu).2.2 q hq).2)
 ·obtain ⟨y, hy, rfl⟩ := List.mem_map.1 hx
  obtain ⟨g1, g2, g3⟩ := h3 y hy
  refine ⟨by simpa [cCommand] using g1, by simpa [cCommand] using g2, fun z hz => ?_⟩
  obtain ⟨u, hu, rfl⟩ := List.mem_map.1 hz
  have := g3 u hu
  unfold SmallCh at this
  simpa [OkCh, cChange] using this
theorem Come.few {st : List S79} {co : List S61} (h : Come st co) : ∀ c ∈ co.map cCommand, c.f1.length ≤ 9223372036854775807 := fun x hx => by have := (h.ok x hx).2.1; omega

theorem FnExactPathTo : ∀ (a0_0 : Int) (a0_1 : Int) (l0_2 : List (S79)) (l0_3 : List (S61)) (a1 : Int), (In64 a0_0) → (In64 a0_1) → (l0_2.length ≤ 9223372036854775807 ∧ ∀ x ∈ l0_2, (In64 x.f0) ∧ (InU64 x.f1)) → (l0_3.length ≤ 9223372036854775807 ∧ ∀ x ∈ l0_3, (x.f0.length ≤ 9223372036854775807 ∧ ∀ y ∈ x.f0, (In64 y.f0) ∧ (InU64 y.f1)) ∧ (x.f1.length ≤ 9223372036854775807 ∧ ∀ y ∈ x.f1, (In64 y.f0) ∧ (y.f1.length ≤ 9223372036854775807 ∧ ∀ x ∈ y.f1, (In64 x.f0) ∧ (InU64 x.f1)))) → (In64 a1) → ∃ k, laws_FnExactPathTo.Holds k a0_0 a0_1 l0_2 l0_3 a1 := by
  intro wi va st co no _ _ hst hco _
  obtain ⟨t, ht, hp⟩ := szProgram_ev wi va st co hst.1 hco.1 (fun x hx => ⟨(hco.2 x hx).1.1, (hco.2 x hx).2.1, fun y hy => ((hco.2 x hx).2.2 y hy).2.1⟩)
  by_cases h : t < 0
  · obtain ⟨k, hk⟩ := (ev_late ht).ex
    exact ⟨k, t, hk, .inl h⟩
  obtain ⟨_, h1, h2, h3⟩ := hp (by omega)
  have C := come_in hst hco h1 h2 h3
  obtain ⟨⟨b1, b2⟩, hb, e1, e2⟩ := PathTo_both wi va (st.map cNode) (co.map cCommand) no C.wst C.wco C.few
  have hb : b1.length ≤ 1000 := hb
  have hm := markProgram_ev wi va (st.map cNode) (co.map cCommand) (by simpa using h1) (by simpa using h2) C.ok
  have ht2 := mkTot_le (st.map cNode) (co.map cCommand) (by simpa using h1) (by simpa using h2) C.ok
  have hm3 := markIntS_ev b1 1 (by omega) (by omega) (by omega)
  have hh := heldIntS_ev b1.length 1 (by omega) (by omega) (by omega)
  obtain ⟨k, a1, a2, a3, a4, a5, a6, a7, a8, a9⟩ := ((ev_late ht).and ((ev_late (toProgram_ev wi va st co h1 h2 h3)).and ((ev_late e1).and ((ev_late e2).and ((ev_late (eqIntS_ev b1 (by omega))).and ((ev_late (eqProgram_ev wi va (st.map cNode) (co.map cCommand) (by simpa using h1) (by simpa using h2) C.ok)).and ((ev_late hm).and ((ev_late hm3).and (ev_late hh))))))))).ex
  exact ⟨k, t, a1, .inr ⟨h, _, _, b1, b2, _, _, _, a2, a3, a4, a5, a6, a7, a8, a9, by omega, by omega⟩⟩

end Go.Proofs.YtdbfcmoifpgnbaaGreat.Pure
