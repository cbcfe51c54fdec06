
/- The pure statement of the law FnExactPlayCommands: what the printed functions compute makes the law true, for every input. No condition. -/
import Derived.Test.YtjenmoopbmklfaaGreatOpen
import Derived.Test.YtjenmoopbmklfaaGreatAid
import Derived.Test.YtjenmoopbmklfaaGreatMFnExactPlayCommands5
set_option linter.unusedVariables false
set_option linter.unusedSimpArgs false
namespace Go.Proofs.YtjenmoopbmklfaaGreat.Pure
open Go.RowKit Go.Proofs.YtjenmoopbmklfaaGreatW.PrintWords Go.Proofs.YtjenmoopbmklfaaGreat.P Go.Proofs.YtjenmoopbmklfaaGreat.Hof Go.Proofs.YtjenmoopbmklfaaGreat.Open Go.Proofs.YtjenmoopbmklfaaGreat.Aid
-- LEMMAS
theorem szNodeS_eq (l : List S82) (n : Int) (hl : l.length ≤ 9223372036854775807) (h0 : 0 ≤ n) (h1 : n ≤ 1048576) : laws_szNodeS.f l n = some (if (l.length : Int) ≤ n then n - (l.length : Int) else -1) := by
 have e : wrap64 (n - (l.length : Int)) = n - l.length := wid (by omega) (by omega)
 simp only [laws_szNodeS.f]
 rw [e]
 by_cases h : (l.length : Int) ≤ n
 ·rw [if_neg (by omega), if_pos h]
 ·rw [if_pos (by omega), if_neg h]
theorem szNodeS_ev (l : List S82) (n : Int) (hl : l.length ≤ 9223372036854775807) (h0 : 0 ≤ n) (h1 : n ≤ 1048576) : ∃ t, Ev (fun _ => laws_szNodeS.f l n) t ∧ (0 ≤ t → t ≤ n ∧ l.length ≤ 1048576) := by
 refine ⟨_, ev_const (szNodeS_eq l n hl h0 h1), fun h => ?_⟩
 by_cases h2 : (l.length : Int) ≤ n
 ·rw [if_pos h2] at h ⊢; omega
 ·rw [if_neg h2] at h; omega
def cNode (x : S82) : S80 := ⟨x.f0, x.f1⟩
def cChange (x : S108) : S94 := ⟨x.f0, x.f1.map cNode⟩
def cCommand (x : S67) : S72 := ⟨x.f0.map cNode, x.f1.map cChange⟩
def BigCh (x : S108) : Prop := x.f1.length ≤ 9223372036854775807
def BigCo (x : S67) : Prop := x.f0.length ≤ 9223372036854775807 ∧ x.f1.length ≤ 9223372036854775807 ∧ ∀ y ∈ x.f1, BigCh y
def SmallCh (x : S108) : Prop := x.f1.length ≤ 1048576
def SmallCo (x : S67) : Prop := x.f0.length ≤ 1048576 ∧ x.f1.length ≤ 1048576 ∧ ∀ y ∈ x.f1, SmallCh y
theorem szChange_ev (x : S108) (hx : BigCh x) (a : Int) (h0 : 0 ≤ a) (h1 : a ≤ 1048576) : ∃ t, Ev (fun _ => laws_szChange.f x.f0 x.f1 a) t ∧ (0 ≤ t → t ≤ a ∧ SmallCh x) := by
 obtain ⟨t, ht, hp⟩ := szNodeS_ev x.f1 a hx h0 h1
 by_cases h : t < 0
 ·exact ⟨-1, Ev.bind ht (ev_pos h (Ev.now _)), fun h => by omega⟩
 ·exact ⟨t, Ev.bind ht (ev_neg h (Ev.now _)), hp⟩
theorem szChangeS_ev (l : List S108) (a : Int) (hl : l.length ≤ 9223372036854775807) (hx : ∀ x ∈ l, BigCh x) (h0 : 0 ≤ a) (h1 : a ≤ 1048576) : ∃ t, Ev (fun k => laws_szChangeS.f k l a) t ∧ (0 ≤ t → t ≤ a ∧ l.length ≤ 1048576 ∧ ∀ x ∈ l, SmallCh x) := by
 have e : wrap64 (a - (l.length : Int)) = a - l.length := wid (by omega) (by omega)
 have e1 : ∀ (j : Nat) (a : Int) (k : Nat), j < l.length → laws_szChangeS.l0 (k + 1) l a (j : Int) = ((laws_szChange.f (l.getD j z108).f0 (l.getD j z108).f1 a).bind fun t => if t < 0 then some (-1) else laws_szChangeS.l0 k l t ((j + 1 : Nat) : Int)) := fun j a k hj => by
  have er : rd_T108 l (j : Int) = l.getD j z108 := by simp [rd_T108]
  simp only [laws_szChangeS.l0]
  rw [if_pos (by omega), if_pos (by omega), wsucc (by omega), er]
 have hE : ∀ x ∈ l, ∀ a : Int, 0 ≤ a → a ≤ 1048576 → ∃ t, Ev (fun _ => laws_szChange.f x.f0 x.f1 a) t ∧ (0 ≤ t → t ≤ a ∧ SmallCh x) := fun x hx2 a h2 h3 => szChange_ev x (hx x hx2) a h2 h3
 have hL := sz_loop (α := S108) (fun _ x a => laws_szChange.f x.f0 x.f1 a) (fun k a j => laws_szChangeS.l0 k l a j) SmallCh l z108 hE
 have hL := hL (fun j a r hj he => Ev.step (fun k => e1 j a k hj) he)
 have hL := hL (fun a => Ev.step (f := fun _ => some a) (fun k => by simp only [laws_szChangeS.l0]; rw [if_neg (by omega)]) (Ev.now _))
 by_cases h : (l.length : Int) ≤ a
 ·obtain ⟨t, ht, hp⟩ := hL l.length 0 (a - l.length) (by omega) (by omega) (by omega)
  refine ⟨t, Ev.congr (fun k => by simp only [laws_szChangeS.f]; rw [e, if_neg (by omega)]; rfl) ht, fun h2 => ?_⟩
  obtain ⟨h3, h4⟩ := hp h2
  exact ⟨by omega, by omega, by simpa using h4⟩
 ·exact ⟨-1, Ev.congr (f := fun _ => some (-1)) (fun k => by simp only [laws_szChangeS.f]; rw [e, if_pos (by omega)]) (Ev.now _), fun h2 => by omega⟩
theorem szCommand_ev (x : S67) (hx : BigCo x) (a : Int) (h0 : 0 ≤ a) (h1 : a ≤ 1048576) : ∃ t, Ev (fun k => laws_szCommand.f k x.f0 x.f1 a) t ∧ (0 ≤ t → t ≤ a ∧ SmallCo x) := by
 obtain ⟨t, ht, hp⟩ := szNodeS_ev x.f0 a hx.1 h0 h1
 by_cases h : t < 0
 ·exact ⟨-1, Ev.bind ht (ev_pos h (Ev.now _)), fun h => by omega⟩
 ·obtain ⟨h2, h3⟩ := hp (by omega)
  obtain ⟨u, hu, hq⟩ := szChangeS_ev x.f1 t hx.2.1 hx.2.2 (by omega) (by omega)
  by_cases h4 : u < 0
  ·exact ⟨-1, Ev.bind ht (ev_neg h (Ev.bind hu (ev_pos h4 (Ev.now _)))), fun h => by omega⟩
  ·refine ⟨u, Ev.bind ht (ev_neg h (Ev.bind hu (ev_neg h4 (Ev.now _)))), fun h5 => ?_⟩
   obtain ⟨h6, h7, h8⟩ := hq h5
   exact ⟨by omega, h3, h7, h8⟩
theorem szCommandS_ev (l : List S67) (a : Int) (hl : l.length ≤ 9223372036854775807) (hx : ∀ x ∈ l, BigCo x) (h0 : 0 ≤ a) (h1 : a ≤ 1048576) : ∃ t, Ev (fun k => laws_szCommandS.f k l a) t ∧ (0 ≤ t → t ≤ a ∧ l.length ≤ 1048576 ∧ ∀ x ∈ l, SmallCo x) := by
 have e : wrap64 (a - (l.length : Int)) = a - l.length := wid (by omega) (by omega)
 have e1 : ∀ (j : Nat) (a : Int) (k : Nat), j < l.length → laws_szCommandS.l0 (k + 1) l a (j : Int) = ((laws_szCommand.f k (l.getD j z67).f0 (l.getD j z67).f1 a).bind fun t => if t < 0 then some (-1) else laws_szCommandS.l0 k l t ((j + 1 : Nat) : Int)) := fun j a k hj => by
  have er : rd_T67 l (j : Int) = l.getD j z67 := by simp [rd_T67]
  simp only [laws_szCommandS.l0]
  rw [if_pos (by omega), if_pos (by omega), wsucc (by omega), er]
 have hE : ∀ x ∈ l, ∀ a : Int, 0 ≤ a → a ≤ 1048576 → ∃ t, Ev (fun k => laws_szCommand.f k x.f0 x.f1 a) t ∧ (0 ≤ t → t ≤ a ∧ SmallCo x) := fun x hx2 a h2 h3 => szCommand_ev x (hx x hx2) a h2 h3
 have hL := sz_loop (α := S67) (fun k x a => laws_szCommand.f k x.f0 x.f1 a) (fun k a j => laws_szCommandS.l0 k l a j) SmallCo l z67 hE
 have hL := hL (fun j a r hj he => Ev.step (fun k => e1 j a k hj) he)
 have hL := hL (fun a => Ev.step (f := fun _ => some a) (fun k => by simp only [laws_szCommandS.l0]; rw [if_neg (by omega)]) (Ev.now _))
 by_cases h : (l.length : Int) ≤ a
 ·obtain ⟨t, ht, hp⟩ := hL l.length 0 (a - l.length) (by omega) (by omega) (by omega)
  refine ⟨t, Ev.congr (fun k => by simp only [laws_szCommandS.f]; rw [e, if_neg (by omega)]; rfl) ht, fun h2 => ?_⟩
  obtain ⟨h3, h4⟩ := hp h2
  exact ⟨by omega, by omega, by simpa using h4⟩
 ·exact ⟨-1, Ev.congr (f := fun _ => some (-1)) (fun k => by simp only [laws_szCommandS.f]; rw [e, if_pos (by omega)]) (Ev.now _), fun h2 => by omega⟩
theorem szProgram_ev (wi va : Int) (st : List S82) (co : List S67) (hs : st.length ≤ 9223372036854775807) (hc : co.length ≤ 9223372036854775807) (hx : ∀ x ∈ co, BigCo x) :
  ∃ t, Ev (fun k => laws_szProgram.f k wi va st co 1048576) t ∧ (0 ≤ t → t ≤ 1048576 ∧ st.length ≤ 1048576 ∧ co.length ≤ 1048576 ∧ ∀ x ∈ co, SmallCo x) := by
 obtain ⟨t, ht, hp⟩ := szNodeS_ev st 1048576 hs (by omega) (by omega)
 by_cases h : t < 0
 ·exact ⟨-1, Ev.bind ht (ev_pos h (Ev.now _)), fun h => by omega⟩
 ·obtain ⟨h2, h3⟩ := hp (by omega)
  obtain ⟨u, hu, hq⟩ := szCommandS_ev co t hc hx (by omega) (by omega)
  by_cases h4 : u < 0
  ·exact ⟨-1, Ev.bind ht (ev_neg h (Ev.bind hu (ev_pos h4 (Ev.now _)))), fun h => by omega⟩
  ·refine ⟨u, Ev.bind ht (ev_neg h (Ev.bind hu (ev_neg h4 (Ev.now _)))), fun h5 => ?_⟩
   obtain ⟨h6, h7, h8⟩ := hq h5
   exact ⟨by omega, h3, h7, h8⟩
theorem l1In_eq (n lo hi : Int) : spec_l1In.f n lo hi = some (decide (lo ≤ n ∧ n ≤ hi)) := by
 simp only [spec_l1In.f]
 by_cases h : n ≥ lo
 ·rw [if_pos h]; congr 1; simp; intro _; exact h
 ·rw [if_neg h]; congr 1; simp; intro h'; omega
theorem l1In_tells (n lo hi : Int) : Tells (fun _ => spec_l1In.f n lo hi) (lo ≤ n ∧ n ≤ hi) := by
 simp only [l1In_eq]; exact tells_some (by simp)
theorem l1Wide_eq (w : Int) : spec_l1Wide.f w = some (decide (1 ≤ w ∧ w ≤ 64)) := by
 unfold spec_l1Wide.f; rw [l1In_eq]; rfl
theorem wu (x : Int) : IntKind.u64.wrap x = x % 18446744073709551616 := IntKind.wrap_u64 x
theorem wu_in (x : Int) : 0 ≤ IntKind.u64.wrap x ∧ IntKind.u64.wrap x < 18446744073709551616 := by rw [wu]; omega
theorem two_pos (n : Nat) : (0 : Int) < 2 ^ n := Int.pow_pos (by decide)
theorem two_dvd {n : Nat} (h : n ≤ 64) : ((2 : Int) ^ n) ∣ 18446744073709551616 := ⟨2 ^ (64 - n), by rw [← Int.pow_add, show n + (64 - n) = 64 by omega]; rfl⟩
theorem two_le {n : Nat} (h : n ≤ 64) : ((2 : Int) ^ n) ≤ 18446744073709551616 := Int.le_of_dvd (by decide) (two_dvd h)
theorem two_nat (n : Nat) : ((2 ^ n : Nat) : Int) = (2 : Int) ^ n := by simp
theorem and_mask (a : Int) (n : Nat) (hn : n ≤ 64) (h0 : 0 ≤ a) (h1 : a < 18446744073709551616) : Go.bits .and .u64 a (2 ^ n - 1) = a % 2 ^ n := by
 obtain ⟨m, rfl⟩ := Int.eq_ofNat_of_zero_le h0
 have h2 : (2 ^ n : Nat) ≤ 18446744073709551616 := by have := two_le hn; rw [← two_nat] at this; omega
 have h3 : 0 < (2 ^ n : Nat) := Nat.two_pow_pos n
 rw [show (2 : Int) ^ n - 1 = ((2 ^ n - 1 : Nat) : Int) by rw [← two_nat]; omega, bits_and_u64_nat _ _ (by omega) (by omega), Nat.and_two_pow_sub_one_eq_mod, ← two_nat]
 rfl
theorem mask_pow : ∀ m : Nat, m < 65 → (18446744073709551615 : Nat) / 2 ^ (64 - m) = 2 ^ m - 1 := by decide
theorem shr_mask {w : Int} (h0 : 1 ≤ w) (h1 : w ≤ 64) : shr .u64 18446744073709551615 (wrap64 (64 - w)) = 2 ^ w.toNat - 1 := by
 rw [wid (by omega) (by omega)]
 have hb : IntKind.u64.bits = 64 := rfl
 simp only [shr, hb]
 rw [Nat.min_eq_left (by omega), show (64 - w).toNat = 64 - w.toNat by omega]
 have h := mask_pow w.toNat (by omega)
 have h3 : 0 < (2 ^ w.toNat : Nat) := Nat.two_pow_pos _
 rw [← two_nat, ← two_nat, show (18446744073709551615 : Int) = ((18446744073709551615 : Nat) : Int) by rfl, ← Int.natCast_ediv, h]
 omega
theorem cut_nat (a i : Nat) : (a % 2 ^ i) ||| (a &&& 2 ^ i) = a % 2 ^ (i + 1) := by
 apply Nat.eq_of_testBit_eq
 intro j
 rw [Nat.testBit_or, Nat.testBit_and, Nat.testBit_mod_two_pow, Nat.testBit_mod_two_pow, Nat.testBit_two_pow]
 by_cases h : i = j
 ·subst h; simp
 ·by_cases h2 : j < i
  ·simp [h, h2, show j < i + 1 by omega]
  ·simp [h, h2, show ¬ j < i + 1 by omega]
theorem mod_small {a : Nat} (ha : a < 18446744073709551616) {i : Nat} (h : 64 ≤ i) : a % 2 ^ i = a := by
 refine Nat.mod_eq_of_lt (Nat.lt_of_lt_of_le ha ?_)
 have := Nat.pow_le_pow_right (show 0 < 2 by decide) h
 exact this
theorem shl_one {i : Nat} (h : i < 64) : shl .u64 1 (i : Int) = ((2 ^ i : Nat) : Int) := by
 have hb : IntKind.u64.bits = 64 := rfl
 have h2 : (2 ^ i : Nat) < 18446744073709551616 := Nat.pow_lt_pow_right (by decide : 1 < 2) h
 simp only [shl, hb]
 rw [wu, Int.toNat_natCast, Nat.min_eq_left (by omega), ← two_nat, Int.one_mul]; exact Int.emod_eq_of_lt (Int.natCast_nonneg _) (Int.ofNat_lt.2 h2)
theorem shl_big {i : Nat} (h : 64 ≤ i) : shl .u64 1 (i : Int) = 0 := by
 have hb : IntKind.u64.bits = 64 := rfl
 simp only [shl, hb]
 rw [wu, Int.toNat_natCast, Nat.min_eq_right (by omega)]; rfl
theorem cut_step (a i : Nat) (ha : a < 18446744073709551616) : Go.bits .or .u64 ((a % 2 ^ i : Nat) : Int) (Go.bits .and .u64 (a : Int) (shl .u64 1 (i : Int))) = ((a % 2 ^ (i + 1) : Nat) : Int) := by
 have h1 : a % 2 ^ i ≤ a := Nat.mod_le _ _
 by_cases h : i < 64
 ·have h2 : (2 ^ i : Nat) < 18446744073709551616 := Nat.pow_lt_pow_right (by decide : 1 < 2) h
  have h3 : a &&& 2 ^ i ≤ a := Nat.and_le_left
  rw [shl_one h, bits_and_u64_nat _ _ ha h2, bits_or_u64_nat _ _ (by omega) (by omega), cut_nat]
 ·have e : Go.bits .and .u64 (a : Int) ((0 : Nat) : Int) = ((0 : Nat) : Int) := by rw [bits_and_u64_nat _ _ ha (by decide), Nat.and_zero]
  have e2 : Go.bits .or .u64 (a : Int) ((0 : Nat) : Int) = (a : Int) := by rw [bits_or_u64_nat _ _ ha (by decide), Nat.or_zero]
  rw [shl_big (by omega), mod_small ha (by omega), mod_small ha (by omega)]
  exact (congrArg _ e).trans e2
theorem not_nat (a : Nat) (ha : a < 18446744073709551616) : 18446744073709551615 ^^^ a = 18446744073709551615 - a := by
 rw [show 18446744073709551615 - a = 2 ^ 64 - (a + 1) by omega]
 apply Nat.eq_of_testBit_eq
 intro j
 rw [Nat.testBit_xor, Nat.testBit_two_pow_sub_succ (by omega), show (18446744073709551615 : Nat) = 2 ^ 64 - 1 by rfl, Nat.testBit_two_pow_sub_one]
 by_cases h : j < 64
 ·simp [h]
 ·have : a.testBit j = false := Nat.testBit_lt_two_pow (Nat.lt_of_lt_of_le ha (Nat.pow_le_pow_right (by decide : 0 < 2) (by omega : 64 ≤ j)))
  simp [h, this]
theorem not_word (a : Int) (h0 : 0 ≤ a) (h1 : a < 18446744073709551616) : Go.bits .xor .u64 18446744073709551615 a = 18446744073709551615 - a := by
 obtain ⟨m, rfl⟩ := Int.eq_ofNat_of_zero_le h0
 rw [show (18446744073709551615 : Int) = ((18446744073709551615 : Nat) : Int) by rfl, bits_xor_u64_nat _ _ (by decide) (by omega), not_nat m (by omega)]
 omega
def GW (w a : Int) : Prop := 1 ≤ w ∧ w ≤ 64 ∧ a < 2 ^ w.toNat
instance (w a : Int) : Decidable (GW w a) := by unfold GW; infer_instance
theorem GW.le {w a : Int} (h : GW w a) : a < 18446744073709551616 := by have := two_le (n := w.toNat) (by have := h.2.1; omega); have := h.2.2; omega
theorem mod_word (x : Int) {w : Int} (h : w ≤ 64) : x % 18446744073709551616 % 2 ^ w.toNat = x % 2 ^ w.toNat := Int.emod_emod_of_dvd _ (two_dvd (by omega))
def needMany (op : Int) : Nat := if op = 1 ∨ op = 2 ∨ op = 20 then 0 else if op = 13 ∨ op = 19 then 1 else if 3 ≤ op ∧ op ≤ 18 then 2 else 0
def needPart (op : Int) : Int := if op = 19 ∨ op = 17 ∨ op = 18 then 2 else 1
def needOwn (op : Int) : Int := if op = 20 ∨ op = 19 ∨ (14 ≤ op ∧ op ≤ 18) then 2 else if 1 ≤ op ∧ op ≤ 13 then 1 else 0
def NOk (wide vars : Int) (x : S80) : Prop := if x.f0 = 1 then GW wide x.f1 else if x.f0 = 2 then x.f1 < vars else if x.f0 = 20 then x.f1 ≤ 1 else x.f1 = 0
def fits (wide vars : Int) (x : S80) (s : List Int) : Prop := needOwn x.f0 ≠ 0 ∧ NOk wide vars x ∧ needMany x.f0 ≤ s.length ∧ ∀ y ∈ s.drop (s.length - needMany x.f0), y = needPart x.f0
def pile (x : S80) (s : List Int) : List Int := s.take (s.length - needMany x.f0) ++ [needOwn x.f0]
def Runs (wide vars : Int) : List S80 → List Int → List Int → Prop
 | [], s, r => s = r
 | x :: t, s, r => fits wide vars x s ∧ Runs wide vars t (pile x s) r
def TermOf (wide vars : Int) (t : List S80) (kind : Int) : Prop := (1 ≤ wide ∧ wide ≤ 64) ∧ (1 ≤ vars ∧ vars ≤ 4) ∧ (1 ≤ t.length ∧ t.length ≤ 48) ∧ Runs wide vars t [] [kind]
theorem needMany_le (op : Int) : needMany op ≤ 2 := by
 unfold needMany
 split
 ·omega
 ·split
  ·omega
  ·split <;> omega
theorem Runs.uniq {wide vars : Int} : ∀ {t : List S80} {s r r' : List Int}, Runs wide vars t s r → Runs wide vars t s r' → r = r'
 | [], s, r, r', h, h' => h.symm.trans h'
 | x :: t, s, r, r', h, h' => Runs.uniq h.2 h'.2
theorem Runs.last {wide vars : Int} : ∀ {t : List S80} {s : List Int} {k : Int}, t ≠ [] → Runs wide vars t s [k] → k = needOwn (t.getD (t.length - 1) z80).f0
 | [], s, k, h, _ => absurd rfl h
 | [x], s, k, _, h => by
  have h2 : pile x s = [k] := h.2
  unfold pile at h2
  have h3 := congrArg List.getLast? h2
  simpa using h3.symm
 | x :: y :: t, s, k, _, h => by
  have h2 := Runs.last (t := y :: t) (by simp) h.2
  simpa using h2
theorem l2Need_ev (op : Int) : ∃ p, Ev (fun k => spec_l2Need.f k op) ((needMany op : Int), p, needOwn op) ∧ (0 < needMany op → p = needPart op) := by
 have j0 : ∀ b : Bool, b = decide (op = 1 ∨ op = 2) → ∃ p, Ev (fun k => spec_l2Need.j0 k op b) ((needMany op : Int), p, needOwn op) ∧ (0 < needMany op → p = needPart op) := fun b hb => by
  by_cases h1 : b = true
  ·have h2 : op = 1 ∨ op = 2 := by rw [hb] at h1; simpa using h1
   refine ⟨1, Ev.step (f := fun _ => some ((needMany op : Int), 1, needOwn op)) (fun k => ?_) (Ev.now _), fun h => ?_⟩
   ·simp only [spec_l2Need.j0]; rw [if_pos h1]; rcases h2 with rfl | rfl <;> rfl
   ·rcases h2 with rfl | rfl <;> simp [needMany] at h
  ·have h2 : ¬ (op = 1 ∨ op = 2) := by rw [hb] at h1; simpa using h1
   by_cases h20 : op = 20
   ·subst h20; exact ⟨2, Ev.step (f := fun _ => some (0, 2, 2)) (fun k => by simp [spec_l2Need.j0, h1]) (Ev.now _), fun h => by simp [needMany] at h⟩
   by_cases h13 : op = 13
   ·subst h13; exact ⟨1, Ev.step (f := fun _ => some (1, 1, 1)) (fun k => by simp [spec_l2Need.j0, h1]) (Ev.now _), fun _ => rfl⟩
   by_cases h19 : op = 19
   ·subst h19; exact ⟨2, Ev.step (f := fun _ => some (1, 2, 2)) (fun k => by simp [spec_l2Need.j0, h1]) (Ev.now _), fun _ => rfl⟩
   have e0 : ∀ k, spec_l2Need.j0 (k + 1) op b = (if decide (3 ≤ op ∧ op ≤ 12) = true then some (2, 1, 1) else if decide (14 ≤ op ∧ op ≤ 16) = true then some (2, 1, 2) else if op = 17 then some (2, 2, 2) else if op = 18 then some (2, 2, 2) else some (0, 0, 0)) := fun k => by
    simp only [spec_l2Need.j0, l1In_eq, Option.bind_some]; rw [if_neg h1, if_neg h20, if_neg h13, if_neg h19]
   simp only [decide_eq_true_eq] at e0
   by_cases a1 : 3 ≤ op ∧ op ≤ 12
   ·exact ⟨1, Ev.step (f := fun _ => some ((needMany op : Int), 1, needOwn op)) (fun k => by rw [e0, if_pos a1, needMany, needOwn, if_neg (by omega), if_neg (by omega), if_pos (by omega), if_neg (by omega), if_pos (by omega)]; rfl) (Ev.now _), fun _ => by rw [needPart, if_neg (by omega)]⟩
   by_cases a2 : 14 ≤ op ∧ op ≤ 16
   ·exact ⟨1, Ev.step (f := fun _ => some ((needMany op : Int), 1, needOwn op)) (fun k => by rw [e0, if_neg a1, if_pos a2, needMany, needOwn, if_neg (by omega), if_neg (by omega), if_pos (by omega), if_pos (by omega)]; rfl) (Ev.now _), fun _ => by rw [needPart, if_neg (by omega)]⟩
   by_cases a3 : op = 17
   ·subst a3; exact ⟨2, Ev.step (f := fun _ => some (2, 2, 2)) (fun k => by rw [e0, if_neg a1, if_neg a2, if_pos rfl]) (Ev.now _), fun _ => rfl⟩
   by_cases a4 : op = 18
   ·subst a4; exact ⟨2, Ev.step (f := fun _ => some (2, 2, 2)) (fun k => by rw [e0, if_neg a1, if_neg a2, if_neg a3, if_pos rfl]) (Ev.now _), fun _ => rfl⟩
   ·have e : needMany op = 0 := by rw [needMany, if_neg (by omega), if_neg (by omega), if_neg (by omega)]
    exact ⟨0, Ev.step (f := fun _ => some ((needMany op : Int), 0, needOwn op)) (fun k => by rw [e0, if_neg a1, if_neg a2, if_neg a3, if_neg a4, e, needOwn, if_neg (by omega), if_neg (by omega)]; rfl) (Ev.now _), fun h => by omega⟩
 by_cases h1 : op = 1
 ·obtain ⟨p, e1, e2⟩ := j0 true (by simp [h1])
  exact ⟨p, ev_pos h1 e1, e2⟩
 ·obtain ⟨p, e1, e2⟩ := j0 (op == 2) (by simp [h1]; rfl)
  exact ⟨p, ev_neg h1 e1, e2⟩
theorem l1Cut_l0 (a : Nat) (ha : a < 18446744073709551616) (w : Int) (hw : w ≤ 65) (d : Nat) : ∀ i : Nat, (i : Int) + d = max w 0 → Ev (fun k => spec_l1Cut.l0 k w (a : Int) ((a % 2 ^ i : Nat) : Int) (i : Int)) ((a % 2 ^ w.toNat : Nat) : Int) := by
 induction d with
 | zero =>
  intro i hi
  refine ev_eq (Ev.step (f := fun _ => some ((a % 2 ^ i : Nat) : Int)) (fun k => by simp only [spec_l1Cut.l0]; rw [if_neg (by omega)]) (Ev.now _)) ?_
  rw [show w.toNat = i by omega]
 | succ d ih =>
  intro i hi
  have e : IntKind.u64.wrap (i : Int) = (i : Int) := by rw [wu]; omega
  exact Ev.step (fun k => by simp only [spec_l1Cut.l0]; rw [if_pos (by omega), e, if_pos (by omega), cut_step a i ha, wsucc (by omega)]) (ih (i + 1) (by omega))
theorem l1Cut_ev (w a : Int) (hw : w ≤ 65) (h0 : 0 ≤ a) (h1 : a < 18446744073709551616) : Ev (fun k => spec_l1Cut.f k w a) (a % 2 ^ w.toNat) := by
 obtain ⟨m, rfl⟩ := Int.eq_ofNat_of_zero_le h0
 have := l1Cut_l0 m (by omega) w hw (max w 0).toNat 0 (by omega)
 rw [show m % 2 ^ 0 = 0 by simp [Nat.mod_one]] at this
 exact ev_eq this (by rw [← two_nat]; rfl)
theorem spec_GoodWord_tells (w a : Int) (h0 : 0 ≤ a) (h1 : a < 18446744073709551616) : Tells (fun k => spec_GoodWord.f k w a) (GW w a) := by
 refine tells_bind (ev_const (l1Wide_eq w)) ?_
 by_cases h : 1 ≤ w ∧ w ≤ 64
 ·refine tells_pos (by simpa using h) (tells_bind (l1Cut_ev w a (by omega) h0 h1) (tells_some ?_))
  have := two_pos w.toNat
  constructor
  ·intro g
   have g : a % 2 ^ w.toNat = a := by simpa using g
   exact ⟨h.1, h.2, by have := Int.emod_lt_of_pos a this; omega⟩
  ·intro g
   rw [Int.emod_eq_of_lt h0 g.2.2]; simp
 ·exact tells_neg (by simpa using h) (tells_no (fun g => h ⟨g.1, g.2.1⟩))
theorem l2N_tells (wide vars : Int) (hv : 1 ≤ vars ∧ vars ≤ 4) (x : S80) (hx : 0 ≤ x.f1 ∧ x.f1 < 18446744073709551616) : Tells (fun k => spec_l2N.f k wide vars x.f0 x.f1) (NOk wide vars x) := by
 unfold NOk
 refine tells_if (fun h => ?_) (fun h => tells_if (fun h2 => tells_some ?_) (fun h2 => tells_if (fun h3 => tells_some ?_) (fun h3 => tells_some ?_)))
 ·rw [if_pos h]; exact tells_ask (spec_GoodWord_tells wide x.f1 hx.1 hx.2) (fun g => tells_yes g) (fun g => tells_no g)
 ·rw [if_neg h, if_pos h2, wu, Int.emod_eq_of_lt (by omega) (by omega)]; simp
 ·rw [if_neg h, if_neg h2, if_pos h3]; simp; omega
 ·rw [if_neg h, if_neg h2, if_neg h3]; simp
def KindAns (wi va : Int) (l : List S80) (s : List Int) (r : Int) : Prop := Runs wi va l s [r] ∨ (r = 0 ∧ ∀ kd, ¬ Runs wi va l s [kd])
theorem l2Kind_l1 (wi va : Int) (t : List S80) (o p : Int) (j : Nat) (hj : j < 1000) : ∀ (m : Nat) (s : List Int), m ≤ s.length → s.length ≤ 1000 →
  ((∀ y ∈ s.drop (s.length - m), y = p) → ∀ r, Ev (fun k => spec_l2Kind.l0 k wi va (s.take (s.length - m) ++ [o]) t (t.length : Int) ((j + 1 : Nat) : Int)) r → Ev (fun k => spec_l2Kind.l1 k wi va s (m : Int) p o t (t.length : Int) (j : Int)) r)
  ∧ ((¬ ∀ y ∈ s.drop (s.length - m), y = p) → Ev (fun k => spec_l2Kind.l1 k wi va s (m : Int) p o t (t.length : Int) (j : Int)) 0)
 | 0, s, _, hs => by
  refine ⟨fun _ r h => ?_, fun h => absurd (fun y hy => by simp at hy) h⟩
  rw [Nat.sub_zero, List.take_length] at h
  exact Ev.step (fun k => by simp only [spec_l2Kind.l1]; rw [if_neg (by omega), if_pos (by omega), wsucc (by omega)]) h
 | m + 1, s, hm, hs => by
  rcases List.eq_nil_or_concat s with rfl | ⟨s', y, rfl⟩
  ·simp at hm
  simp only [List.concat_eq_append] at hm hs ⊢
  have hl : (s' ++ [y]).length = s'.length + 1 := by simp
  rw [hl] at hm hs ⊢
  obtain ⟨h1, h2⟩ := l2Kind_l1 wi va t o p j hj m s' (by omega) (by omega)
  have w : wrap64 (((s' ++ [y]).length : Int) - 1) = (s'.length : Int) := by rw [hl, wid (by omega) (by omega)]; omega
  have e0 : rd (s' ++ [y]) (s'.length : Int) = y := by rw [rd_nat]; simp [List.getD_eq_getElem?_getD]
  have e1 : ∀ k, spec_l2Kind.l1 (k + 1) wi va (s' ++ [y]) ((m + 1 : Nat) : Int) p o t (t.length : Int) (j : Int) = if y = p then spec_l2Kind.l1 k wi va s' (m : Int) p o t (t.length : Int) (j : Int) else some 0 := fun k => by
   simp only [spec_l2Kind.l1]
   rw [if_pos (by omega), w, if_pos (by omega), if_pos (by rw [hl]; omega), e0, if_pos (show (s'.length : Int) ≤ ((s' ++ [y]).length : Int) by rw [hl]; omega), Int.toNat_natCast, List.take_left, wid (x := ((m + 1 : Nat) : Int) - 1) (by omega) (by omega), show ((m + 1 : Nat) : Int) - 1 = (m : Int) by omega]
  have ed : (s' ++ [y]).drop (s'.length + 1 - (m + 1)) = s'.drop (s'.length - m) ++ [y] := by
   rw [show s'.length + 1 - (m + 1) = s'.length - m by omega, List.drop_append_of_le_length (by omega)]
  have et : (s' ++ [y]).take (s'.length + 1 - (m + 1)) = s'.take (s'.length - m) := by
   rw [show s'.length + 1 - (m + 1) = s'.length - m by omega, List.take_append_of_le_length (by omega)]
  rw [ed, et]
  refine ⟨fun h r hr => ?_, fun h => ?_⟩
  ·exact Ev.step e1 (ev_pos (h y (by simp)) (h1 (fun z hz => h z (by simp [hz])) r hr))
  ·by_cases hy : y = p
   ·refine Ev.step e1 (ev_pos hy (h2 (fun g => h (fun z hz => ?_))))
    rcases List.mem_append.1 hz with hz | hz
    ·exact g z hz
    ·rw [List.mem_singleton.1 hz]; exact hy
   ·exact Ev.step e1 (ev_neg hy (Ev.now _))
theorem l2Kind_l0 (wi va : Int) (hv : 1 ≤ va ∧ va ≤ 4) (t : List S80) (ht : t.length ≤ 48) (hx : ∀ x ∈ t, 0 ≤ x.f1 ∧ x.f1 < 18446744073709551616) (d : Nat) : ∀ (j : Nat) (s : List Int), j + d = t.length → s.length ≤ j →
  ∃ r, Ev (fun k => spec_l2Kind.l0 k wi va s t (t.length : Int) (j : Int)) r ∧ KindAns wi va (t.drop j) s r := by
 induction d with
 | zero =>
  intro j s hd hs
  rw [List.drop_of_length_le (by omega)]
  match s, hs with
  | [], _ => exact ⟨0, Ev.step (f := fun _ => some 0) (fun k => by simp only [spec_l2Kind.l0]; rw [if_neg (by omega), if_neg (by simp)]) (Ev.now _), .inr ⟨rfl, fun kd h => by simp [Runs] at h⟩⟩
  | [a], _ => exact ⟨a, Ev.step (f := fun _ => some a) (fun k => by simp only [spec_l2Kind.l0]; rw [if_neg (by omega), if_pos (by simp), if_pos (by simp)]; rfl) (Ev.now _), .inl rfl⟩
  | a :: b :: c, _ => exact ⟨0, Ev.step (f := fun _ => some 0) (fun k => by simp only [spec_l2Kind.l0]; rw [if_neg (by omega), if_neg (by simp; omega)]) (Ev.now _), .inr ⟨rfl, fun kd h => by simp [Runs] at h⟩⟩
 | succ d ih =>
  intro j s hd hs
  have hj : j < t.length := by omega
  have er : rd_T80 t (j : Int) = t.getD j z80 := by simp [rd_T80]
  have hm := hx _ (getD_mem hj z80)
  rw [drop_cons hj z80]
  generalize t.getD j z80 = x at er hm
  obtain ⟨p, hn, hp⟩ := l2Need_ev x.f0
  have hN := l2N_tells wi va hv x hm
  have h20 : ∀ (m p o : Int), Ev (fun k => spec_l2Kind.j2 k wi va s m p o t (t.length : Int) (j : Int) true) 0 := fun m p o => Ev.step (f := fun _ => some 0) (fun k => by simp only [spec_l2Kind.j2, if_true]) (Ev.now _)
  have bad : ¬ fits wi va x s → ∀ kd, ¬ Runs wi va (x :: t.drop (j + 1)) s [kd] := fun h kd g => h g.1
  have go : ∀ r, Ev (fun k => (spec_l2Need.f k x.f0).bind fun bt => (if bt.2.2 = 0 then (spec_l2Kind.j2 k wi va s bt.1 bt.2.1 bt.2.2 t (t.length : Int) (j : Int) true) else ((spec_l2N.f k wi va x.f0 x.f1).bind fun u => (if u = true then (spec_l2Kind.j2 k wi va s bt.1 bt.2.1 bt.2.2 t (t.length : Int) (j : Int) (decide ((s.length : Int) < bt.1))) else (spec_l2Kind.j2 k wi va s bt.1 bt.2.1 bt.2.2 t (t.length : Int) (j : Int) true))))) r → Ev (fun k => spec_l2Kind.l0 k wi va s t (t.length : Int) (j : Int)) r := fun r h =>
   Ev.step (fun k => by simp only [spec_l2Kind.l0]; rw [if_pos (by omega), if_pos (by omega), if_pos (by omega), er]) h
  by_cases c1 : needOwn x.f0 = 0
  ·exact ⟨0, go 0 (Ev.bind hn (ev_pos c1 (h20 _ _ _))), .inr ⟨rfl, bad (fun g => g.1 c1)⟩⟩
  by_cases c2 : NOk wi va x
  ·by_cases c3 : s.length < needMany x.f0
   ·refine ⟨0, go 0 (Ev.bind hn (ev_neg c1 (Ev.bind (tells_ev hN c2) (ev_pos rfl ?_)))), .inr ⟨rfl, bad (fun g => by have := g.2.2.1; omega)⟩⟩
    rw [show decide ((s.length : Int) < (needMany x.f0 : Int)) = true from decide_eq_true (by omega)]
    exact h20 _ _ _
   ·have e3 : decide ((s.length : Int) < (needMany x.f0 : Int)) = false := decide_eq_false (by omega)
    obtain ⟨h1, h2⟩ := l2Kind_l1 wi va t (needOwn x.f0) p j (by omega) (needMany x.f0) s (by omega) (by omega)
    have j2 : ∀ r, Ev (fun k => spec_l2Kind.l1 k wi va s (needMany x.f0 : Int) p (needOwn x.f0) t (t.length : Int) (j : Int)) r → Ev (fun k => spec_l2Kind.j2 k wi va s (needMany x.f0 : Int) p (needOwn x.f0) t (t.length : Int) (j : Int) (decide ((s.length : Int) < (needMany x.f0 : Int)))) r := fun r h => by
     rw [e3]
     exact Ev.step (fun k => by simp only [spec_l2Kind.j2]; rw [if_neg (by simp)]) h
    have hpp : (∀ y ∈ s.drop (s.length - needMany x.f0), y = p) ↔ ∀ y ∈ s.drop (s.length - needMany x.f0), y = needPart x.f0 := by
     rcases Nat.eq_zero_or_pos (needMany x.f0) with h0 | h0
     ·rw [h0]; simp
     ·rw [hp h0]
    by_cases c4 : ∀ y ∈ s.drop (s.length - needMany x.f0), y = p
    ·obtain ⟨r, hr, ha⟩ := ih (j + 1) (s.take (s.length - needMany x.f0) ++ [needOwn x.f0]) (by omega) (by simp; omega)
     have hf : fits wi va x s := ⟨c1, c2, by omega, hpp.1 c4⟩
     refine ⟨r, go r (Ev.bind hn (ev_neg c1 (Ev.bind (tells_ev hN c2) (ev_pos rfl (j2 r (h1 c4 r hr)))))), ?_⟩
     rcases ha with ha | ⟨ha, hb⟩
     ·exact .inl ⟨hf, ha⟩
     ·exact .inr ⟨ha, fun kd g => hb kd g.2⟩
    ·exact ⟨0, go 0 (Ev.bind hn (ev_neg c1 (Ev.bind (tells_ev hN c2) (ev_pos rfl (j2 0 (h2 c4)))))), .inr ⟨rfl, bad (fun g => c4 (hpp.2 g.2.2.2))⟩⟩
  ·exact ⟨0, go 0 (Ev.bind hn (ev_neg c1 (Ev.bind (tells_ev_not hN c2) (ev_neg (by simp) (h20 _ _ _))))), .inr ⟨rfl, bad (fun g => c2 g.2.1)⟩⟩
theorem l2Kind_ev (wi va : Int) (t : List S80) (hx : ∀ x ∈ t, 0 ≤ x.f1 ∧ x.f1 < 18446744073709551616) : ∃ r, Ev (fun k => spec_l2Kind.f k wi va t) r ∧ (TermOf wi va t r ∨ (r = 0 ∧ ∀ kd, ¬ TermOf wi va t kd)) := by
 have h0 : Ev (fun k => spec_l2Kind.j0 k wi va t true) 0 := Ev.step (f := fun _ => some 0) (fun k => by simp only [spec_l2Kind.j0, if_true]) (Ev.now _)
 by_cases c1 : 1 ≤ wi ∧ wi ≤ 64
 ·have e1 : spec_l1Wide.f wi = some true := by rw [l1Wide_eq, decide_eq_true c1]
  by_cases c2 : 1 ≤ va ∧ va ≤ 4
  ·have e2 : spec_l1In.f va 1 4 = some true := by rw [l1In_eq, decide_eq_true c2]
   by_cases c3 : 1 ≤ t.length ∧ t.length ≤ 48
   ·have e3 : spec_l1In.f (t.length : Int) 1 48 = some true := by rw [l1In_eq, decide_eq_true (by omega)]
    obtain ⟨r, hr, ha⟩ := l2Kind_l0 wi va c2 t c3.2 hx t.length 0 [] (by omega) (by simp)
    refine ⟨r, Ev.bind (ev_const e1) (ev_pos rfl (Ev.bind (ev_const e2) (ev_pos rfl (Ev.bind (ev_const e3) (Ev.step (fun k => by simp only [spec_l2Kind.j0]; rw [if_neg (by simp)]; rfl) hr))))), ?_⟩
    rcases ha with ha | ⟨ha, hb⟩
    ·exact .inl ⟨c1, c2, c3, ha⟩
    ·exact .inr ⟨ha, fun kd g => hb kd g.2.2.2⟩
   ·have e3 : spec_l1In.f (t.length : Int) 1 48 = some false := by rw [l1In_eq, decide_eq_false (by omega)]
    exact ⟨0, Ev.bind (ev_const e1) (ev_pos rfl (Ev.bind (ev_const e2) (ev_pos rfl (Ev.bind (ev_const e3) h0)))), .inr ⟨rfl, fun kd g => c3 g.2.2.1⟩⟩
  ·have e2 : spec_l1In.f va 1 4 = some false := by rw [l1In_eq, decide_eq_false c2]
   exact ⟨0, Ev.bind (ev_const e1) (ev_pos rfl (Ev.bind (ev_const e2) (ev_neg (by simp) h0))), .inr ⟨rfl, fun kd g => c2 g.2.1⟩⟩
 ·have e1 : spec_l1Wide.f wi = some false := by rw [l1Wide_eq, decide_eq_false c1]
  exact ⟨0, Ev.bind (ev_const e1) (ev_neg (by simp) h0), .inr ⟨rfl, fun kd g => c1 g.1⟩⟩
theorem l2Kind_is (wi va : Int) (t : List S80) (hx : ∀ x ∈ t, 0 ≤ x.f1 ∧ x.f1 < 18446744073709551616) : ∃ r, Ev (fun k => spec_l2Kind.f k wi va t) r ∧ ∀ kd, 1 ≤ kd → (r = kd ↔ TermOf wi va t kd) := by
 obtain ⟨r, hr, h⟩ := l2Kind_ev wi va t hx
 refine ⟨r, hr, fun kd hk => ?_⟩
 rcases h with h | ⟨rfl, h⟩
 ·refine ⟨fun e => e ▸ h, fun g => ?_⟩
  have := Runs.uniq h.2.2.2 g.2.2.2
  simpa using this
 ·exact ⟨fun e => by omega, fun g => absurd g (h kd)⟩
def Wd (t : List S80) : Prop := ∀ x ∈ t, 0 ≤ x.f1 ∧ x.f1 < 18446744073709551616
def ChangeOk (wi va : Int) (l : List S94) (i : Nat) : Prop := (0 ≤ (l.getD i z94).f0 ∧ (l.getD i z94).f0 ≤ va - 1) ∧ (0 < i → (l.getD (i - 1) z94).f0 < (l.getD i z94).f0) ∧ TermOf wi va (l.getD i z94).f1 1
def CommandOk (wi va : Int) (c : S72) : Prop := TermOf wi va c.f0 2 ∧ ∀ i, 0 ≤ i → i < c.f1.length → ChangeOk wi va c.f1 i
def GoodP (wi va : Int) (st : List S80) (co : List S72) : Prop := TermOf wi va st 2 ∧ (1 ≤ co.length ∧ co.length ≤ 6) ∧ ∀ c ∈ co, CommandOk wi va c
theorem changes_at {wi va : Int} {l : List S94} (h : ∀ i, 0 ≤ i → i < l.length → ChangeOk wi va l i) : ∀ i : Nat, i < l.length → (i : Int) ≤ (l.getD i z94).f0
 | 0, hi => (h 0 (Nat.le_refl 0) hi).1.1
 | i + 1, hi => by
  have h1 := changes_at h i (by omega)
  have h2 := (h (i + 1) (Nat.zero_le _) hi).2.1 (by omega)
  rw [Nat.add_sub_cancel] at h2
  omega
theorem changes_few {wi va : Int} {l : List S94} (hv : 0 ≤ va) (h : ∀ i, 0 ≤ i → i < l.length → ChangeOk wi va l i) : (l.length : Int) ≤ va := by
 rcases Nat.eq_zero_or_pos l.length with h0 | h0
 ·omega
 ·have h1 := changes_at h (l.length - 1) (by omega)
  have h2 := (h (l.length - 1) (Nat.zero_le _) (by omega)).1.2
  omega
theorem from_hereP {n j : Nat} {P : Nat → Prop} (hj : j < n) : (∀ i, j ≤ i → i < n → P i) ↔ P j ∧ ∀ i, j + 1 ≤ i → i < n → P i :=
 ⟨fun h => ⟨h j (Nat.le_refl _) hj, fun i h1 h2 => h i (by omega) h2⟩, fun ⟨h0, h⟩ i h1 h2 => by
  rcases Nat.eq_or_lt_of_le h1 with e | e
  ·exact e ▸ h0
  ·exact h i e h2⟩
theorem l7Asks_tells (wi va : Int) (st : List S80) (co : List S72) (t : List S80) (hx : Wd t) : Tells (fun k => spec_l7Asks.f k wi va st co t) (TermOf wi va t 2) := by
 obtain ⟨r, hr, h⟩ := l2Kind_is wi va t hx
 refine tells_bind hr (tells_some ?_)
 rw [beq_iff_eq]; exact h 2 (by omega)
theorem l7Command_l0 (wi va : Int) (hv : 1 ≤ va ∧ va ≤ 4) (st : List S80) (co : List S72) (w : List S80) (l : List S94) (hl : l.length ≤ 4) (hx : ∀ c ∈ l, Wd c.f1) (d : Nat) : ∀ (j : Nat), j + d = l.length →
  Tells (fun k => spec_l7Command.l0 k l (l.length : Int) (j : Int) wi va st co w l) (∀ i, j ≤ i → i < l.length → ChangeOk wi va l i) := by
 induction d with
 | zero =>
  intro j hd
  exact tells_step (f := fun _ => some true) (fun k => by simp only [spec_l7Command.l0]; rw [if_neg (by omega)]) (tells_yes (fun i h1 h2 => by omega))
 | succ d ih =>
  intro j hd
  have hj : j < l.length := by omega
  have er : rd_T94 l (j : Int) = l.getD j z94 := by simp [rd_T94]
  have ev : wrap64 (va - 1) = va - 1 := wid (by omega) (by omega)
  obtain ⟨r, hr, hk⟩ := l2Kind_is wi va (l.getD j z94).f1 (hx _ (getD_mem hj _))
  have hk1 := hk 1 (by omega)
  refine tells_step (fun k => by simp only [spec_l7Command.l0]; rw [if_pos (by omega), if_pos (by omega), if_pos (by omega), er, ev, wsucc (by omega)]) ?_
  rw [from_hereP hj]
  refine tells_ask (l1In_tells _ _ _) (fun h0 => tells_pos rfl ?_) (fun h0 => tells_neg (by simp) (tells_no (fun g => h0 g.1.1)))
  by_cases hz : j = 0
  ·subst hz
   refine tells_neg (by omega) (tells_bind hr (tells_if (fun h => ?_) (fun h => tells_no (fun g => h (hk1.2 g.1.2.2)))))
   exact tells_iff (ih 1 (by omega)) ⟨fun g => ⟨⟨h0, fun h => by omega, hk1.1 h⟩, g⟩, fun g => g.2⟩
  ·have w2 := wpred (j := j) (by omega) (by omega)
   have er2 : rd_T94 l ((j - 1 : Nat) : Int) = l.getD (j - 1) z94 := by simp [rd_T94]
   refine tells_pos (by omega) ?_
   refine tells_congr (fun k => by rw [w2, if_pos (by omega), if_pos (by omega), er2]) ?_
   refine tells_if (fun h => tells_no (fun g => by have := g.1.2.1 (by omega); omega)) (fun h1 => ?_)
   refine tells_bind hr (tells_if (fun h => ?_) (fun h => tells_no (fun g => h (hk1.2 g.1.2.2))))
   exact tells_iff (ih (j + 1) (by omega)) ⟨fun g => ⟨⟨h0, fun _ => by omega, hk1.1 h⟩, g⟩, fun g => g.2⟩
theorem l7Command_tells (wi va : Int) (st : List S80) (co : List S72) (c : S72) (h1 : Wd c.f0) (h2 : ∀ x ∈ c.f1, Wd x.f1) : Tells (fun k => spec_l7Command.f k wi va st co c.f0 c.f1) (CommandOk wi va c) := by
 have hno : ∀ {Q : Prop}, ¬ Q → Tells (fun k => spec_l7Command.j0 k true wi va st co c.f0 c.f1) Q := fun h => tells_step (f := fun _ => some false) (fun k => by simp only [spec_l7Command.j0, if_true]) (tells_no h)
 refine tells_ask (l7Asks_tells wi va st co c.f0 h1) (fun h => tells_pos rfl ?_) (fun h => tells_neg (by simp) (hno (fun g => h g.1)))
 have hv := h.2.1
 by_cases h4 : (c.f1.length : Int) > va
 ·exact tells_congr (fun k => by rw [decide_eq_true h4]) (hno (fun g => by have := changes_few (by omega) g.2; omega))
 ·refine tells_step (f := fun k => spec_l7Command.l0 k c.f1 (c.f1.length : Int) 0 wi va st co c.f0 c.f1) (fun k => by simp only [spec_l7Command.j0]; rw [if_neg (by simp; omega)]) ?_
  exact tells_iff (l7Command_l0 wi va hv st co c.f0 c.f1 (by omega) h2 c.f1.length 0 (by omega)) ⟨fun g => ⟨h, g⟩, fun g => g.2⟩
theorem spec_GoodProgram_l0 (wi va : Int) (st : List S80) (co : List S72) (hl : co.length ≤ 6) (hx : ∀ c ∈ co, Wd c.f0 ∧ ∀ x ∈ c.f1, Wd x.f1) (d : Nat) : ∀ (j : Nat), j + d = co.length →
  Tells (fun k => spec_GoodProgram.l0 k co (co.length : Int) (j : Int) wi va st co) (∀ c ∈ co.drop j, CommandOk wi va c) := by
 induction d with
 | zero =>
  intro j hd
  rw [List.drop_of_length_le (by omega)]
  exact tells_step (f := fun _ => some true) (fun k => by simp only [spec_GoodProgram.l0]; rw [if_neg (by omega)]) (tells_yes (fun c h => by simp at h))
 | succ d ih =>
  intro j hd
  have hj : j < co.length := by omega
  have er : rd_T72 co (j : Int) = co.getD j z72 := by simp [rd_T72]
  have hm := hx _ (getD_mem hj z72)
  rw [drop_cons hj z72]
  refine tells_step (fun k => by simp only [spec_GoodProgram.l0]; rw [if_pos (by omega), if_pos (by omega), if_pos (by omega), er, wsucc (by omega)]) ?_
  refine tells_ask (l7Command_tells wi va st co _ hm.1 hm.2) (fun h => tells_pos rfl ?_) (fun h => tells_neg (by simp) (tells_no (fun g => h (g _ (by simp)))))
  exact tells_iff (ih (j + 1) (by omega)) ⟨fun g c hc => by
   rcases List.mem_cons.1 hc with rfl | hc
   ·exact h
   ·exact g c hc, fun g c hc => g c (by simp [hc])⟩
theorem spec_GoodProgram_tells (wi va : Int) (st : List S80) (co : List S72) (hs : Wd st) (hx : ∀ c ∈ co, Wd c.f0 ∧ ∀ x ∈ c.f1, Wd x.f1) : Tells (fun k => spec_GoodProgram.f k wi va st co) (GoodP wi va st co) := by
 have hno : ∀ {Q : Prop}, ¬ Q → Tells (fun k => spec_GoodProgram.j0 k true wi va st co) Q := fun h => tells_step (f := fun _ => some false) (fun k => by simp only [spec_GoodProgram.j0, if_true]) (tells_no h)
 refine tells_ask (l7Asks_tells wi va st co st hs) (fun h => tells_pos rfl ?_) (fun h => tells_neg (by simp) (hno (fun g => h g.1)))
 refine tells_ask (l1In_tells _ _ _) (fun h1 => ?_) (fun h1 => hno (fun g => h1 (by have := g.2.1; omega)))
 refine tells_step (f := fun k => spec_GoodProgram.l0 k co (co.length : Int) 0 wi va st co) (fun k => by simp only [spec_GoodProgram.j0]; rw [if_neg (by simp)]) ?_
 exact tells_iff (spec_GoodProgram_l0 wi va st co (by omega) hx co.length 0 (by omega)) ⟨fun g => ⟨h, by omega, g⟩, fun g => g.2.2⟩
def StateOk (wi va : Int) (s : List Int) : Prop := (s.length : Int) = va ∧ ∀ a ∈ s, GW wi a
theorem l2Words_l0 (wi : Int) (s : List Int) (hl : s.length ≤ 9223372036854775807) (hs : ∀ a ∈ s, 0 ≤ a ∧ a < 18446744073709551616) (d : Nat) : ∀ (j : Nat), j + d = s.length →
  Tells (fun k => spec_l2Words.l0 k wi s (s.length : Int) (j : Int)) (∀ a ∈ s.drop j, GW wi a) := by
 induction d with
 | zero =>
  intro j hd
  rw [List.drop_of_length_le (by omega)]
  exact tells_step (f := fun _ => some true) (fun k => by simp only [spec_l2Words.l0]; rw [if_neg (by omega)]) (tells_yes (fun c h => by simp at h))
 | succ d ih =>
  intro j hd
  have hj : j < s.length := by omega
  have hm := hs _ (getD_mem hj 0)
  rw [drop_cons hj 0]
  refine tells_step (fun k => by simp only [spec_l2Words.l0]; rw [if_pos (by omega), if_pos (by omega), if_pos (by omega), rd_nat, wsucc (by omega)]) ?_
  refine tells_ask (spec_GoodWord_tells wi _ hm.1 hm.2) (fun h => tells_pos rfl ?_) (fun h => tells_neg (by simp) (tells_no (fun g => h (g _ (by simp)))))
  exact tells_iff (ih (j + 1) (by omega)) ⟨fun g c hc => by
   rcases List.mem_cons.1 hc with rfl | hc
   ·exact h
   ·exact g c hc, fun g c hc => g c (by simp [hc])⟩
theorem l7State_tells (wi va : Int) (st : List S80) (co : List S72) (s : List Int) (hl : s.length ≤ 9223372036854775807) (hs : ∀ a ∈ s, 0 ≤ a ∧ a < 18446744073709551616) : Tells (fun k => spec_l7State.f k wi va st co s) (StateOk wi va s) := by
 refine tells_if (fun h => ?_) (fun h => tells_no (fun g => h g.1))
 obtain ⟨b, hb, e⟩ := l2Words_l0 wi s hl hs s.length 0 (by omega)
 exact ⟨b, Ev.bind hb (Ev.now _), e.trans ⟨fun g => ⟨h, g⟩, fun g => g.2⟩⟩
theorem l1Both_tells (w a b : Int) (ha0 : 0 ≤ a) (ha1 : a < 18446744073709551616) (hb0 : 0 ≤ b) (hb1 : b < 18446744073709551616) : Tells (fun k => spec_l1Both.f k w a b) (GW w a ∧ GW w b) := by
 refine tells_ask (spec_GoodWord_tells w a ha0 ha1) (fun h => tells_pos rfl ?_) (fun h => tells_neg (by simp) (tells_no (fun g => h g.1)))
 obtain ⟨c, hc, e⟩ := spec_GoodWord_tells w b hb0 hb1
 exact ⟨c, Ev.bind hc (Ev.now _), e.trans ⟨fun g => ⟨h, g⟩, fun g => g.2⟩⟩
theorem isWide_eq (w : Int) : impl_isWide.f w = some (decide (1 ≤ w ∧ w ≤ 64)) := by
 unfold impl_isWide.f
 by_cases h : w ≥ 1
 ·rw [if_pos h]; simp [show (1 : Int) ≤ w by omega]
 ·rw [if_neg h]; simp [show ¬ (1 : Int) ≤ w by omega]
theorem mask_eq {w : Int} (h0 : 1 ≤ w) (h1 : w ≤ 64) : impl_mask.f w = some (2 ^ w.toNat - 1) := by
 unfold impl_mask.f
 rw [if_pos (by rw [wid (by omega) (by omega)]; omega), shr_mask h0 h1]
theorem impl_GoodWord_eq (w a : Int) : impl_GoodWord.f w a = some (decide (GW w a)) := by
 unfold impl_GoodWord.f
 rw [isWide_eq, Option.bind_some]
 by_cases h : 1 ≤ w ∧ w ≤ 64
 ·rw [decide_eq_true h, if_pos rfl, mask_eq h.1 h.2, Option.bind_some]
  congr 1
  rw [decide_eq_decide]
  exact ⟨fun g => ⟨h.1, h.2, by omega⟩, fun g => by have := g.2.2; omega⟩
 ·rw [decide_eq_false h, if_neg (by simp), decide_eq_false (fun g => h ⟨g.1, g.2.1⟩)]
theorem areWords_eq (w a b : Int) : impl_areWords.f w a b = some (decide (GW w a ∧ GW w b)) := by
 unfold impl_areWords.f
 rw [impl_GoodWord_eq, impl_GoodWord_eq, Option.bind_some]
 by_cases h : GW w a
 ·rw [decide_eq_true h, if_pos rfl, Option.bind_some]; simp [h]
 ·rw [decide_eq_false h, if_neg (by simp)]; simp [h]
theorem quo_word {a b : Int} (h0 : 0 ≤ a) (h1 : a < 18446744073709551616) (hb : 0 < b) : IntKind.u64.wrap (Int.tdiv a b) = a / b ∧ Int.tmod a b = a % b := by
 have h2 : 0 ≤ a / b := Int.ediv_nonneg h0 (by omega)
 have h3 : a / b ≤ a := Int.ediv_le_self b h0
 rw [Int.tdiv_eq_ediv_of_nonneg h0, Int.tmod_eq_emod_of_nonneg h0, wu]
 exact ⟨Int.emod_eq_of_lt h2 (by omega), rfl⟩
theorem DivWord_zero {w a : Int} (ha : GW w a) (hb : GW w 0) : impl_DivWord.f w a 0 = some (2 ^ w.toNat - 1, a, true) := by
 unfold impl_DivWord.f
 rw [areWords_eq, Option.bind_some, decide_eq_true (And.intro ha hb), if_pos rfl, if_pos rfl, mask_eq ha.1 ha.2.1, Option.bind_some]
theorem DivWord_yes {w a b : Int} (ha : GW w a) (hb : GW w b) (h0 : 0 ≤ a) (hb0 : 0 < b) : impl_DivWord.f w a b = some (a / b, a % b, true) := by
 unfold impl_DivWord.f
 obtain ⟨e1, e2⟩ := quo_word h0 ha.le hb0
 rw [areWords_eq, Option.bind_some, decide_eq_true (And.intro ha hb), if_pos rfl, if_neg (by omega), bits_Div64.f, if_pos ⟨rfl, hb0⟩, Option.bind_some, e1, e2]
theorem spec_DivWord_zero {w a : Int} (ha : GW w a) (hb : GW w 0) (h0 : 0 ≤ a) : Ev (fun k => spec_DivWord.f k w a 0) (18446744073709551615 % 2 ^ w.toNat, a, true) :=
 Ev.bind (tells_ev (l1Both_tells w a 0 h0 ha.le (by omega) (by omega)) ⟨ha, hb⟩) (ev_pos rfl (ev_pos rfl (Ev.bind (l1Cut_ev w _ (by have := ha.2.1; omega) (by omega) (by omega)) (Ev.now _))))
theorem spec_DivWord_yes {w a b : Int} (ha : GW w a) (hb : GW w b) (h0 : 0 ≤ a) (hb0 : 0 < b) : Ev (fun k => spec_DivWord.f k w a b) (a / b, a % b, true) := by
 obtain ⟨e1, e2⟩ := quo_word h0 ha.le hb0
 refine Ev.bind (tells_ev (l1Both_tells w a b h0 ha.le (by omega) hb.le) ⟨ha, hb⟩) (ev_pos rfl (ev_neg (by omega) ?_))
 rw [e1, e2]; exact Ev.now _
theorem shl_wordP {a : Int} {n : Nat} (hn : n < 64) : shl .u64 a (n : Int) = (a * 2 ^ n) % 18446744073709551616 := by
 have hb : IntKind.u64.bits = 64 := rfl
 simp only [shl, hb]
 rw [Int.toNat_natCast, Nat.min_eq_left (by omega), wu]
theorem shr_wordP {a : Int} {n : Nat} (hn : n < 64) : shr .u64 a (n : Int) = a / 2 ^ n := by
 have hb : IntKind.u64.bits = 64 := rfl
 simp only [shr, hb]
 rw [Int.toNat_natCast, Nat.min_eq_left (by omega)]
theorem shift_left {w a : Int} {n : Nat} (h1 : 1 ≤ w) (h2 : w ≤ 64) (h : (n : Int) < w) : impl_shift.f w a n true = some ((a * 2 ^ n) % 2 ^ w.toNat) := by
 have ew : IntKind.u64.wrap w = w := by rw [wu]; omega
 have hw := wu_in (a * 2 ^ n)
 unfold impl_shift.f
 rw [ew, if_neg (by omega), if_pos rfl, if_pos (by omega), mask_eq h1 h2, Option.bind_some, shl_wordP (by omega), ← wu, and_mask _ _ (by omega) hw.1 hw.2, wu, mod_word _ h2]
theorem shift_right {w a : Int} {n : Nat} (h1 : 1 ≤ w) (h2 : w ≤ 64) (h : (n : Int) < w) : impl_shift.f w a n false = some (a / 2 ^ n) := by
 have ew : IntKind.u64.wrap w = w := by rw [wu]; omega
 unfold impl_shift.f
 rw [ew, if_neg (by omega), if_neg (by simp), if_pos (by omega), shr_wordP (by omega)]
theorem wpredU (n : Nat) (hn : n < 64) : IntKind.u64.wrap (((n + 1 : Nat) : Int) - 1) = (n : Int) := by rw [wu]; omega
theorem l1Shift_right (w : Int) : ∀ (n : Nat), n < 64 → ∀ m : Nat, Ev (fun k => spec_l1Shift.l0 k w (m : Int) (n : Int) false) ((m / 2 ^ n : Nat) : Int)
 | 0, _, m => ev_eq (Ev.step (f := fun _ => some (m : Int)) (fun k => by simp only [spec_l1Shift.l0]; rw [if_neg (by omega)]) (Ev.now _)) (by simp)
 | n + 1, hn, m => by
  refine ev_eq (Ev.step (fun k => by simp only [spec_l1Shift.l0]; rw [if_pos (by omega), if_neg (by simp), wpredU n (by omega), show (m : Int) / 2 = ((m / 2 : Nat) : Int) by omega]) (l1Shift_right w n (by omega) (m / 2))) ?_
  rw [Nat.div_div_eq_div_mul, Nat.pow_succ, Nat.mul_comm]
theorem l1Shift_left (w : Int) (hw : 1 ≤ w ∧ w ≤ 64) : ∀ (n : Nat), n < 64 → ∀ a : Int, 0 ≤ a → a < 2 ^ w.toNat → Ev (fun k => spec_l1Shift.l0 k w a (n : Int) true) ((a * 2 ^ n) % 2 ^ w.toNat)
 | 0, _, a, h0, h1 => ev_eq (Ev.step (f := fun _ => some a) (fun k => by simp only [spec_l1Shift.l0]; rw [if_neg (by omega)]) (Ev.now _)) (by rw [Int.pow_zero, Int.mul_one, Int.emod_eq_of_lt h0 h1])
 | n + 1, hn, a, h0, h1 => by
  have hc : Ev (fun k => spec_l1Cut.f k w (IntKind.u64.wrap (a * 2))) ((a * 2) % 2 ^ w.toNat) := by
   have h := l1Cut_ev w (IntKind.u64.wrap (a * 2)) (by omega) (wu_in _).1 (wu_in _).2
   rw [wu, mod_word _ hw.2] at h
   rw [wu]; exact h
  refine ev_eq (Ev.step (fun k => by simp only [spec_l1Shift.l0]; rw [if_pos (by omega), if_pos trivial, wpredU n (by omega)]) (Ev.bind hc (l1Shift_left w hw n (by omega) _ (Int.emod_nonneg _ (Int.ne_of_gt (two_pos _))) (Int.emod_lt_of_pos _ (two_pos _))))) ?_
  rw [Int.pow_succ, Int.mul_emod, Int.emod_emod, ← Int.mul_emod, Int.mul_assoc, Int.mul_comm 2 (2 ^ n)]
def sgn (w a : Int) : Int := if a * 2 ^ (64 - w.toNat) < 9223372036854775808 then a else a - 2 ^ w.toNat
theorem signed_eq {w a : Int} (h : GW w a) (h0 : 0 ≤ a) : impl_signed.f w a = some (sgn w a) := by
 unfold impl_signed.f
 obtain ⟨h1, h2, h3⟩ := h
 have e : wrap64 (64 - w) = 64 - w := wid (by omega) (by omega)
 have hb : IntKind.u64.bits = 64 := rfl
 have hb2 : IntKind.i64.bits = 64 := rfl
 rw [e, if_pos (by omega)]
 simp only [shl, shr, hb, hb2]
 rw [show (64 - w).toNat = 64 - w.toNat by omega, Nat.min_eq_left (by omega), wu]
 have hp := two_pos (64 - w.toNat)
 have hM : (2 : Int) ^ w.toNat * 2 ^ (64 - w.toNat) = 18446744073709551616 := by rw [← Int.pow_add, show w.toNat + (64 - w.toNat) = 64 by omega]; rfl
 have hA0 : 0 ≤ a * 2 ^ (64 - w.toNat) := Int.mul_nonneg h0 (by omega)
 have hA1 : a * 2 ^ (64 - w.toNat) < 18446744073709551616 := by rw [← hM]; exact Int.mul_lt_mul_of_pos_right h3 hp
 rw [Int.emod_eq_of_lt hA0 hA1]
 unfold sgn
 by_cases hs : a * 2 ^ (64 - w.toNat) < 9223372036854775808
 ·rw [if_pos hs, wid (by omega) (by omega), Int.mul_ediv_cancel _ (by omega)]
 ·rw [if_neg hs, show wrap64 (a * 2 ^ (64 - w.toNat)) = a * 2 ^ (64 - w.toNat) - 18446744073709551616 by unfold wrap64; omega, ← hM, ← Int.sub_mul, Int.mul_ediv_cancel _ (by omega)]
theorem l1Signed_ev {w a : Int} (h : GW w a) (h0 : 0 ≤ a) : Ev (fun k => spec_l1Signed.f k w a) (sgn w a) := by
 obtain ⟨h1, h2, h3⟩ := h
 obtain ⟨m, rfl⟩ := Int.eq_ofNat_of_zero_le h0
 obtain ⟨n, hn⟩ : ∃ n : Nat, w = ((n + 1 : Nat) : Int) := ⟨(w - 1).toNat, by omega⟩
 subst hn
 have ht : (((n + 1 : Nat) : Int)).toNat = n + 1 := by omega
 have ew : IntKind.u64.wrap (wrap64 (((n + 1 : Nat) : Int) - 1)) = (n : Int) := by rw [wid (by omega) (by omega), wu]; omega
 have hp : 0 < 2 ^ n := Nat.two_pow_pos n
 have hm : m < 2 ^ n * 2 := by
  rw [ht, ← two_nat] at h3
  have := Int.ofNat_lt.1 h3
  rwa [Nat.pow_succ] at this
 have h63 : 2 ^ n * 2 ^ (63 - n) = 9223372036854775808 := by rw [← Nat.pow_add, show n + (63 - n) = 63 by omega]
 have hq : 1 ≤ 2 ^ (63 - n) := Nat.one_le_two_pow
 have hle : 2 ^ n ≤ 9223372036854775808 := by rw [← h63]; exact Nat.le_mul_of_pos_right _ hq
 have es : shr .u64 (m : Int) (n : Int) = ((m / 2 ^ n : Nat) : Int) := by rw [shr_wordP (by omega)]; simp
 have hd : m / 2 ^ n < 2 := Nat.div_lt_of_lt_mul hm
 have ea' : ∀ q : Nat, q < 2 → Go.bits .and .u64 (q : Int) 1 = (q : Int) := fun q hq2 => by
  have := and_mask (q : Int) 1 (by omega) (by omega) (by omega)
  rw [show (2 : Int) ^ 1 - 1 = 1 by rfl] at this
  rw [this]; omega
 have ea := ea' _ hd
 have hs : ((m : Int) * 2 ^ (64 - (((n + 1 : Nat) : Int)).toNat) < 9223372036854775808) ↔ m < 2 ^ n := by
  rw [ht, show 64 - (n + 1) = 63 - n by omega, ← two_nat, ← Int.natCast_mul]
  constructor
  ·intro g
   refine Classical.byContradiction (fun g2 => ?_)
   have : 2 ^ n * 2 ^ (63 - n) ≤ m * 2 ^ (63 - n) := Nat.mul_le_mul_right _ (by omega)
   omega
  ·intro g
   have : m * 2 ^ (63 - n) < 2 ^ n * 2 ^ (63 - n) := Nat.mul_lt_mul_of_pos_right g (by omega)
   omega
 unfold sgn
 by_cases c : m < 2 ^ n
 ·rw [if_pos (hs.2 c)]
  have e0 : m / 2 ^ n = 0 := Nat.div_eq_of_lt c
  exact Ev.congr (f := fun _ => some (m : Int)) (fun k => by simp only [spec_l1Signed.f]; rw [ew, if_pos (by omega), es, ea, e0, if_neg (by decide), wid (by omega) (by omega)]) (Ev.now _)
 ·rw [if_neg (fun g => c (hs.1 g))]
  have e1 : m / 2 ^ n = 1 := by
   have : 1 ≤ m / 2 ^ n := (Nat.le_div_iff_mul_le hp).2 (by omega)
   omega
  have hcut := l1Cut_ev ((n + 1 : Nat) : Int) 18446744073709551615 (by omega) (by omega) (by omega)
  have h64 : 2 ^ (n + 1) * 2 ^ (63 - n) = 18446744073709551616 := by rw [← Nat.pow_add, show n + 1 + (63 - n) = 64 by omega]
  have hp2 : 2 ^ (n + 1) = 2 ^ n * 2 := Nat.pow_succ ..
  have e2 : (18446744073709551615 : Int) % 2 ^ (((n + 1 : Nat) : Int)).toNat = ((2 ^ (n + 1) - 1 : Nat) : Int) := by
   rw [ht, ← two_nat, show (18446744073709551615 : Int) = ((18446744073709551615 : Nat) : Int) by rfl, ← Int.natCast_emod]
   congr 1
   rw [show 18446744073709551615 = (2 ^ (n + 1) - 1) + 2 ^ (n + 1) * (2 ^ (63 - n) - 1) by rw [Nat.mul_sub, h64]; have := Nat.le_mul_of_pos_right (2 ^ (n + 1)) hq; omega, Nat.add_mul_mod_self_left, Nat.mod_eq_of_lt (by omega)]
  have e3 : Go.bits .or .u64 (m : Int) (18446744073709551615 - ((2 ^ (n + 1) - 1 : Nat) : Int)) = ((2 ^ (n + 1) * (2 ^ (63 - n) - 1) + m : Nat) : Int) := by
   have hx : 18446744073709551616 - 2 ^ (n + 1) = 2 ^ (n + 1) * (2 ^ (63 - n) - 1) := by rw [Nat.mul_sub, h64, Nat.mul_one]
   rw [show (18446744073709551615 : Int) - ((2 ^ (n + 1) - 1 : Nat) : Int) = ((18446744073709551616 - 2 ^ (n + 1) : Nat) : Int) by omega, bits_or_u64_nat _ _ (by omega) (by omega), hx, Nat.or_comm, Nat.two_pow_add_eq_or_of_lt (by omega)]
  rw [e2] at hcut
  refine Ev.congr (fun k => by simp only [spec_l1Signed.f]; rw [ew, if_pos (by omega), es, ea, e1, if_pos (show ((1 : Nat) : Int) = 1 by rfl)]) (Ev.bind hcut ?_)
  refine Ev.congr (f := fun _ => some ((m : Int) - 2 ^ (((n + 1 : Nat) : Int)).toNat)) (fun k => ?_) (Ev.now _)
  rw [not_word _ (by omega) (by omega), e3, ht, ← two_nat]
  have hx : 2 ^ (n + 1) * (2 ^ (63 - n) - 1) = 18446744073709551616 - 2 ^ (n + 1) := by rw [Nat.mul_sub, h64, Nat.mul_one]
  rw [hx]
  congr 1
  unfold wrap64
  omega
def VOk (wi kd v : Int) : Prop := 0 ≤ v ∧ GW wi v ∧ (kd = 2 → v ≤ 1)
def nxt : List (Nat × Int × Int) → Nat
 | [] => 0
 | x :: _ => x.1 + 1
def valsOf (S : List (Nat × Int × Int)) : List Int := (S.map (fun x => x.2.1)).reverse
def kindsOf (S : List (Nat × Int × Int)) : List Int := (S.map (fun x => x.2.2)).reverse
def Piled (wi : Int) (t : List S80) (s : List Int) : Nat → List (Nat × Int × Int) → Prop
 | n, [] => n = 0
 | n, x :: r => (n = x.1 + 1 ∧ nxt r ≤ x.1) ∧ Ev (fun k => spec_l2Value.f k wi t (x.1 : Int) s) x.2.1 ∧ Ev (fun k => spec_l2From.f k t (x.1 : Int)) (nxt r : Int) ∧ VOk wi x.2.2 x.2.1 ∧ Piled wi t s (nxt r) r
theorem Piled.nxt {wi : Int} {t : List S80} {s : List Int} : ∀ {S : List (Nat × Int × Int)} {n : Nat}, Piled wi t s n S → nxt S = n
 | [], _, h => h.symm
 | _ :: _, _, h => h.1.1.symm
theorem from_l0 (t : List S80) (a : Int) : Ev (fun k => spec_l2From.l0 k t 0 a) a := Ev.step (f := fun _ => some a) (fun k => by simp only [spec_l2From.l0]; rw [if_neg (by omega)]) (Ev.now _)
theorem from_l1 (t : List S80) (m : Int) (hm : 0 ≤ m ∧ m ≤ 2) (e : Nat) (he : e ≤ 1000) (b r : Int) (h : Ev (fun k => spec_l2From.f k t (e : Int)) b) (h2 : Ev (fun k => spec_l2From.l0 k t m b) r) : Ev (fun k => spec_l2From.l0 k t (m + 1) ((e + 1 : Nat) : Int)) r :=
 Ev.step (fun k => by simp only [spec_l2From.l0]; rw [if_pos (by omega), show ((e + 1 : Nat) : Int) - 1 = (e : Int) by omega, wid (x := (e : Int)) (by omega) (by omega), wid (x := m + 1 - 1) (by omega) (by omega), show m + 1 - 1 = m by omega]) (Ev.bind h h2)
theorem from_at (t : List S80) (n : Nat) (hn : n < t.length) (r : Int) (h : Ev (fun k => spec_l2From.l0 k t (needMany (t.getD n z80).f0 : Int) (n : Int)) r) : Ev (fun k => spec_l2From.f k t (n : Int)) r := by
 have er : rd_T80 t (n : Int) = t.getD n z80 := by simp [rd_T80]
 obtain ⟨p, hp, _⟩ := l2Need_ev (t.getD n z80).f0
 exact Ev.step (fun k => by simp only [spec_l2From.f]; rw [if_pos (by omega), if_pos (by omega), er]) (Ev.bind hp h)
theorem from_next (wi : Int) (t : List S80) (s : List Int) (n : Nat) (hn : n < t.length) (ht : t.length ≤ 48) (S : List (Nat × Int × Int)) (hS : Piled wi t s n S) (hm : needMany (t.getD n z80).f0 ≤ S.length) :
  Ev (fun k => spec_l2From.f k t (n : Int)) (nxt (S.drop (needMany (t.getD n z80).f0)) : Int) ∧ Piled wi t s (nxt (S.drop (needMany (t.getD n z80).f0))) (S.drop (needMany (t.getD n z80).f0)) ∧ nxt (S.drop (needMany (t.getD n z80).f0)) ≤ n := by
 have h2 := needMany_le (t.getD n z80).f0
 have key : ∀ r, Ev (fun k => spec_l2From.l0 k t (needMany (t.getD n z80).f0 : Int) (n : Int)) r → Ev (fun k => spec_l2From.f k t (n : Int)) r := fun r h => from_at t n hn r h
 generalize needMany (t.getD n z80).f0 = m at hm h2 key ⊢
 match m, S, hS, hm, h2 with
 | 0, S, hS, _, _ =>
  rw [List.drop_zero, hS.nxt]
  exact ⟨key _ (from_l0 t _), hS, Nat.le_refl n⟩
 | 1, x :: r, hS, _, _ =>
  obtain ⟨⟨h0, hle⟩, _, h1, _, h3⟩ := hS
  subst h0
  have hle : nxt r ≤ x.1 := hle
  exact ⟨key _ (from_l1 t 0 (by omega) x.1 (by omega) _ _ h1 (from_l0 t _)), h3, by show nxt r ≤ x.1 + 1; omega⟩
 | 2, x :: y :: r, hS, _, _ =>
  obtain ⟨⟨h0, hle⟩, _, h1, _, h3⟩ := hS
  obtain ⟨⟨_, hle2⟩, _, h4, _, h5⟩ := h3
  have hle2 : nxt r ≤ y.1 := hle2
  have hle : y.1 + 1 ≤ x.1 := hle
  subst h0
  exact ⟨key _ (from_l1 t 1 (by omega) x.1 (by omega) _ _ h1 (from_l1 t 0 (by omega) y.1 (by omega) _ _ h4 (from_l0 t _))), h5, by show nxt r ≤ x.1 + 1; omega⟩
theorem operandsOf_ev (op : Int) : ∃ p, Ev (fun k => impl_operandsOf.f k op) ((needMany op : Int), p, needOwn op) ∧ (0 < needMany op → p = needPart op) := by
 have j2 : ∀ b : Bool, Ev (fun k => impl_operandsOf.j2 k op b) (if b = true then (2, 1, 2) else if op = 17 then (2, 2, 2) else if op = 18 then (2, 2, 2) else (0, 0, 0)) := fun b => by
  refine Ev.step (f := fun _ => some (if b = true then (2, 1, 2) else if op = 17 then (2, 2, 2) else if op = 18 then (2, 2, 2) else (0, 0, 0))) (fun k => ?_) (Ev.now _)
  simp only [impl_operandsOf.j2]
  by_cases c : b = true
  ·rw [if_pos c, if_pos c]
  ·by_cases c2 : op = 17
   ·rw [if_neg c, if_neg c, if_pos c2, if_pos c2]
   ·by_cases c3 : op = 18
    ·rw [if_neg c, if_neg c, if_neg c2, if_neg c2, if_pos c3, if_pos c3]
    ·rw [if_neg c, if_neg c, if_neg c2, if_neg c2, if_neg c3, if_neg c3]
 have j1 : ∀ b : Bool, Ev (fun k => impl_operandsOf.j1 k op b) (if b = true then (2, 1, 1) else if decide (14 ≤ op ∧ op ≤ 16) = true then (2, 1, 2) else if op = 17 then (2, 2, 2) else if op = 18 then (2, 2, 2) else (0, 0, 0)) := fun b => by
  by_cases hb : b = true
  ·rw [if_pos hb]; exact Ev.step (f := fun _ => some (2, 1, 1)) (fun k => by simp only [impl_operandsOf.j1]; rw [if_pos hb]) (Ev.now _)
  ·rw [if_neg hb]
   by_cases h : op ≥ 14
   ·refine ev_eq (Ev.step (fun k => by simp only [impl_operandsOf.j1]; rw [if_neg hb, if_pos h]) (j2 _)) ?_
    have : (op ≤ 16) ↔ (14 ≤ op ∧ op ≤ 16) := ⟨fun g => ⟨h, g⟩, fun g => g.2⟩
    rw [decide_eq_decide.2 this]
   ·refine ev_eq (Ev.step (fun k => by simp only [impl_operandsOf.j1]; rw [if_neg hb, if_neg h]) (j2 _)) ?_
    have : ¬ (14 ≤ op ∧ op ≤ 16) := by omega
    simp [this]
 have j0 : ∀ b : Bool, b = decide (op = 1 ∨ op = 2) → ∃ p, Ev (fun k => impl_operandsOf.j0 k op b) ((needMany op : Int), p, needOwn op) ∧ (0 < needMany op → p = needPart op) := fun b hb => by
  by_cases h1 : b = true
  ·have h2 : op = 1 ∨ op = 2 := by rw [hb] at h1; simpa using h1
   refine ⟨0, Ev.step (f := fun _ => some ((needMany op : Int), 0, needOwn op)) (fun k => ?_) (Ev.now _), fun h => ?_⟩
   ·simp only [impl_operandsOf.j0]; rw [if_pos h1]; rcases h2 with rfl | rfl <;> rfl
   ·rcases h2 with rfl | rfl <;> simp [needMany] at h
  ·have h2 : ¬ (op = 1 ∨ op = 2) := by rw [hb] at h1; simpa using h1
   by_cases h20 : op = 20
   ·subst h20; exact ⟨0, Ev.step (f := fun _ => some (0, 0, 2)) (fun k => by simp [impl_operandsOf.j0, h1]) (Ev.now _), fun h => by simp [needMany] at h⟩
   by_cases h13 : op = 13
   ·subst h13; exact ⟨1, Ev.step (f := fun _ => some (1, 1, 1)) (fun k => by simp [impl_operandsOf.j0, h1]) (Ev.now _), fun _ => rfl⟩
   by_cases h19 : op = 19
   ·subst h19; exact ⟨2, Ev.step (f := fun _ => some (1, 2, 2)) (fun k => by simp [impl_operandsOf.j0, h1]) (Ev.now _), fun _ => rfl⟩
   have key : ∃ p, (if decide (3 ≤ op ∧ op ≤ 12) = true then ((2 : Int), (1 : Int), (1 : Int)) else if decide (14 ≤ op ∧ op ≤ 16) = true then (2, 1, 2) else if op = 17 then (2, 2, 2) else if op = 18 then (2, 2, 2) else (0, 0, 0)) = ((needMany op : Int), p, needOwn op) ∧ (0 < needMany op → p = needPart op) := by
    simp only [decide_eq_true_eq]
    by_cases a1 : 3 ≤ op ∧ op ≤ 12
    ·exact ⟨1, by rw [if_pos a1, needMany, needOwn, if_neg (by omega), if_neg (by omega), if_pos (by omega), if_neg (by omega), if_pos (by omega)]; rfl, fun _ => by rw [needPart, if_neg (by omega)]⟩
    by_cases a2 : 14 ≤ op ∧ op ≤ 16
    ·exact ⟨1, by rw [if_neg a1, if_pos a2, needMany, needOwn, if_neg (by omega), if_neg (by omega), if_pos (by omega), if_pos (by omega)]; rfl, fun _ => by rw [needPart, if_neg (by omega)]⟩
    by_cases a3 : op = 17
    ·subst a3; exact ⟨2, rfl, fun _ => rfl⟩
    by_cases a4 : op = 18
    ·subst a4; exact ⟨2, rfl, fun _ => rfl⟩
    ·have e : needMany op = 0 := by rw [needMany, if_neg (by omega), if_neg (by omega), if_neg (by omega)]
     exact ⟨0, by rw [if_neg a1, if_neg a2, if_neg a3, if_neg a4, e, needOwn, if_neg (by omega), if_neg (by omega)]; rfl, fun h => by omega⟩
   obtain ⟨p, e1, e2⟩ := key
   refine ⟨p, ?_, e2⟩
   by_cases h3 : op ≥ 3
   ·refine Ev.step (fun k => by simp only [impl_operandsOf.j0]; rw [if_neg h1, if_neg h20, if_neg h13, if_neg h19, if_pos h3]) (ev_eq (j1 _) ?_)
    rw [← e1]
    have : (op ≤ 12) ↔ (3 ≤ op ∧ op ≤ 12) := ⟨fun g => ⟨h3, g⟩, fun g => g.2⟩
    rw [decide_eq_decide.2 this]
   ·refine Ev.step (fun k => by simp only [impl_operandsOf.j0]; rw [if_neg h1, if_neg h20, if_neg h13, if_neg h19, if_neg h3]) (ev_eq (j1 _) ?_)
    rw [← e1]
    have : ¬ (3 ≤ op ∧ op ≤ 12) := by omega
    simp [this]
 by_cases h1 : op = 1
 ·obtain ⟨p, e1, e2⟩ := j0 true (by simp [h1])
  exact ⟨p, ev_pos h1 e1, e2⟩
 ·obtain ⟨p, e1, e2⟩ := j0 (op == 2) (by simp [h1]; rfl)
  exact ⟨p, ev_neg h1 e1, e2⟩
def DoOk (wi : Int) : Prop := ∀ op a b : Int, needMany op = 2 → VOk wi (needPart op) a → VOk wi (needPart op) b → ∃ c, Ev (fun k => spec_l2Do.f k wi op a b) c ∧ Ev (fun k => impl_apply.f k wi op a b) c ∧ VOk wi (needOwn op) c
def FlOk (wi : Int) : Prop := ∀ a : Int, VOk wi 1 a → ∃ c mk, Ev (fun k => spec_l1Cut.f k wi (Go.bits .xor .u64 18446744073709551615 a)) c ∧ impl_mask.f wi = some mk ∧ Go.bits .and .u64 (Go.bits .xor .u64 18446744073709551615 a) mk = c ∧ VOk wi 1 c
theorem value_one (wi va : Int) (t : List S80) (s : List Int) (hs : StateOk wi va s) (hp : ∀ a ∈ s, 0 ≤ a) (n : Nat) (hn : n < t.length) (ht : t.length ≤ 48) (h1 : 0 ≤ (t.getD n z80).f1) (S : List (Nat × Int × Int)) (hS : Piled wi t s n S) (hl : S.length ≤ n)
  (hf : fits wi va (t.getD n z80) (kindsOf S)) (hm : needMany (t.getD n z80).f0 = 0) (hw : 1 ≤ wi ∧ wi ≤ 64) :
  ∃ v, Ev (fun k => spec_l2Value.f k wi t (n : Int) s) v ∧ VOk wi (needOwn (t.getD n z80).f0) v ∧ ∀ r, Ev (fun k => impl_valueOf.l0 k wi s (valsOf S ++ [v]) t (t.length : Int) ((n + 1 : Nat) : Int)) r → Ev (fun k => impl_valueOf.l0 k wi s (valsOf S) t (t.length : Int) (n : Int)) r := by
 have er : rd_T80 t (n : Int) = t.getD n z80 := by simp [rd_T80]
 obtain ⟨p, hp2, _⟩ := l2Need_ev (t.getD n z80).f0
 obtain ⟨f1, f2, _, _⟩ := hf
 have hlv : (valsOf S).length = S.length := by simp [valsOf]
 generalize t.getD n z80 = x at er h1 f1 f2 hp2 hm ⊢
 rw [hm] at hp2
 have hv : ∀ v, (x.f0 = 2 → 0 ≤ x.f1 ∧ x.f1 < (s.length : Int) ∧ v = rd s x.f1) → (x.f0 ≠ 2 → v = x.f1) → Ev (fun k => spec_l2Value.f k wi t (n : Int) s) v := fun v g1 g2 => by
  refine Ev.step (fun k => by simp only [spec_l2Value.f]; rw [if_pos (by omega), if_pos (by omega), er]) (Ev.bind hp2 ?_)
  by_cases c : x.f0 = 2
  ·obtain ⟨g3, g4, rfl⟩ := g1 c
   exact ev_pos c (ev_pos g3 (ev_pos g4 (Ev.now _)))
  ·rw [g2 c]
   exact ev_neg c (ev_pos rfl (Ev.now _))
 have e0 : ∀ r, Ev (fun k => impl_valueOf.j1 k wi s (valsOf S) (wrap64 (((valsOf S).length : Int) - 1)) t (t.length : Int) (n : Int) x.f0 (decide (x.f0 = 1 ∨ x.f0 = 20)) x.f0 x.f1) r → Ev (fun k => impl_valueOf.l0 k wi s (valsOf S) t (t.length : Int) (n : Int)) r := fun r h => by
  by_cases c : x.f0 = 1
  ·refine Ev.step (fun k => by simp only [impl_valueOf.l0]; rw [if_pos (by omega), if_pos (by omega), if_pos (by omega), er, if_pos c]) ?_
   rw [show (x.f0 == 1) = decide (x.f0 = 1 ∨ x.f0 = 20) by simp [c]]; exact h
  ·refine Ev.step (fun k => by simp only [impl_valueOf.l0]; rw [if_pos (by omega), if_pos (by omega), if_pos (by omega), er, if_neg c]) ?_
   rw [show (x.f0 == 20) = decide (x.f0 = 1 ∨ x.f0 = 20) by simp [c]; rfl]; exact h
 have hop : x.f0 = 1 ∨ x.f0 = 2 ∨ x.f0 = 20 := by
  refine Classical.byContradiction (fun h => ?_)
  unfold needMany at hm; unfold needOwn at f1
  rw [if_neg h] at hm
  by_cases c : x.f0 = 13 ∨ x.f0 = 19
  ·rw [if_pos c] at hm; omega
  ·rw [if_neg c] at hm
   by_cases c2 : 3 ≤ x.f0 ∧ x.f0 ≤ 18
   ·rw [if_pos c2] at hm; omega
   ·exact f1 (by rw [if_neg (by omega), if_neg (by omega)])
 unfold NOk at f2
 by_cases c2 : x.f0 = 2
 ·rw [if_neg (by omega), if_pos c2] at f2
  have hb : x.f1 < (s.length : Int) := by rw [hs.1]; exact f2
  obtain ⟨q, hq⟩ := Int.eq_ofNat_of_zero_le h1
  have hmem : rd s x.f1 ∈ s := by rw [hq, rd_nat]; exact getD_mem (by omega) 0
  refine ⟨rd s x.f1, hv _ (fun _ => ⟨h1, hb, rfl⟩) (fun h => absurd c2 h), ⟨hp _ hmem, hs.2 _ hmem, fun h => ?_⟩, fun r h => e0 r ?_⟩
  ·rw [c2] at h; simp [needOwn] at h
  ·exact Ev.step (fun k => by simp only [impl_valueOf.j1]; rw [if_neg (by simp; omega), if_pos c2, if_pos h1, if_pos hb, if_pos (by omega), wsucc (by omega)]) h
 ·refine ⟨x.f1, hv _ (fun h => absurd h c2) (fun _ => rfl), ?_, fun r h => e0 r ?_⟩
  ·by_cases c1 : x.f0 = 1
   ·rw [if_pos c1] at f2
    exact ⟨h1, f2, fun h => by rw [c1] at h; simp [needOwn] at h⟩
   ·rw [if_neg c1, if_neg c2, if_pos (by omega)] at f2
    refine ⟨h1, ⟨hw.1, hw.2, ?_⟩, fun _ => f2⟩
    have h3 : 2 ^ 1 ≤ 2 ^ wi.toNat := Nat.pow_le_pow_right (by omega) (by omega)
    have h4 : ((2 ^ wi.toNat : Nat) : Int) = (2 : Int) ^ wi.toNat := by simp
    rw [← h4]
    generalize 2 ^ wi.toNat = q at h3
    omega
  ·exact Ev.step (fun k => by simp only [impl_valueOf.j1]; rw [if_pos (by simp; omega), if_pos (by omega), wsucc (by omega)]) h
theorem value_un (wi va : Int) (hFl : FlOk wi) (t : List S80) (s : List Int) (n : Nat) (hn : n < t.length) (ht : t.length ≤ 48) (y : Nat × Int × Int) (R : List (Nat × Int × Int)) (hS : Piled wi t s n (y :: R)) (hl : (y :: R).length ≤ n)
  (hf : fits wi va (t.getD n z80) (kindsOf (y :: R))) (hm : needMany (t.getD n z80).f0 = 1) (hw : 1 ≤ wi ∧ wi ≤ 64) :
  ∃ v, Ev (fun k => spec_l2Value.f k wi t (n : Int) s) v ∧ VOk wi (needOwn (t.getD n z80).f0) v ∧ ∀ r, Ev (fun k => impl_valueOf.l0 k wi s (valsOf R ++ [v]) t (t.length : Int) ((n + 1 : Nat) : Int)) r → Ev (fun k => impl_valueOf.l0 k wi s (valsOf (y :: R)) t (t.length : Int) (n : Int)) r := by
 have er : rd_T80 t (n : Int) = t.getD n z80 := by simp [rd_T80]
 obtain ⟨p, hp2, _⟩ := l2Need_ev (t.getD n z80).f0
 obtain ⟨f1, f2, f3, f4⟩ := hf
 obtain ⟨⟨h0, _⟩, hev, _, hvk, _⟩ := hS
 have hst : valsOf (y :: R) = valsOf R ++ [y.2.1] := by simp [valsOf]
 have hlR : (valsOf R).length = R.length := by simp [valsOf]
 have hk : y.2.2 = needPart (t.getD n z80).f0 := f4 _ (by
  rw [hm]
  have e : kindsOf (y :: R) = kindsOf R ++ [y.2.2] := by simp [kindsOf]
  rw [e, List.length_append, List.length_singleton, Nat.add_sub_cancel, List.drop_left]; simp)
 rw [hst]
 generalize t.getD n z80 = x at er f1 f2 hp2 hm hk ⊢
 rw [hm] at hp2
 have hop : x.f0 = 13 ∨ x.f0 = 19 := by
  refine Classical.byContradiction (fun h => ?_)
  unfold needMany at hm
  by_cases c : x.f0 = 1 ∨ x.f0 = 2 ∨ x.f0 = 20
  ·rw [if_pos c] at hm; omega
  ·rw [if_neg c, if_neg h] at hm
   by_cases c2 : 3 ≤ x.f0 ∧ x.f0 ≤ 18
   ·rw [if_pos c2] at hm; omega
   ·rw [if_neg c2] at hm; omega
 have hll : ((valsOf R ++ [y.2.1]).length : Int) - 1 = ((valsOf R).length : Int) := by simp
 have wl : wrap64 (((valsOf R ++ [y.2.1]).length : Int) - 1) = ((valsOf R).length : Int) := by rw [hll]; exact wid (by omega) (by simp at hl; omega)
 have hrd : rd (valsOf R ++ [y.2.1]) ((valsOf R).length : Int) = y.2.1 := by rw [rd_nat]; simp [List.getD_eq_getElem?_getD]
 have hset : ∀ v, (valsOf R ++ [y.2.1]).set (((valsOf R).length : Int)).toNat v = valsOf R ++ [v] := fun v => by rw [Int.toNat_natCast]; simp
 have wn : wrap64 ((n : Int) - 1) = (y.1 : Int) := by rw [show (n : Int) - 1 = (y.1 : Int) by omega]; exact wid (by omega) (by omega)
 have e0 : ∀ r, Ev (fun k => impl_valueOf.j1 k wi s (valsOf R ++ [y.2.1]) ((valsOf R).length : Int) t (t.length : Int) (n : Int) x.f0 false x.f0 x.f1) r → Ev (fun k => impl_valueOf.l0 k wi s (valsOf R ++ [y.2.1]) t (t.length : Int) (n : Int)) r := fun r h => by
  refine Ev.step (fun k => by simp only [impl_valueOf.l0]; rw [if_pos (by omega), if_pos (by omega), if_pos (by omega), er, if_neg (by omega), wl]) ?_
  rw [show (x.f0 == 20) = false by rw [beq_eq_false_iff_ne]; omega]; exact h
 have hin : ((valsOf R).length : Int) < ((valsOf R ++ [y.2.1]).length : Int) := by omega
 rcases hop with c | c
 ·have hk1 : VOk wi 1 y.2.1 := by rw [hk, c] at hvk; exact hvk
  obtain ⟨cc, mk, q1, q2, q3, q4⟩ := hFl _ hk1
  refine ⟨cc, Ev.step (fun k => by simp only [spec_l2Value.f]; rw [if_pos (by omega), if_pos (by omega), er]) (Ev.bind hp2 ?_), by rw [c]; exact q4, fun r h => e0 r ?_⟩
  ·refine ev_neg (by omega) (ev_neg (show ¬ ((1 : Nat) : Int) = 0 by omega) (ev_pos c ?_))
   exact Ev.congr (fun k => by rw [wn]) (Ev.bind hev (Ev.bind q1 (Ev.now _)))
  ·refine Ev.step (fun k => by simp only [impl_valueOf.j1]; rw [if_neg (by simp), if_neg (by omega), if_pos c, if_pos (by omega), if_pos hin, q2, Option.bind_some, hrd, q3, hset, wsucc (by omega)]) h
 ·have hk1 : VOk wi 2 y.2.1 := by rw [hk, c] at hvk; exact hvk
  have hv1 := hk1.2.2 rfl
  have hv0 := hk1.1
  have hu : IntKind.u64.wrap (1 - y.2.1) = 1 - y.2.1 := by rw [wu, Int.emod_eq_of_lt (by omega) (by omega)]
  refine ⟨1 - y.2.1, Ev.step (fun k => by simp only [spec_l2Value.f]; rw [if_pos (by omega), if_pos (by omega), er]) (Ev.bind hp2 ?_), ⟨by omega, ⟨hw.1, hw.2, ?_⟩, fun _ => by omega⟩, fun r h => e0 r ?_⟩
  ·refine ev_neg (by omega) (ev_neg (show ¬ ((1 : Nat) : Int) = 0 by omega) (ev_neg (by omega) (ev_pos c ?_)))
   exact Ev.congr (fun k => by rw [wn]) (Ev.bind hev (Ev.congr (fun k => by rw [hu]) (Ev.now _)))
  ·have h3 : 2 ^ 1 ≤ 2 ^ wi.toNat := Nat.pow_le_pow_right (by omega) (by omega)
   have h4 : ((2 ^ wi.toNat : Nat) : Int) = (2 : Int) ^ wi.toNat := by simp
   rw [← h4]
   generalize 2 ^ wi.toNat = q at h3
   omega
  ·refine Ev.step (fun k => by simp only [impl_valueOf.j1]; rw [if_neg (by simp), if_neg (by omega), if_neg (by omega), if_pos c, if_pos (by omega), if_pos hin, hrd, hu, hset, wsucc (by omega)]) h
theorem value_bin (wi va : Int) (hDo : DoOk wi) (t : List S80) (s : List Int) (n : Nat) (hn : n < t.length) (ht : t.length ≤ 48) (y z : Nat × Int × Int) (R : List (Nat × Int × Int)) (hS : Piled wi t s n (y :: z :: R)) (hl : (y :: z :: R).length ≤ n)
  (hf : fits wi va (t.getD n z80) (kindsOf (y :: z :: R))) (hm : needMany (t.getD n z80).f0 = 2) :
  ∃ v, Ev (fun k => spec_l2Value.f k wi t (n : Int) s) v ∧ VOk wi (needOwn (t.getD n z80).f0) v ∧ ∀ r, Ev (fun k => impl_valueOf.l0 k wi s (valsOf R ++ [v]) t (t.length : Int) ((n + 1 : Nat) : Int)) r → Ev (fun k => impl_valueOf.l0 k wi s (valsOf (y :: z :: R)) t (t.length : Int) (n : Int)) r := by
 have er : rd_T80 t (n : Int) = t.getD n z80 := by simp [rd_T80]
 obtain ⟨p, hp2, _⟩ := l2Need_ev (t.getD n z80).f0
 obtain ⟨f1, f2, f3, f4⟩ := hf
 obtain ⟨⟨h0, hle⟩, hev, hfr, hvk, hz⟩ := hS
 obtain ⟨_, hev2, _, hvk2, _⟩ := hz
 have hle : z.1 + 1 ≤ y.1 := hle
 have hfr : Ev (fun k => spec_l2From.f k t (y.1 : Int)) ((z.1 + 1 : Nat) : Int) := hfr
 have hst : valsOf (y :: z :: R) = valsOf R ++ [z.2.1, y.2.1] := by simp [valsOf]
 have hlR : (valsOf R).length = R.length := by simp [valsOf]
 have hkk : ∀ q ∈ [z.2.2, y.2.2], q = needPart (t.getD n z80).f0 := fun q hq => f4 q (by
  rw [hm]
  have e : kindsOf (y :: z :: R) = kindsOf R ++ [z.2.2, y.2.2] := by simp [kindsOf]
  rw [e, List.length_append, show [z.2.2, y.2.2].length = 2 from rfl, Nat.add_sub_cancel, List.drop_left]; exact hq)
 have hk1 := hkk y.2.2 (by simp)
 have hk2 := hkk z.2.2 (by simp)
 rw [hst]
 generalize t.getD n z80 = x at er f1 f2 hp2 hm hk1 hk2 ⊢
 rw [hm] at hp2
 rw [hk1] at hvk
 rw [hk2] at hvk2
 obtain ⟨c, d1, d2, d3⟩ := hDo x.f0 _ _ hm hvk2 hvk
 have hop : 3 ≤ x.f0 ∧ x.f0 ≤ 18 ∧ x.f0 ≠ 13 := by
  unfold needMany at hm
  by_cases c : x.f0 = 1 ∨ x.f0 = 2 ∨ x.f0 = 20
  ·rw [if_pos c] at hm; omega
  ·rw [if_neg c] at hm
   by_cases c3 : x.f0 = 13 ∨ x.f0 = 19
   ·rw [if_pos c3] at hm; omega
   ·rw [if_neg c3] at hm
    by_cases c2 : 3 ≤ x.f0 ∧ x.f0 ≤ 18
    ·omega
    ·rw [if_neg c2] at hm; omega
 have hlen : (valsOf R ++ [z.2.1, y.2.1]).length = (valsOf R).length + 2 := by simp
 have hlb : (valsOf R).length + 2 ≤ 48 := by simp at hl; omega
 have wl : wrap64 (((valsOf R ++ [z.2.1, y.2.1]).length : Int) - 1) = (((valsOf R).length + 1 : Nat) : Int) := by rw [hlen, show (((valsOf R).length + 2 : Nat) : Int) - 1 = (((valsOf R).length + 1 : Nat) : Int) by omega]; exact wid (by omega) (by omega)
 have wl2 : wrap64 ((((valsOf R).length + 1 : Nat) : Int) - 1) = ((valsOf R).length : Int) := by rw [show (((valsOf R).length + 1 : Nat) : Int) - 1 = ((valsOf R).length : Int) by omega]; exact wid (by omega) (by omega)
 have hrd1 : rd (valsOf R ++ [z.2.1, y.2.1]) ((valsOf R).length : Int) = z.2.1 := by rw [rd_nat]; simp [List.getD_eq_getElem?_getD]
 have hrd2 : rd (valsOf R ++ [z.2.1, y.2.1]) (((valsOf R).length + 1 : Nat) : Int) = y.2.1 := by rw [rd_nat]; simp [List.getD_eq_getElem?_getD]
 have htk : (valsOf R ++ [z.2.1, y.2.1]).take (((valsOf R).length : Int)).toNat = valsOf R := by rw [Int.toNat_natCast, List.take_left]
 have wn : wrap64 ((n : Int) - 1) = (y.1 : Int) := by rw [show (n : Int) - 1 = (y.1 : Int) by omega]; exact wid (by omega) (by omega)
 have wz : wrap64 (((z.1 + 1 : Nat) : Int) - 1) = (z.1 : Int) := by rw [show ((z.1 + 1 : Nat) : Int) - 1 = (z.1 : Int) by omega]; exact wid (by omega) (by omega)
 refine ⟨c, Ev.step (fun k => by simp only [spec_l2Value.f]; rw [if_pos (by omega), if_pos (by omega), er]) (Ev.bind hp2 ?_), d3, fun r h => ?_⟩
 ·refine ev_neg (by omega) (ev_neg (show ¬ ((2 : Nat) : Int) = 0 by omega) (ev_neg (by omega) (ev_neg (by omega) ?_)))
  exact Ev.congr (fun k => by rw [wn]) (Ev.bind hfr (Ev.congr (fun k => by rw [wz]) (Ev.bind hev2 (Ev.bind hev (Ev.bind d1 (Ev.now _))))))
 ·refine Ev.step (fun k => by simp only [impl_valueOf.l0]; rw [if_pos (by omega), if_pos (by omega), if_pos (by omega), er, if_neg (by omega), wl]) ?_
  rw [show (x.f0 == 20) = false by rw [beq_eq_false_iff_ne]; omega]
  refine Ev.step (fun k => by simp only [impl_valueOf.j1]; rw [if_neg (by simp), if_neg (by omega), if_neg (by omega), if_neg (by omega), wl2, if_pos (by omega), if_pos (by omega), if_pos (by omega), if_pos (by omega), if_pos (by omega), htk, hrd1, hrd2, wsucc (by omega), Option.bind_some]) (Ev.bind d2 ?_)
  exact ev_pos (show (valsOf R).length < 17592186044416 by omega) h
theorem kindsOf_length (S : List (Nat × Int × Int)) : (kindsOf S).length = S.length := by simp [kindsOf]
theorem value_step (wi va : Int) (hDo : DoOk wi) (hFl : FlOk wi) (hw : 1 ≤ wi ∧ wi ≤ 64) (t : List S80) (s : List Int) (hs : StateOk wi va s) (hp : ∀ a ∈ s, 0 ≤ a) (n : Nat) (hn : n < t.length) (ht : t.length ≤ 48) (h1 : 0 ≤ (t.getD n z80).f1) (S : List (Nat × Int × Int)) (hS : Piled wi t s n S) (hl : S.length ≤ n)
  (hf : fits wi va (t.getD n z80) (kindsOf S)) :
  ∃ S', Piled wi t s (n + 1) S' ∧ S'.length ≤ n + 1 ∧ kindsOf S' = pile (t.getD n z80) (kindsOf S) ∧ ∀ r, Ev (fun k => impl_valueOf.l0 k wi s (valsOf S') t (t.length : Int) ((n + 1 : Nat) : Int)) r → Ev (fun k => impl_valueOf.l0 k wi s (valsOf S) t (t.length : Int) (n : Int)) r := by
 have hm := hf.2.2.1
 rw [kindsOf_length] at hm
 obtain ⟨g1, g2, g3⟩ := from_next wi t s n hn ht S hS hm
 have key : ∃ v, Ev (fun k => spec_l2Value.f k wi t (n : Int) s) v ∧ VOk wi (needOwn (t.getD n z80).f0) v ∧ ∀ r, Ev (fun k => impl_valueOf.l0 k wi s (valsOf (S.drop (needMany (t.getD n z80).f0)) ++ [v]) t (t.length : Int) ((n + 1 : Nat) : Int)) r → Ev (fun k => impl_valueOf.l0 k wi s (valsOf S) t (t.length : Int) (n : Int)) r := by
  have h2 := needMany_le (t.getD n z80).f0
  rcases (show needMany (t.getD n z80).f0 = 0 ∨ needMany (t.getD n z80).f0 = 1 ∨ needMany (t.getD n z80).f0 = 2 by omega) with h | h | h
  ·rw [h, List.drop_zero]
   exact value_one wi va t s hs hp n hn ht h1 S hS hl hf h hw
  ·match S, hS, hl, hf, hm with
   | [], _, _, _, hm => rw [h] at hm; simp at hm
   | y :: R, hS, hl, hf, _ =>
    rw [h]
    exact value_un wi va hFl t s n hn ht y R hS hl hf h hw
  ·match S, hS, hl, hf, hm with
   | [], _, _, _, hm => rw [h] at hm; simp at hm
   | [y], _, _, _, hm => rw [h] at hm; simp at hm
   | y :: z :: R, hS, hl, hf, _ =>
    rw [h]
    exact value_bin wi va hDo t s n hn ht y z R hS hl hf h
 obtain ⟨v, q1, q2, q3⟩ := key
 refine ⟨(n, v, needOwn (t.getD n z80).f0) :: S.drop (needMany (t.getD n z80).f0), ⟨⟨rfl, g3⟩, q1, g1, q2, g2⟩, by simp; omega, ?_, fun r h => q3 r ?_⟩
 ·unfold pile
  rw [kindsOf_length]
  simp only [kindsOf, List.map_cons, List.reverse_cons, List.map_drop, List.append_cancel_right_eq]
  rw [List.reverse_drop, List.length_map]
 ·simpa [valsOf] using h
theorem value_l0 (wi va : Int) (hDo : DoOk wi) (hFl : FlOk wi) (hw : 1 ≤ wi ∧ wi ≤ 64) (t : List S80) (hx : ∀ x ∈ t, 0 ≤ x.f1) (s : List Int) (hs : StateOk wi va s) (hp : ∀ a ∈ s, 0 ≤ a) (ht : t.length ≤ 48) (kd : Int) (d : Nat) : ∀ (n : Nat) (S : List (Nat × Int × Int)), n + d = t.length → Piled wi t s n S → S.length ≤ n → Runs wi va (t.drop n) (kindsOf S) [kd] →
  ∃ v, Ev (fun k => impl_valueOf.l0 k wi s (valsOf S) t (t.length : Int) (n : Int)) v ∧ Ev (fun k => spec_l2Value.f k wi t ((t.length - 1 : Nat) : Int) s) v ∧ VOk wi kd v := by
 induction d with
 | zero =>
  intro n S hd hS hl hR
  rw [List.drop_of_length_le (by omega)] at hR
  have hR : kindsOf S = [kd] := hR
  match S, hS, hR with
  | [], _, hR => simp [kindsOf] at hR
  | [y], hS, hR =>
   obtain ⟨⟨h0, _⟩, h1, _, h3, _⟩ := hS
   have hk : y.2.2 = kd := by simpa [kindsOf] using hR
   have he : t.length - 1 = y.1 := by omega
   refine ⟨y.2.1, Ev.step (f := fun _ => some y.2.1) (fun k => by simp only [impl_valueOf.l0]; rw [if_neg (by omega), if_pos (by simp [valsOf])]; rfl) (Ev.now _), by rw [he]; exact h1, hk ▸ h3⟩
  | y :: z :: R, _, hR =>
   have := congrArg List.length hR
   simp [kindsOf] at this
 | succ d ih =>
  intro n S hd hS hl hR
  have hn : n < t.length := by omega
  rw [drop_cons hn z80] at hR
  obtain ⟨S', a1, a2, a3, a4⟩ := value_step wi va hDo hFl hw t s hs hp n hn ht (hx _ (getD_mem hn _)) S hS hl hR.1
  obtain ⟨v, b1, b2, b3⟩ := ih (n + 1) S' (by omega) a1 a2 (by rw [a3]; exact hR.2)
  exact ⟨v, a4 v b1, b2, b3⟩
theorem value_both (wi va kd : Int) (hDo : DoOk wi) (hFl : FlOk wi) (t : List S80) (hx : ∀ x ∈ t, 0 ≤ x.f1) (s : List Int) (hs : StateOk wi va s) (hp : ∀ a ∈ s, 0 ≤ a) (h : TermOf wi va t kd) :
  ∃ v, Ev (fun k => impl_valueOf.f k wi t s) v ∧ Ev (fun k => spec_l2Value.f k wi t (wrap64 ((t.length : Int) - 1)) s) v ∧ VOk wi kd v := by
 obtain ⟨v, a, b, c⟩ := value_l0 wi va hDo hFl h.1 t hx s hs hp h.2.2.1.2 kd t.length 0 [] (by omega) rfl (by simp) h.2.2.2
 have h1 := h.2.2.1
 have w : wrap64 ((t.length : Int) - 1) = ((t.length - 1 : Nat) : Int) := by rw [wid (by omega) (by omega)]; omega
 exact ⟨v, a, by rw [w]; exact b, c⟩
theorem flip_ok {wi : Int} (h : 1 ≤ wi ∧ wi ≤ 64) : FlOk wi := fun a ha => by
 have h1 := ha.2.1.le
 have h0 := ha.1
 have e := not_word a ha.1 h1
 refine ⟨(18446744073709551615 - a) % 2 ^ wi.toNat, 2 ^ wi.toNat - 1, ?_, mask_eq h.1 h.2, ?_, Int.emod_nonneg _ (Int.ne_of_gt (two_pos _)), ⟨h.1, h.2, Int.emod_lt_of_pos _ (two_pos _)⟩, fun g => by omega⟩
 ·rw [e]; exact l1Cut_ev wi _ (by omega) (by omega) (by omega)
 ·rw [e]; exact and_mask _ _ (by omega) (by omega) (by omega)
theorem cut_same {wi a : Int} (ha : GW wi a) (h0 : 0 ≤ a) : Go.bits .and .u64 a (2 ^ wi.toNat - 1) = a := by
 rw [and_mask a _ (by have := ha.2.1; omega) h0 ha.le]; exact Int.emod_eq_of_lt h0 ha.2.2
theorem vok_mod {wi : Int} (h : 1 ≤ wi ∧ wi ≤ 64) (x : Int) : VOk wi 1 (x % 2 ^ wi.toNat) :=
 ⟨Int.emod_nonneg _ (Int.ne_of_gt (two_pos _)), ⟨h.1, h.2, Int.emod_lt_of_pos _ (two_pos _)⟩, fun g => by omega⟩
theorem cut_wrap {wi : Int} (h : 1 ≤ wi ∧ wi ≤ 64) (x : Int) : Ev (fun k => spec_l1Cut.f k wi (IntKind.u64.wrap x)) (IntKind.u64.wrap x % 2 ^ wi.toNat) ∧ Go.bits .and .u64 (IntKind.u64.wrap x) (2 ^ wi.toNat - 1) = IntKind.u64.wrap x % 2 ^ wi.toNat :=
 ⟨l1Cut_ev wi _ (by omega) (wu_in x).1 (wu_in x).2, and_mask _ _ (by omega) (wu_in x).1 (wu_in x).2⟩
theorem div_both {wi a b : Int} (ha : GW wi a) (hb : GW wi b) (h0 : 0 ≤ a) (hb0 : 0 ≤ b) : ∃ q r, Ev (fun k => spec_DivWord.f k wi a b) (q, r, true) ∧ impl_DivWord.f wi a b = some (q, r, true) ∧ VOk wi 1 q ∧ VOk wi 1 r := by
 have hp := two_pos wi.toNat
 rcases Int.lt_or_eq_of_le hb0 with h | h
 ·refine ⟨a / b, a % b, spec_DivWord_yes ha hb h0 h, DivWord_yes ha hb h0 h, ⟨Int.ediv_nonneg h0 hb0, ⟨ha.1, ha.2.1, ?_⟩, fun g => by omega⟩, ⟨Int.emod_nonneg _ (by omega), ⟨ha.1, ha.2.1, ?_⟩, fun g => by omega⟩⟩
  ·exact Int.lt_of_le_of_lt (Int.ediv_le_self _ h0) ha.2.2
  ·exact Int.lt_trans (Int.emod_lt_of_pos _ h) hb.2.2
 ·subst h
  have e : (18446744073709551615 : Int) % 2 ^ wi.toNat = 2 ^ wi.toNat - 1 := by
   have hd := two_dvd (n := wi.toNat) (by have := ha.2.1; omega)
   obtain ⟨c, hc⟩ := hd
   rw [show (18446744073709551615 : Int) = (2 ^ wi.toNat - 1) + 2 ^ wi.toNat * (c - 1) by rw [Int.mul_sub, ← hc]; omega, Int.add_mul_emod_self_left]
   exact Int.emod_eq_of_lt (by omega) (by omega)
  refine ⟨2 ^ wi.toNat - 1, a, e ▸ spec_DivWord_zero ha hb h0, DivWord_zero ha hb, ⟨by omega, ⟨ha.1, ha.2.1, by omega⟩, fun g => by omega⟩, ⟨h0, ha, fun g => by omega⟩⟩
def DoAt (wi op a b : Int) : Prop := ∃ c, Ev (fun k => spec_l2Do.f k wi op a b) c ∧ Ev (fun k => impl_apply.f k wi op a b) c ∧ VOk wi (needOwn op) c
section
variable {wi a b : Int}
theorem do_add (ha : GW wi a) (hb : GW wi b) (h0 : 0 ≤ a) (hb0 : 0 ≤ b) : DoAt wi 3 a b := by
 have h : 1 ≤ wi ∧ wi ≤ 64 := ⟨ha.1, ha.2.1⟩
 obtain ⟨q, r, d1, _, _, _⟩ := div_both ha hb h0 hb0
 obtain ⟨c1, c2⟩ := cut_wrap h (a + b)
 refine ⟨_, Ev.bind d1 (Ev.congr (fun k => by simp) (Ev.bind c1 (Ev.now _))), Ev.congr (f := fun _ => some (IntKind.u64.wrap (a + b) % 2 ^ wi.toNat)) (fun k => by simp [impl_apply.f, mask_eq h.1 h.2, c2]) (Ev.now _), vok_mod h _⟩
theorem do_sub (ha : GW wi a) (hb : GW wi b) (h0 : 0 ≤ a) (hb0 : 0 ≤ b) : DoAt wi 4 a b := by
 have h : 1 ≤ wi ∧ wi ≤ 64 := ⟨ha.1, ha.2.1⟩
 obtain ⟨q, r, d1, _, _, _⟩ := div_both ha hb h0 hb0
 obtain ⟨c1, c2⟩ := cut_wrap h (a - b)
 refine ⟨_, Ev.bind d1 (Ev.congr (fun k => by simp) (Ev.bind c1 (Ev.now _))), Ev.congr (f := fun _ => some (IntKind.u64.wrap (a - b) % 2 ^ wi.toNat)) (fun k => by simp [impl_apply.f, mask_eq h.1 h.2, c2]) (Ev.now _), vok_mod h _⟩
theorem do_mul (ha : GW wi a) (hb : GW wi b) (h0 : 0 ≤ a) (hb0 : 0 ≤ b) : DoAt wi 5 a b := by
 have h : 1 ≤ wi ∧ wi ≤ 64 := ⟨ha.1, ha.2.1⟩
 obtain ⟨q, r, d1, _, _, _⟩ := div_both ha hb h0 hb0
 obtain ⟨c1, c2⟩ := cut_wrap h (a * b)
 refine ⟨_, Ev.bind d1 (Ev.congr (fun k => by simp) (Ev.bind c1 (Ev.now _))), Ev.congr (f := fun _ => some (IntKind.u64.wrap (a * b) % 2 ^ wi.toNat)) (fun k => by simp [impl_apply.f, mask_eq h.1 h.2, c2]) (Ev.now _), vok_mod h _⟩
theorem do_div (ha : GW wi a) (hb : GW wi b) (h0 : 0 ≤ a) (hb0 : 0 ≤ b) : DoAt wi 6 a b := by
 have h : 1 ≤ wi ∧ wi ≤ 64 := ⟨ha.1, ha.2.1⟩
 obtain ⟨q, r, d1, d2, d3, d4⟩ := div_both ha hb h0 hb0
 refine ⟨q, Ev.bind d1 (Ev.congr (f := fun _ => some q) (fun k => by simp) (Ev.now _)), Ev.congr (f := fun _ => some q) (fun k => by simp [impl_apply.f, mask_eq h.1 h.2, d2, cut_same d3.2.1 d3.1]) (Ev.now _), d3⟩
theorem do_rem (ha : GW wi a) (hb : GW wi b) (h0 : 0 ≤ a) (hb0 : 0 ≤ b) : DoAt wi 7 a b := by
 have h : 1 ≤ wi ∧ wi ≤ 64 := ⟨ha.1, ha.2.1⟩
 obtain ⟨q, r, d1, d2, d3, d4⟩ := div_both ha hb h0 hb0
 refine ⟨r, Ev.bind d1 (Ev.congr (f := fun _ => some r) (fun k => by simp) (Ev.now _)), Ev.congr (f := fun _ => some r) (fun k => by simp [impl_apply.f, mask_eq h.1 h.2, d2, cut_same d4.2.1 d4.1]) (Ev.now _), d4⟩
theorem and_vok {n : Int} (ha : VOk wi n a) (hb : VOk wi n b) : VOk wi n (Go.bits .and .u64 a b) := by
 obtain ⟨x, rfl⟩ := Int.eq_ofNat_of_zero_le ha.1
 obtain ⟨y, rfl⟩ := Int.eq_ofNat_of_zero_le hb.1
 have h1 := ha.2.1.le
 have h2 := hb.2.1.le
 have h3 : x &&& y ≤ x := Nat.and_le_left
 rw [bits_and_u64_nat _ _ (by omega) (by omega)]
 refine ⟨Int.natCast_nonneg _, ⟨ha.2.1.1, ha.2.1.2.1, ?_⟩, fun g => ?_⟩
 ·have := ha.2.1.2.2; omega
 ·have := ha.2.2 g; omega
theorem or_vok {n : Int} (ha : VOk wi n a) (hb : VOk wi n b) : VOk wi n (Go.bits .or .u64 a b) := by
 obtain ⟨x, rfl⟩ := Int.eq_ofNat_of_zero_le ha.1
 obtain ⟨y, rfl⟩ := Int.eq_ofNat_of_zero_le hb.1
 have h1 := ha.2.1.le
 have h2 := hb.2.1.le
 rw [bits_or_u64_nat _ _ (by omega) (by omega)]
 refine ⟨Int.natCast_nonneg _, ⟨ha.2.1.1, ha.2.1.2.1, ?_⟩, fun g => ?_⟩
 ·have g1 := ha.2.1.2.2
  have g2 := hb.2.1.2.2
  rw [← two_nat] at g1 g2 ⊢
  exact Int.ofNat_lt.2 (Nat.or_lt_two_pow (Int.ofNat_lt.1 g1) (Int.ofNat_lt.1 g2))
 ·have g1 := ha.2.2 g
  have g2 := hb.2.2 g
  have : x ||| y < 2 ^ 1 := Nat.or_lt_two_pow (by omega) (by omega)
  omega
theorem xor_vok (ha : VOk wi 1 a) (hb : VOk wi 1 b) : VOk wi 1 (Go.bits .xor .u64 a b) := by
 obtain ⟨x, rfl⟩ := Int.eq_ofNat_of_zero_le ha.1
 obtain ⟨y, rfl⟩ := Int.eq_ofNat_of_zero_le hb.1
 have h1 := ha.2.1.le
 have h2 := hb.2.1.le
 rw [bits_xor_u64_nat _ _ (by omega) (by omega)]
 refine ⟨Int.natCast_nonneg _, ⟨ha.2.1.1, ha.2.1.2.1, ?_⟩, fun g => by omega⟩
 have g1 := ha.2.1.2.2
 have g2 := hb.2.1.2.2
 rw [← two_nat] at g1 g2 ⊢
 exact Int.ofNat_lt.2 (Nat.xor_lt_two_pow (Int.ofNat_lt.1 g1) (Int.ofNat_lt.1 g2))
theorem bool_vok (h : 1 ≤ wi ∧ wi ≤ 64) (c : Prop) [Decidable c] : VOk wi 2 (if c then 1 else 0) := by
 have h3 : 2 ^ 1 ≤ 2 ^ wi.toNat := Nat.pow_le_pow_right (by omega) (by omega)
 have h5 : (2 : Int) ≤ 2 ^ wi.toNat := by rw [← two_nat]; omega
 split
 ·exact ⟨by omega, ⟨h.1, h.2, by omega⟩, fun _ => by omega⟩
 ·exact ⟨by omega, ⟨h.1, h.2, by omega⟩, fun _ => by omega⟩
theorem do_and {op : Int} (ho : op = 8 ∨ op = 17) (ha : VOk wi (needPart op) a) (hb : VOk wi (needPart op) b) : DoAt wi op a b := by
 have h : 1 ≤ wi ∧ wi ≤ 64 := ⟨ha.2.1.1, ha.2.1.2.1⟩
 obtain ⟨q, r, d1, _, _, _⟩ := div_both ha.2.1 hb.2.1 ha.1 hb.1
 have hv := and_vok ha hb
 have hn : needPart op = needOwn op := by rcases ho with rfl | rfl <;> rfl
 have hc := cut_same hv.2.1 hv.1
 refine ⟨Go.bits .and .u64 a b, Ev.bind d1 (Ev.congr (f := fun k => spec_l2Do.j0 k wi a b op true) (fun k => by rcases ho with rfl | rfl <;> simp) (Ev.step (f := fun _ => some (Go.bits .and .u64 a b)) (fun k => by simp [spec_l2Do.j0]) (Ev.now _))), Ev.congr (f := fun k => impl_apply.j0 k wi op a b 0 op true) (fun k => by rcases ho with rfl | rfl <;> simp [impl_apply.f]) (Ev.step (f := fun _ => some (Go.bits .and .u64 a b)) (fun k => by simp [impl_apply.j0, mask_eq h.1 h.2, hc]) (Ev.now _)), hn ▸ hv⟩
theorem do_or {op : Int} (ho : op = 9 ∨ op = 18) (ha : VOk wi (needPart op) a) (hb : VOk wi (needPart op) b) : DoAt wi op a b := by
 have h : 1 ≤ wi ∧ wi ≤ 64 := ⟨ha.2.1.1, ha.2.1.2.1⟩
 obtain ⟨q, r, d1, _, _, _⟩ := div_both ha.2.1 hb.2.1 ha.1 hb.1
 have hv := or_vok ha hb
 have hn : needPart op = needOwn op := by rcases ho with rfl | rfl <;> rfl
 have hc := cut_same hv.2.1 hv.1
 refine ⟨Go.bits .or .u64 a b, Ev.bind d1 (Ev.congr (f := fun k => spec_l2Do.j0 k wi a b op false) (fun k => by rcases ho with rfl | rfl <;> simp) (Ev.step (f := fun k => spec_l2Do.j1 k wi a b op true) (fun k => by rcases ho with rfl | rfl <;> simp [spec_l2Do.j0]) (Ev.step (f := fun _ => some (Go.bits .or .u64 a b)) (fun k => by simp [spec_l2Do.j1]) (Ev.now _)))), Ev.congr (f := fun k => impl_apply.j0 k wi op a b 0 op false) (fun k => by rcases ho with rfl | rfl <;> simp [impl_apply.f]) (Ev.step (f := fun k => impl_apply.j1 k wi op a b 0 op true) (fun k => by rcases ho with rfl | rfl <;> simp [impl_apply.j0]) (Ev.step (f := fun _ => some (Go.bits .or .u64 a b)) (fun k => by simp [impl_apply.j1, mask_eq h.1 h.2, hc]) (Ev.now _))), hn ▸ hv⟩
theorem do_xor (ha : VOk wi 1 a) (hb : VOk wi 1 b) : DoAt wi 10 a b := by
 have h : 1 ≤ wi ∧ wi ≤ 64 := ⟨ha.2.1.1, ha.2.1.2.1⟩
 obtain ⟨q, r, d1, _, _, _⟩ := div_both ha.2.1 hb.2.1 ha.1 hb.1
 have hv := xor_vok ha hb
 have hc := cut_same hv.2.1 hv.1
 refine ⟨Go.bits .xor .u64 a b, Ev.bind d1 (Ev.congr (f := fun k => spec_l2Do.j0 k wi a b 10 false) (fun k => by simp) (Ev.step (f := fun k => spec_l2Do.j1 k wi a b 10 false) (fun k => by simp [spec_l2Do.j0]) (Ev.step (f := fun _ => some (Go.bits .xor .u64 a b)) (fun k => by simp [spec_l2Do.j1]) (Ev.now _)))), Ev.congr (f := fun k => impl_apply.j0 k wi 10 a b 0 10 false) (fun k => by simp [impl_apply.f]) (Ev.step (f := fun k => impl_apply.j1 k wi 10 a b 0 10 false) (fun k => by simp [impl_apply.j0]) (Ev.step (f := fun _ => some (Go.bits .xor .u64 a b)) (fun k => by simp [impl_apply.j1, mask_eq h.1 h.2, hc]) (Ev.now _))), hv⟩
theorem do_eq (ha : VOk wi 1 a) (hb : VOk wi 1 b) : DoAt wi 14 a b := by
 have h : 1 ≤ wi ∧ wi ≤ 64 := ⟨ha.2.1.1, ha.2.1.2.1⟩
 obtain ⟨q, r, d1, _, _, _⟩ := div_both ha.2.1 hb.2.1 ha.1 hb.1
 have hv := bool_vok h (a = b)
 have hc := cut_same hv.2.1 hv.1
 generalize hz : (if a = b then (1 : Int) else 0) = z at hv hc
 have e1 : spec_l2Bool.f (a == b) = some z := by rw [← hz]; by_cases g : a = b <;> simp [spec_l2Bool.f, g]
 have e2 : impl_truth.f (a == b) = some z := by rw [← hz]; by_cases g : a = b <;> simp [impl_truth.f, g]
 refine ⟨z, Ev.bind d1 (Ev.congr (f := fun k => spec_l2Do.j0 k wi a b 14 false) (fun k => by simp) (Ev.step (f := fun k => spec_l2Do.j1 k wi a b 14 false) (fun k => by simp [spec_l2Do.j0]) (Ev.step (f := fun _ => some z) (fun k => by simp [spec_l2Do.j1, e1]) (Ev.now _)))), Ev.congr (f := fun k => impl_apply.j0 k wi 14 a b 0 14 false) (fun k => by simp [impl_apply.f]) (Ev.step (f := fun k => impl_apply.j1 k wi 14 a b 0 14 false) (fun k => by simp [impl_apply.j0]) (Ev.step (f := fun k => impl_apply.j2 k wi 14 a b 0 14 false) (fun k => by simp [impl_apply.j1]) (Ev.step (f := fun _ => some z) (fun k => by simp [impl_apply.j2, e2, mask_eq h.1 h.2, hc]) (Ev.now _)))), hv⟩
theorem do_less (ha : VOk wi 1 a) (hb : VOk wi 1 b) : DoAt wi 15 a b := by
 have h : 1 ≤ wi ∧ wi ≤ 64 := ⟨ha.2.1.1, ha.2.1.2.1⟩
 obtain ⟨q, r, d1, _, _, _⟩ := div_both ha.2.1 hb.2.1 ha.1 hb.1
 have hv := bool_vok h (a < b)
 have hc := cut_same hv.2.1 hv.1
 generalize hz : (if a < b then (1 : Int) else 0) = z at hv hc
 have e1 : spec_l2Bool.f (decide (a < b)) = some z := by rw [← hz]; by_cases g : a < b <;> simp [spec_l2Bool.f, g]
 have e2 : impl_truth.f (decide (a < b)) = some z := by rw [← hz]; by_cases g : a < b <;> simp [impl_truth.f, g]
 refine ⟨z, Ev.bind d1 (Ev.congr (f := fun k => spec_l2Do.j0 k wi a b 15 false) (fun k => by simp) (Ev.step (f := fun k => spec_l2Do.j1 k wi a b 15 false) (fun k => by simp [spec_l2Do.j0]) (Ev.step (f := fun _ => some z) (fun k => by simp only [spec_l2Do.j1, e1]; rfl) (Ev.now _)))), Ev.congr (f := fun k => impl_apply.j0 k wi 15 a b 0 15 false) (fun k => by simp [impl_apply.f]) (Ev.step (f := fun k => impl_apply.j1 k wi 15 a b 0 15 false) (fun k => by simp [impl_apply.j0]) (Ev.step (f := fun k => impl_apply.j2 k wi 15 a b 0 15 false) (fun k => by simp [impl_apply.j1]) (Ev.step (f := fun _ => some z) (fun k => by simp only [impl_apply.j2, e2, mask_eq h.1 h.2, Option.bind_some, hc]; rfl) (Ev.now _)))), hv⟩
theorem shift_both (ha : VOk wi 1 a) (hb : VOk wi 1 b) (d : Bool) : ∃ z, Ev (fun k => spec_l1Shift.f k wi a b d) z ∧ impl_shift.f wi a b d = some z ∧ VOk wi 1 z := by
 obtain ⟨h0, ⟨h1, h2, h3⟩, _⟩ := ha
 obtain ⟨n, rfl⟩ := Int.eq_ofNat_of_zero_le hb.1
 have ew : IntKind.u64.wrap wi = wi := by rw [wu]; omega
 by_cases h : (n : Int) < wi
 ·cases d with
  | true =>
   refine ⟨(a * 2 ^ n) % 2 ^ wi.toNat, Ev.congr (f := fun k => spec_l1Shift.l0 k wi a (n : Int) true) (fun k => by simp only [spec_l1Shift.f]; rw [ew, if_neg (by omega)]) (l1Shift_left wi ⟨h1, h2⟩ n (by omega) a h0 h3), shift_left h1 h2 h, vok_mod ⟨h1, h2⟩ _⟩
  | false =>
   obtain ⟨m, rfl⟩ := Int.eq_ofNat_of_zero_le h0
   refine ⟨((m / 2 ^ n : Nat) : Int), Ev.congr (f := fun k => spec_l1Shift.l0 k wi (m : Int) (n : Int) false) (fun k => by simp only [spec_l1Shift.f]; rw [ew, if_neg (by omega)]) (l1Shift_right wi n (by omega) m), ?_, ⟨Int.natCast_nonneg _, ⟨h1, h2, ?_⟩, fun g => by omega⟩⟩
   ·rw [shift_right h1 h2 h]; simp
   ·have : m / 2 ^ n ≤ m := Nat.div_le_self _ _
    omega
 ·refine ⟨0, Ev.congr (f := fun _ => some 0) (fun k => by simp only [spec_l1Shift.f]; rw [ew, if_pos (by omega)]) (Ev.now _), by unfold impl_shift.f; rw [ew, if_pos (by omega)], ⟨by omega, ⟨h1, h2, two_pos _⟩, fun g => by omega⟩⟩
theorem do_left (ha : VOk wi 1 a) (hb : VOk wi 1 b) : DoAt wi 11 a b := by
 have h : 1 ≤ wi ∧ wi ≤ 64 := ⟨ha.2.1.1, ha.2.1.2.1⟩
 obtain ⟨q, r, d1, _, _, _⟩ := div_both ha.2.1 hb.2.1 ha.1 hb.1
 obtain ⟨z, e1, e2, hv⟩ := shift_both ha hb true
 have hc := cut_same hv.2.1 hv.1
 refine ⟨z, Ev.bind d1 (Ev.congr (f := fun k => spec_l2Do.j0 k wi a b 11 false) (fun k => by simp) (Ev.step (f := fun k => spec_l2Do.j1 k wi a b 11 false) (fun k => by simp [spec_l2Do.j0]) (Ev.step (f := fun k => (spec_l1Shift.f k wi a b true).bind fun t => some t) (fun k => by simp [spec_l2Do.j1]) (Ev.bind e1 (Ev.now _))))), Ev.congr (f := fun k => impl_apply.j0 k wi 11 a b 0 11 false) (fun k => by simp [impl_apply.f]) (Ev.step (f := fun k => impl_apply.j1 k wi 11 a b 0 11 false) (fun k => by simp [impl_apply.j0]) (Ev.step (f := fun k => impl_apply.j2 k wi 11 a b 0 11 true) (fun k => by simp [impl_apply.j1]) (Ev.step (f := fun _ => some z) (fun k => by simp [impl_apply.j2, e2, mask_eq h.1 h.2, hc]) (Ev.now _)))), hv⟩
theorem do_right (ha : VOk wi 1 a) (hb : VOk wi 1 b) : DoAt wi 12 a b := by
 have h : 1 ≤ wi ∧ wi ≤ 64 := ⟨ha.2.1.1, ha.2.1.2.1⟩
 obtain ⟨q, r, d1, _, _, _⟩ := div_both ha.2.1 hb.2.1 ha.1 hb.1
 obtain ⟨z, e1, e2, hv⟩ := shift_both ha hb false
 have hc := cut_same hv.2.1 hv.1
 refine ⟨z, Ev.bind d1 (Ev.congr (f := fun k => spec_l2Do.j0 k wi a b 12 false) (fun k => by simp) (Ev.step (f := fun k => spec_l2Do.j1 k wi a b 12 false) (fun k => by simp [spec_l2Do.j0]) (Ev.step (f := fun k => (spec_l1Shift.f k wi a b false).bind fun t => some t) (fun k => by simp [spec_l2Do.j1]) (Ev.bind e1 (Ev.now _))))), Ev.congr (f := fun k => impl_apply.j0 k wi 12 a b 0 12 false) (fun k => by simp [impl_apply.f]) (Ev.step (f := fun k => impl_apply.j1 k wi 12 a b 0 12 false) (fun k => by simp [impl_apply.j0]) (Ev.step (f := fun k => impl_apply.j2 k wi 12 a b 0 12 true) (fun k => by simp [impl_apply.j1]) (Ev.step (f := fun _ => some z) (fun k => by simp [impl_apply.j2, e2, mask_eq h.1 h.2, hc]) (Ev.now _)))), hv⟩
theorem do_lessS (ha : VOk wi 1 a) (hb : VOk wi 1 b) : DoAt wi 16 a b := by
 have h : 1 ≤ wi ∧ wi ≤ 64 := ⟨ha.2.1.1, ha.2.1.2.1⟩
 obtain ⟨q, r, d1, _, _, _⟩ := div_both ha.2.1 hb.2.1 ha.1 hb.1
 have sa := l1Signed_ev ha.2.1 ha.1
 have sb := l1Signed_ev hb.2.1 hb.1
 have ta := signed_eq ha.2.1 ha.1
 have tb := signed_eq hb.2.1 hb.1
 generalize sgn wi a = x at sa ta
 generalize sgn wi b = y at sb tb
 have hv := bool_vok h (x < y)
 have hc := cut_same hv.2.1 hv.1
 generalize hz : (if x < y then (1 : Int) else 0) = z at hv hc
 have e1 : spec_l2Bool.f (decide (x < y)) = some z := by rw [← hz]; by_cases g : x < y <;> simp [spec_l2Bool.f, g]
 have e2 : impl_truth.f (decide (x < y)) = some z := by rw [← hz]; by_cases g : x < y <;> simp [impl_truth.f, g]
 refine ⟨z, Ev.bind d1 (Ev.congr (f := fun k => spec_l2Do.j0 k wi a b 16 false) (fun k => by simp) (Ev.step (f := fun k => spec_l2Do.j1 k wi a b 16 false) (fun k => by simp [spec_l2Do.j0]) (Ev.step (f := fun k => (spec_l1Signed.f k wi a).bind fun u => (spec_l1Signed.f k wi b).bind fun v => (spec_l2Bool.f (decide (u < v))).bind fun t => some t) (fun k => by simp only [spec_l2Do.j1]; rfl) (Ev.bind sa (Ev.bind sb (Ev.bind (ev_const e1) (Ev.now _))))))), Ev.congr (f := fun k => impl_apply.j0 k wi 16 a b 0 16 false) (fun k => by simp [impl_apply.f]) (Ev.step (f := fun k => impl_apply.j1 k wi 16 a b 0 16 false) (fun k => by simp [impl_apply.j0]) (Ev.step (f := fun k => impl_apply.j2 k wi 16 a b 0 16 false) (fun k => by simp [impl_apply.j1]) (Ev.step (f := fun _ => some z) (fun k => by simp only [impl_apply.j2, ta, tb, e2, mask_eq h.1 h.2, Option.bind_some, hc]; rfl) (Ev.now _)))), hv⟩
end
theorem do_ok (wi : Int) : DoOk wi := fun op a b hm ha hb => by
 have hop : (3 ≤ op ∧ op ≤ 12) ∨ (14 ≤ op ∧ op ≤ 18) := by
  unfold needMany at hm
  by_cases c : op = 1 ∨ op = 2 ∨ op = 20
  ·rw [if_pos c] at hm; omega
  ·rw [if_neg c] at hm
   by_cases c3 : op = 13 ∨ op = 19
   ·rw [if_pos c3] at hm; omega
   ·rw [if_neg c3] at hm
    by_cases c2 : 3 ≤ op ∧ op ≤ 18
    ·omega
    ·rw [if_neg c2] at hm; omega
 show DoAt wi op a b
 by_cases c8 : op = 8 ∨ op = 17
 ·exact do_and c8 ha hb
 by_cases c9 : op = 9 ∨ op = 18
 ·exact do_or c9 ha hb
 rcases (show op = 3 ∨ op = 4 ∨ op = 5 ∨ op = 6 ∨ op = 7 ∨ op = 10 ∨ op = 11 ∨ op = 12 ∨ op = 14 ∨ op = 15 ∨ op = 16 by omega) with rfl | rfl | rfl | rfl | rfl | rfl | rfl | rfl | rfl | rfl | rfl
 ·exact do_add ha.2.1 hb.2.1 ha.1 hb.1
 ·exact do_sub ha.2.1 hb.2.1 ha.1 hb.1
 ·exact do_mul ha.2.1 hb.2.1 ha.1 hb.1
 ·exact do_div ha.2.1 hb.2.1 ha.1 hb.1
 ·exact do_rem ha.2.1 hb.2.1 ha.1 hb.1
 ·exact do_xor ha hb
 ·exact do_left ha hb
 ·exact do_right ha hb
 ·exact do_eq ha hb
 ·exact do_less ha hb
 ·exact do_lessS ha hb
noncomputable def Vl (wi : Int) (t : List S80) (s : List Int) : Int := Classical.epsilon fun v => Ev (fun k => impl_valueOf.f k wi t s) v
def Sta (wi va : Int) (s : List Int) : Prop := StateOk wi va s ∧ ∀ a ∈ s, 0 ≤ a
def Prg (wi va : Int) (st : List S80) (co : List S72) : Prop := GoodP wi va st co ∧ Wd st ∧ ∀ c ∈ co, Wd c.f0 ∧ ∀ x ∈ c.f1, Wd x.f1
theorem value_is {wi va kd : Int} {t : List S80} {s : List Int} (ht : TermOf wi va t kd) (hw : Wd t) (hs : Sta wi va s) :
  Ev (fun k => impl_valueOf.f k wi t s) (Vl wi t s) ∧ Ev (fun k => spec_l2Value.f k wi t (wrap64 ((t.length : Int) - 1)) s) (Vl wi t s) ∧ VOk wi kd (Vl wi t s) := by
 obtain ⟨v, a, b, c⟩ := value_both wi va kd (do_ok wi) (flip_ok ht.1) t (fun x hx => (hw x hx).1) s hs.1 hs.2 ht
 have e : Vl wi t s = v := ev_uniq (Classical.epsilon_spec (p := fun v => Ev (fun k => impl_valueOf.f k wi t s) v) ⟨v, a⟩) a
 rw [e]; exact ⟨a, b, c⟩
noncomputable def hold (wi : Int) (t : List S80) (s : List Int) : Bool := Vl wi t s == 1
theorem holds_spec {wi va : Int} (st : List S80) (co : List S72) {t : List S80} {s : List Int} (ht : TermOf wi va t 2) (hw : Wd t) (hs : Sta wi va s) : Ev (fun k => spec_l7Holds.f k wi va st co t s) (hold wi t s) := Ev.bind (value_is ht hw hs).2.1 (Ev.now _)
theorem holds_impl {wi va : Int} (st : List S80) (co : List S72) {t : List S80} {s : List Int} (ht : TermOf wi va t 2) (hw : Wd t) (hs : Sta wi va s) : Ev (fun k => impl_Program_holds.f k wi va st co t s) (hold wi t s) := Ev.bind (value_is ht hw hs).1 (Ev.now _)
theorem Prg.when {wi va : Int} {st : List S80} {co : List S72} (h : Prg wi va st co) {j : Nat} (hj : j < co.length) : TermOf wi va (co.getD j z72).f0 2 ∧ Wd (co.getD j z72).f0 := ⟨(h.1.2.2 _ (getD_mem hj _)).1, (h.2.2 _ (getD_mem hj _)).1⟩
noncomputable def enFrom (wi : Int) (co : List S72) (s : List Int) : Nat → Nat → List Int
 | _, 0 => []
 | j, d + 1 => if hold wi (co.getD j z72).f0 s = true then (j : Int) :: enFrom wi co s (j + 1) d else enFrom wi co s (j + 1) d
theorem mem_enFrom (wi : Int) (co : List S72) (s : List Int) (x : Int) : ∀ (d j : Nat), x ∈ enFrom wi co s j d ↔ ∃ i : Nat, x = i ∧ j ≤ i ∧ i < j + d ∧ hold wi (co.getD i z72).f0 s = true
 | 0, j => by simp [enFrom]; intro i _ h1 h2; omega
 | d + 1, j => by
  have ih := mem_enFrom wi co s x d (j + 1)
  unfold enFrom
  by_cases h : hold wi (co.getD j z72).f0 s = true
  ·rw [if_pos h, List.mem_cons, ih]
   exact ⟨fun g => by
    rcases g with rfl | ⟨i, h1, h2, h3, h4⟩
    ·exact ⟨j, rfl, by omega, by omega, h⟩
    ·exact ⟨i, h1, by omega, by omega, h4⟩, fun ⟨i, h1, h2, h3, h4⟩ => by
    rcases Nat.eq_or_lt_of_le h2 with e | e
    ·subst e; exact .inl h1
    ·exact .inr ⟨i, h1, e, by omega, h4⟩⟩
  ·rw [if_neg h, ih]
   exact ⟨fun ⟨i, h1, h2, h3, h4⟩ => ⟨i, h1, by omega, by omega, h4⟩, fun ⟨i, h1, h2, h3, h4⟩ => by
    rcases Nat.eq_or_lt_of_le h2 with e | e
    ·subst e; exact absurd h4 h
    ·exact ⟨i, h1, e, by omega, h4⟩⟩
theorem enFrom_length (wi : Int) (co : List S72) (s : List Int) : ∀ (d j : Nat), (enFrom wi co s j d).length ≤ d
 | 0, j => by simp [enFrom]
 | d + 1, j => by
  have ih := enFrom_length wi co s d (j + 1)
  unfold enFrom
  split
  ·simp; omega
  ·omega
noncomputable def enab (wi : Int) (co : List S72) (s : List Int) : List Int := enFrom wi co s 0 co.length
noncomputable def aft (wi : Int) (s : List Int) : List S94 → List Int → List Int
 | [], o => o
 | x :: t, o => aft wi s t (o.set x.f0.toNat (Vl wi x.f1 s))
def ChAll (wi va : Int) (l : List S94) : Prop := ∀ x ∈ l, 0 ≤ x.f0 ∧ x.f0 < va ∧ TermOf wi va x.f1 1 ∧ Wd x.f1
theorem Prg.changes {wi va : Int} {st : List S80} {co : List S72} (h : Prg wi va st co) {c : S72} (hc : c ∈ co) : ChAll wi va c.f1 := fun x hx => by
 obtain ⟨i, hi, rfl⟩ := List.getElem_of_mem hx
 have h1 := (h.1.2.2 c hc).2 i (Nat.zero_le _) hi
 have e : c.f1.getD i z94 = c.f1[i] := getD_eq hi _
 rw [ChangeOk, e] at h1
 exact ⟨h1.1.1, by omega, h1.2.2, (h.2.2 c hc).2 _ hx⟩
theorem aft_sta {wi va : Int} {s : List Int} (hs : Sta wi va s) : ∀ (l : List S94) (o : List Int), ChAll wi va l → Sta wi va o → Sta wi va (aft wi s l o)
 | [], o, _, h => h
 | x :: t, o, hl, h => by
  obtain ⟨h1, h2, h3, h4⟩ := hl x (by simp)
  obtain ⟨_, _, v1, v2, _⟩ := value_is h3 h4 hs
  refine aft_sta hs t _ (fun y hy => hl y (by simp [hy])) ⟨⟨by simpa using h.1.1, fun a ha => ?_⟩, fun a ha => ?_⟩
  ·rcases List.mem_or_eq_of_mem_set ha with ha | rfl
   ·exact h.1.2 a ha
   ·exact v2
  ·rcases List.mem_or_eq_of_mem_set ha with ha | rfl
   ·exact h.2 a ha
   ·exact v1
theorem l7Enabled_l0 {wi va : Int} {st : List S80} {co : List S72} (hG : Prg wi va st co) {s : List Int} (hs : Sta wi va s) (d : Nat) : ∀ (j : Nat) (out : List Int), j + d = co.length → out.length ≤ j →
  Ev (fun k => spec_l7Enabled.l0 k s out co (co.length : Int) (j : Int) wi va st co) (out ++ enFrom wi co s j d) := by
 have h6 := hG.1.2.1
 induction d with
 | zero => exact fun j out hj hl => ev_eq (Ev.step (f := fun _ => some out) (fun k => by simp only [spec_l7Enabled.l0]; rw [if_neg (by omega)]) (Ev.now _)) (by simp [enFrom])
 | succ d ih =>
  intro j out hj hl
  have er : rd_T72 co (j : Int) = co.getD j z72 := by simp [rd_T72]
  obtain ⟨w1, w2⟩ := hG.when (j := j) (by omega)
  refine Ev.step (fun k => by simp only [spec_l7Enabled.l0]; rw [if_pos (by omega), if_pos (by omega), if_pos (by omega), wsucc (by omega), er]) (Ev.bind (holds_spec st co w1 w2 hs) ?_)
  by_cases h : hold wi (co.getD j z72).f0 s = true
  ·exact ev_pos h (ev_pos (by omega) (ev_eq (ih (j + 1) (out ++ [(j : Int)]) (by omega) (by simp; omega)) (by rw [enFrom, if_pos h]; simp)))
  ·exact ev_neg h (ev_eq (ih (j + 1) out (by omega) (by omega)) (by rw [enFrom, if_neg h]))
theorem l7Enabled_ev {wi va : Int} {st : List S80} {co : List S72} (hG : Prg wi va st co) {s : List Int} (hs : Sta wi va s) : Ev (fun k => spec_l7Enabled.f k wi va st co s) (enab wi co s) :=
 l7Enabled_l0 hG hs co.length 0 [] (by omega) (Nat.le_refl _)
theorem l1Has_l0 (l : List Int) (x : Int) (hl : l.length ≤ 9223372036854775807) (d : Nat) : ∀ (j : Nat), j + d = l.length → Tells (fun k => spec_l1Has.l0 k x l (l.length : Int) (j : Int)) (x ∈ l.drop j) := by
 induction d with
 | zero => exact fun j hj => tells_step (f := fun _ => some false) (fun k => by simp only [spec_l1Has.l0]; rw [if_neg (by omega)]) (tells_no (by rw [List.drop_of_length_le (by omega)]; simp))
 | succ d ih =>
  intro j hj
  refine tells_step (fun k => by simp only [spec_l1Has.l0]; rw [if_pos (by omega), if_pos (by omega), if_pos (by omega), rd_nat, wsucc (by omega)]) ?_
  rw [drop_cons (show j < l.length by omega) 0]
  exact tells_if (fun h => tells_yes (by rw [h]; simp)) (fun h => tells_iff (ih (j + 1) (by omega)) (by rw [List.mem_cons]; exact ⟨fun g => .inr g, fun g => g.resolve_left (fun e => h e.symm)⟩))
theorem l1Has_tells (l : List Int) (x : Int) (hl : l.length ≤ 9223372036854775807) : Tells (fun k => spec_l1Has.f k l x) (x ∈ l) := by
 have := l1Has_l0 l x hl l.length 0 (by omega)
 rwa [List.drop_zero] at this
theorem toNodeS_ev (l : List S82) (hl : l.length ≤ 1048576) : Ev (fun k => laws_toNodeS.f k l) (l.map cNode) := by
 refine Ev.congr (f := fun k => laws_toNodeS.l0 k l (List.replicate l.length z80) 0) (fun k => by simp only [laws_toNodeS.f]; rw [if_pos (by omega), if_pos (by simp only [Int.toNat_natCast]; omega)]; rfl) ?_
 exact copy_all (fun k y j => laws_toNodeS.l0 k l y j) l cNode z82 z80
  (fun j y r hj hy he => Ev.step (fun k => by simp only [laws_toNodeS.l0, laws_toNode.f, Option.bind_some]; rw [if_pos (by omega), if_pos (by omega), if_pos (by omega), wsucc (by omega), show rd_T82 l (j : Int) = l.getD j z82 by simp [rd_T82]]; rfl) he)
  (fun y hy => Ev.step (f := fun _ => some y) (fun k => by simp only [laws_toNodeS.l0]; rw [if_neg (by omega)]) (Ev.now _))
theorem toChangeS_ev (l : List S108) (hl : l.length ≤ 1048576) (hx : ∀ x ∈ l, SmallCh x) : Ev (fun k => laws_toChangeS.f k l) (l.map cChange) := by
 refine Ev.congr (f := fun k => laws_toChangeS.l0 k l (List.replicate l.length z94) 0) (fun k => by simp only [laws_toChangeS.f]; rw [if_pos (by omega), if_pos (by simp only [Int.toNat_natCast]; omega)]; rfl) ?_
 refine copy_all (fun k y j => laws_toChangeS.l0 k l y j) l cChange z108 z94 (fun j y r hj hy he => ?_) (fun y hy => Ev.step (f := fun _ => some y) (fun k => by simp only [laws_toChangeS.l0]; rw [if_neg (by omega)]) (Ev.now _))
 refine Ev.step (fun k => by simp only [laws_toChangeS.l0]; rw [if_pos (by omega), if_pos (by omega), wsucc (by omega), show rd_T108 l (j : Int) = l.getD j z108 by simp [rd_T108]]) ?_
 exact Ev.bind (Ev.bind (toNodeS_ev _ (hx _ (getD_mem hj _))) (Ev.now _)) (ev_pos (by omega) he)
theorem toCommandS_ev (l : List S67) (hl : l.length ≤ 1048576) (hx : ∀ x ∈ l, SmallCo x) : Ev (fun k => laws_toCommandS.f k l) (l.map cCommand) := by
 refine Ev.congr (f := fun k => laws_toCommandS.l0 k l (List.replicate l.length z72) 0) (fun k => by simp only [laws_toCommandS.f]; rw [if_pos (by omega), if_pos (by simp only [Int.toNat_natCast]; omega)]; rfl) ?_
 refine copy_all (fun k y j => laws_toCommandS.l0 k l y j) l cCommand z67 z72 (fun j y r hj hy he => ?_) (fun y hy => Ev.step (f := fun _ => some y) (fun k => by simp only [laws_toCommandS.l0]; rw [if_neg (by omega)]) (Ev.now _))
 refine Ev.step (fun k => by simp only [laws_toCommandS.l0]; rw [if_pos (by omega), if_pos (by omega), wsucc (by omega), show rd_T67 l (j : Int) = l.getD j z67 by simp [rd_T67]]) ?_
 obtain ⟨h1, h2, h3⟩ := hx _ (getD_mem hj z67)
 exact Ev.bind (Ev.bind (toNodeS_ev _ h1) (Ev.bind (toChangeS_ev _ h2 h3) (Ev.now _))) (ev_pos (by omega) he)
theorem toProgram_ev (wi va : Int) (st : List S82) (co : List S67) (h1 : st.length ≤ 1048576) (h2 : co.length ≤ 1048576) (h3 : ∀ x ∈ co, SmallCo x) : Ev (fun k => laws_toProgram.f k wi va st co) (wi, va, st.map cNode, co.map cCommand) :=
 Ev.bind (toNodeS_ev st h1) (Ev.bind (toCommandS_ev co h2 h3) (Ev.now _))
theorem toUint64S_l0 (l : List Int) (hl : l.length ≤ 1048576) (d : Nat) : ∀ (j : Nat) (y : List Int), y.length = l.length → j + d = l.length → Ev (fun k => laws_toUint64S.l0 k l y (j : Int)) (y.take j ++ l.drop j) := by
 induction d with
 | zero =>
  intro j y hy hd
  rw [take_all_drop hy (by omega)]
  exact Ev.step (f := fun _ => some y) (fun k => by simp only [laws_toUint64S.l0]; rw [if_neg (by omega)]) (Ev.now y)
 | succ d ih =>
  intro j y hy hd
  refine Ev.step (f := fun k => laws_toUint64S.l0 k l (y.set j (rd l (j : Int))) ((j + 1 : Nat) : Int)) (fun k => by simp only [laws_toUint64S.l0]; rw [if_pos (by omega), if_pos (by omega), if_pos (by omega), wsucc (by omega)]; rfl) ?_
  refine ev_eq (ih (j + 1) _ (by simpa using hy) (by omega)) (copy_step (by omega) (by omega) ?_)
  rw [rd_nat, getD_eq (by omega), getD_eq (by omega)]
theorem toUint64S_ev (l : List Int) (hl : l.length ≤ 1048576) : Ev (fun k => laws_toUint64S.f k l) l := by
 refine Ev.congr (f := fun k => laws_toUint64S.l0 k l (List.replicate l.length 0) ((0 : Nat) : Int)) (fun k => by simp only [laws_toUint64S.f]; rw [if_pos (by omega), if_pos (by simp only [Int.toNat_natCast]; omega)]; rfl) ?_
 exact ev_eq (toUint64S_l0 l hl l.length 0 _ (by simp) (by omega)) (by simp)
theorem toIntS_l0 (l : List Int) (hl : l.length ≤ 1048576) (d : Nat) : ∀ (j : Nat) (y : List Int), y.length = l.length → j + d = l.length → Ev (fun k => laws_toIntS.l0 k l y (j : Int)) (y.take j ++ l.drop j) := by
 induction d with
 | zero =>
  intro j y hy hd
  rw [take_all_drop hy (by omega)]
  exact Ev.step (f := fun _ => some y) (fun k => by simp only [laws_toIntS.l0]; rw [if_neg (by omega)]) (Ev.now y)
 | succ d ih =>
  intro j y hy hd
  refine Ev.step (f := fun k => laws_toIntS.l0 k l (y.set j (rd l (j : Int))) ((j + 1 : Nat) : Int)) (fun k => by simp only [laws_toIntS.l0]; rw [if_pos (by omega), if_pos (by omega), if_pos (by omega), wsucc (by omega)]; rfl) ?_
  refine ev_eq (ih (j + 1) _ (by simpa using hy) (by omega)) (copy_step (by omega) (by omega) ?_)
  rw [rd_nat, getD_eq (by omega), getD_eq (by omega)]
theorem toIntS_ev (l : List Int) (hl : l.length ≤ 1048576) : Ev (fun k => laws_toIntS.f k l) l := by
 refine Ev.congr (f := fun k => laws_toIntS.l0 k l (List.replicate l.length 0) ((0 : Nat) : Int)) (fun k => by simp only [laws_toIntS.f]; rw [if_pos (by omega), if_pos (by simp only [Int.toNat_natCast]; omega)]; rfl) ?_
 exact ev_eq (toIntS_l0 l hl l.length 0 _ (by simp) (by omega)) (by simp)
theorem isLeafRight_eq (wide vars : Int) (hv : 1 ≤ vars ∧ vars ≤ 4) (x : S80) : Tells (fun _ => impl_isLeafRight.f wide vars x.f0 x.f1) (NOk wide vars x) := by
 unfold NOk
 refine tells_if (fun h => ?_) (fun h => tells_if (fun h2 => tells_some ?_) (fun h2 => tells_if (fun h3 => tells_some ?_) (fun h3 => tells_some ?_)))
 ·rw [if_pos h]; exact tells_bind (ev_const (impl_GoodWord_eq wide x.f1)) (tells_some (by simp))
 ·rw [if_neg h, if_pos h2, wu, Int.emod_eq_of_lt (by omega) (by omega)]; simp
 ·rw [if_neg h, if_neg h2, if_pos h3]; simp
 ·rw [if_neg h, if_neg h2, if_neg h3]; simp
theorem isVars_tells (a : Int) : Tells (fun _ => impl_isVars.f a) (1 ≤ a ∧ a ≤ 4) := by
 simp only [impl_isVars.f]
 refine tells_if (fun h => tells_some ?_) (fun h => tells_no (fun g => h g.1))
 rw [decide_eq_true_iff]; omega
theorem isWide_tells' (a : Int) : Tells (fun _ => impl_isWide.f a) (1 ≤ a ∧ a ≤ 64) := by
 simp only [isWide_eq]; exact tells_some (by simp)
theorem GoodTerm_l0 (wi va : Int) (hv : 1 ≤ va ∧ va ≤ 4) (t : List S80) (ht : t.length ≤ 48) (d : Nat) : ∀ (j : Nat) (s : List Int), j + d = t.length → s.length ≤ j →
  Tells (fun k => impl_GoodTerm.l0 k wi va s t (t.length : Int) (j : Int)) (∃ kd, Runs wi va (t.drop j) s [kd]) := by
 induction d with
 | zero =>
  intro j s hd hs
  rw [List.drop_of_length_le (by omega)]
  refine tells_step (f := fun _ => some ((s.length : Int) == 1)) (fun k => by simp only [impl_GoodTerm.l0]; rw [if_neg (by omega)]) (tells_some ?_)
  rw [beq_iff_eq]
  constructor
  ·intro h
   obtain ⟨a, rfl⟩ := List.length_eq_one_iff.1 (show s.length = 1 by omega)
   exact ⟨a, rfl⟩
  ·rintro ⟨kd, h⟩
   have h : s = [kd] := h
   rw [h]; rfl
 | succ d ih =>
  intro j s hd hs
  have hj : j < t.length := by omega
  have er : rd_T80 t (j : Int) = t.getD j z80 := by simp [rd_T80]
  rw [drop_cons hj z80]
  generalize t.getD j z80 = x at er
  obtain ⟨p, hn, hp⟩ := operandsOf_ev x.f0
  have hm2 := needMany_le x.f0
  have hpp : (∀ y ∈ s.drop (s.length - needMany x.f0), y = p) ↔ ∀ y ∈ s.drop (s.length - needMany x.f0), y = needPart x.f0 := by
   rcases Nat.eq_zero_or_pos (needMany x.f0) with h0 | h0
   ·rw [h0]; simp
   ·rw [hp h0]
  refine tells_step (fun k => by simp only [impl_GoodTerm.l0]; rw [if_pos (by omega), if_pos (by omega), if_pos (by omega), er, wsucc (by omega)]) ?_
  refine tells_bind hn ?_
  refine tells_if (fun h => tells_no (fun ⟨kd, g⟩ => g.1.1 h)) (fun h1 => ?_)
  refine tells_ask (isLeafRight_eq wi va hv x) (fun h2 => tells_pos rfl ?_) (fun h2 => tells_neg (by simp) (tells_no (fun ⟨kd, g⟩ => h2 g.1.2.1)))
  have w : wrap64 ((s.length : Int) - (needMany x.f0 : Int)) = (s.length : Int) - (needMany x.f0 : Int) := wid (by omega) (by omega)
  refine tells_congr (fun k => by rw [w]) ?_
  refine tells_if (fun h => tells_no (fun ⟨kd, g⟩ => by have := g.1.2.2.1; omega)) (fun h3 => ?_)
  refine tells_pos (by omega) (tells_pos (by omega) ?_)
  have et : ((s.length : Int) - (needMany x.f0 : Int)).toNat = s.length - needMany x.f0 := by omega
  refine tells_congr (fun k => by rw [et]) ?_
  have hA : Tells (fun _ => slices_ContainsFunc_int_int_by_impl_GoodTerm_1.f (s.drop (s.length - needMany x.f0)) p) (∃ y ∈ s.drop (s.length - needMany x.f0), y ≠ p) := anyO_tells _ (fun y _ => tells_some (by simp))
  refine tells_ask hA (fun h4 => tells_pos rfl (tells_no ?_)) (fun h4 => tells_neg (by simp) ?_)
  ·obtain ⟨y, hy, hne⟩ := h4
   exact fun ⟨kd, g⟩ => hne (hpp.2 g.1.2.2.2 y hy)
  have hf : fits wi va x s := ⟨h1, h2, by omega, hpp.1 (fun y hy => Classical.byContradiction (fun g => h4 ⟨y, hy, g⟩))⟩
  refine tells_bind (Ev.now _) (tells_pos (by simp; omega) ?_)
  exact tells_iff (ih (j + 1) (s.take (s.length - needMany x.f0) ++ [needOwn x.f0]) (by omega) (by simp; omega)) ⟨fun ⟨kd, g⟩ => ⟨kd, ⟨hf, g⟩⟩, fun ⟨kd, g⟩ => ⟨kd, g.2⟩⟩
theorem GoodTerm_tells (wi va : Int) (t : List S80) : Tells (fun k => impl_GoodTerm.f k wi va t) (∃ kd, TermOf wi va t kd) := by
 have hno : ∀ {Q : Prop}, ¬ Q → Tells (fun k => impl_GoodTerm.j0 k wi va t true) Q := fun h => tells_step (f := fun _ => some false) (fun k => by simp only [impl_GoodTerm.j0, if_true]) (tells_no h)
 refine tells_ask (isWide_tells' wi) (fun h1 => tells_pos rfl ?_) (fun h1 => tells_neg (by simp) (hno (fun ⟨kd, g⟩ => h1 g.1)))
 refine tells_ask (isVars_tells va) (fun h2 => tells_pos rfl ?_) (fun h2 => tells_neg (by simp) (hno (fun ⟨kd, g⟩ => h2 g.2.1)))
 refine tells_if (fun h3 => hno (fun ⟨kd, g⟩ => by have := g.2.2.1; omega)) (fun h3 => ?_)
 by_cases h4 : (t.length : Int) > 48
 ·exact tells_congr (fun k => by rw [decide_eq_true h4]) (hno (fun ⟨kd, g⟩ => by have := g.2.2.1; omega))
 ·refine tells_step (f := fun k => impl_GoodTerm.l0 k wi va [] t (t.length : Int) 0) (fun k => by simp only [impl_GoodTerm.j0]; rw [if_neg (by simp; omega)]) ?_
  exact tells_iff (GoodTerm_l0 wi va h2 t (by omega) t.length 0 [] (by omega) (by simp)) ⟨fun ⟨kd, g⟩ => ⟨kd, h1, h2, by omega, g⟩, fun ⟨kd, g⟩ => ⟨kd, g.2.2.2⟩⟩
theorem kindOf_ev (t : List S80) (h1 : 1 ≤ t.length) (h2 : t.length ≤ 48) : Ev (fun k => impl_kindOf.f k t) (needOwn (t.getD (t.length - 1) z80).f0) := by
 have w : wrap64 ((t.length : Int) - 1) = ((t.length - 1 : Nat) : Int) := by rw [wid (by omega) (by omega)]; omega
 have er : rd_T80 t ((t.length - 1 : Nat) : Int) = t.getD (t.length - 1) z80 := by simp [rd_T80]
 obtain ⟨p, hn, _⟩ := operandsOf_ev (t.getD (t.length - 1) z80).f0
 refine Ev.congr (fun k => by simp only [impl_kindOf.f]; rw [w, if_pos (by omega), if_pos (by omega), er]) (Ev.bind hn (Ev.now _))
theorem isTermOf_tells (wi va : Int) (t : List S80) (kd : Int) : Tells (fun k => impl_isTermOf.f k wi va t kd) (TermOf wi va t kd) := by
 refine tells_ask (GoodTerm_tells wi va t) (fun ⟨kd', h⟩ => tells_pos rfl ?_) (fun h => tells_neg (by simp) (tells_no (fun g => h ⟨kd, g⟩)))
 have hne : t ≠ [] := fun e => by have := h.2.2.1.1; rw [e] at this; simp at this
 refine tells_bind (kindOf_ev t h.2.2.1.1 h.2.2.1.2) (tells_some ?_)
 rw [beq_iff_eq]
 have e1 := Runs.last hne h.2.2.2
 exact ⟨fun e => by rw [← e, ← e1]; exact h, fun g => (Runs.last hne g.2.2.2).symm⟩
theorem isCondition_tells (wi va : Int) (st : List S80) (co : List S72) (t : List S80) : Tells (fun k => impl_Program_isCondition.f k wi va st co t) (TermOf wi va t 2) := by
 obtain ⟨b, hb, e⟩ := isTermOf_tells wi va t 2
 exact ⟨b, Ev.bind hb (Ev.now _), e⟩
theorem isCommand_l0 (wi va : Int) (st : List S80) (co : List S72) (w : List S80) (l : List S94) (hl : l.length ≤ 9223372036854775807) (d : Nat) : ∀ (j : Nat), j + d = l.length →
  Tells (fun k => impl_Program_isCommand.l0 k l (l.length : Int) (j : Int) wi va st co w l) (∀ i, j ≤ i → i < l.length → ChangeOk wi va l i) := by
 induction d with
 | zero =>
  intro j hd
  exact tells_step (f := fun _ => some true) (fun k => by simp only [impl_Program_isCommand.l0]; rw [if_neg (by omega)]) (tells_yes (fun i h1 h2 => by omega))
 | succ d ih =>
  intro j hd
  have hj : j < l.length := by omega
  have er : rd_T94 l (j : Int) = l.getD j z94 := by simp [rd_T94]
  have hT := isTermOf_tells wi va (l.getD j z94).f1 1
  refine tells_step (fun k => by simp only [impl_Program_isCommand.l0]; rw [if_pos (by omega), if_pos (by omega), if_pos (by omega), er, wsucc (by omega)]) ?_
  rw [from_hereP hj]
  refine tells_if (fun h => tells_no (fun g => by have := g.1.1.1; omega)) (fun a1 => ?_)
  refine tells_if (fun h => tells_no (fun g => by have := g.1.1.2; omega)) (fun a2 => ?_)
  by_cases hz : j = 0
  ·subst hz
   refine tells_neg (by omega) (tells_ask hT (fun h => tells_pos rfl ?_) (fun h => tells_neg (by simp) (tells_no (fun g => h g.1.2.2))))
   exact tells_iff (ih 1 (by omega)) ⟨fun g => ⟨⟨by omega, fun h => by omega, h⟩, g⟩, fun g => g.2⟩
  ·have w2 := wpred (j := j) (by omega) (by omega)
   have er2 : rd_T94 l ((j - 1 : Nat) : Int) = l.getD (j - 1) z94 := by simp [rd_T94]
   refine tells_pos (by omega) ?_
   refine tells_congr (fun k => by rw [w2, if_pos (by omega), if_pos (by omega), er2]) ?_
   refine tells_if (fun h => tells_no (fun g => by have := g.1.2.1 (by omega); omega)) (fun h1 => ?_)
   refine tells_ask hT (fun h => tells_pos rfl ?_) (fun h => tells_neg (by simp) (tells_no (fun g => h g.1.2.2)))
   exact tells_iff (ih (j + 1) (by omega)) ⟨fun g => ⟨⟨by omega, fun _ => by omega, h⟩, g⟩, fun g => g.2⟩
theorem isCommand_tells (wi va : Int) (st : List S80) (co : List S72) (c : S72) (hl : c.f1.length ≤ 9223372036854775807) : Tells (fun k => impl_Program_isCommand.f k wi va st co c.f0 c.f1) (CommandOk wi va c) := by
 refine tells_ask (isCondition_tells wi va st co c.f0) (fun h => tells_pos rfl ?_) (fun h => tells_neg (by simp) (tells_no (fun g => h g.1)))
 exact tells_iff (isCommand_l0 wi va st co c.f0 c.f1 hl c.f1.length 0 (by omega)) ⟨fun g => ⟨h, g⟩, fun g => g.2⟩
theorem impl_GoodProgram_tells (wi va : Int) (st : List S80) (co : List S72) (hx : ∀ c ∈ co, c.f1.length ≤ 9223372036854775807) : Tells (fun k => impl_GoodProgram.f k wi va st co) (GoodP wi va st co) := by
 refine tells_ask (isWide_tells' wi) (fun h1 => tells_pos rfl ?_) (fun h1 => tells_neg (by simp) (tells_no (fun g => h1 g.1.1)))
 refine tells_ask (isVars_tells va) (fun h2 => tells_pos rfl ?_) (fun h2 => tells_neg (by simp) (tells_no (fun g => h2 g.1.2.1)))
 refine tells_ask (isCondition_tells wi va st co st) (fun h => tells_pos rfl ?_) (fun h => tells_neg (by simp) (tells_no (fun g => h g.1)))
 refine tells_if (fun h3 => tells_no (fun g => by have := g.2.1; omega)) (fun h3 => ?_)
 refine tells_if (fun h4 => tells_no (fun g => by have := g.2.1; omega)) (fun h4 => ?_)
 have hA : Tells (fun k => impl_Command_64_by_impl_GoodProgram_1.f k co wi va st co) (∃ c ∈ co, ¬ CommandOk wi va c) := anyO_tells co (fun c hc => tells_ask (isCommand_tells wi va st co c (hx c hc)) (fun h2 => tells_no (fun h3 => h3 h2)) (fun h2 => tells_yes h2))
 refine tells_ask hA (fun h5 => tells_no ?_) (fun h5 => tells_yes ⟨h, by omega, fun c hc => Classical.byContradiction (fun g => h5 ⟨c, hc, g⟩)⟩)
 obtain ⟨c, hc, h6⟩ := h5
 exact fun g => h6 (g.2.2 c hc)
theorem isState_tells (wi va : Int) (hw : 1 ≤ wi ∧ wi ≤ 64) (hv : 1 ≤ va ∧ va ≤ 4) (s : List Int) : Tells (fun _ => impl_isState.f wi va s) (StateOk wi va s) := by
 refine tells_ask (isWide_tells' wi) (fun _ => tells_pos rfl ?_) (fun h => absurd hw h)
 refine tells_ask (isVars_tells va) (fun _ => tells_pos rfl ?_) (fun h => absurd hv h)
 refine tells_if (fun h => ?_) (fun h => tells_no (fun g => h g.1))
 have hA : Tells (fun _ => slices_ContainsFunc_uint64_uint64_by_impl_isState_1.f s wi) (∃ a ∈ s, ¬ GW wi a) := anyO_tells s (fun a _ => tells_bind (ev_const (impl_GoodWord_eq wi a)) (tells_some (by simp)))
 refine tells_ask hA (fun h5 => tells_no ?_) (fun h5 => tells_yes ⟨h, fun c hc => Classical.byContradiction (fun g => h5 ⟨c, hc, g⟩)⟩)
 obtain ⟨c, hc, h6⟩ := h5
 exact fun g => h6 (g.2 c hc)
theorem isStateOf_tells (wi va : Int) (st : List S80) (co : List S72) (s : List Int) (hx : ∀ c ∈ co, c.f1.length ≤ 9223372036854775807) : Tells (fun k => impl_isStateOf.f k wi va st co s) (GoodP wi va st co ∧ StateOk wi va s) := by
 refine tells_ask (impl_GoodProgram_tells wi va st co hx) (fun h => tells_pos rfl ?_) (fun h => tells_neg (by simp) (tells_no (fun g => h g.1)))
 obtain ⟨b, hb, e⟩ := isState_tells wi va h.1.1 h.1.2.1 s
 exact ⟨b, Ev.bind hb (Ev.now _), e.trans ⟨fun g => ⟨h, g⟩, fun g => g.2⟩⟩
theorem cloneU64_eq (l : List Int) (h : l.length < 17592186044416) : slices_Clone_uint64_uint64.f l = some l := by
 rw [slices_Clone_uint64_uint64.f, if_pos h]
theorem l7Do_l0 {wi va : Int} (st : List S80) (co : List S72) {s : List Int} (hs : Sta wi va s) {l : List S94} (hl : l.length ≤ 1048576) (hc : ChAll wi va l) (d : Nat) : ∀ (j : Nat) (o : List Int), j + d = l.length → (o.length : Int) = va →
  Ev (fun k => spec_l7Do.l0 k s o l (l.length : Int) (j : Int) wi va st co) (aft wi s (l.drop j) o) := by
 induction d with
 | zero => exact fun j o hj ho => ev_eq (Ev.step (f := fun _ => some o) (fun k => by simp only [spec_l7Do.l0]; rw [if_neg (by omega)]) (Ev.now _)) (by rw [List.drop_of_length_le (by omega)]; rfl)
 | succ d ih =>
  intro j o hj ho
  have er : rd_T94 l (j : Int) = l.getD j z94 := by simp [rd_T94]
  obtain ⟨h1, h2, h3, h4⟩ := hc _ (getD_mem (l := l) (j := j) (by omega) z94)
  refine Ev.step (fun k => by simp only [spec_l7Do.l0]; rw [if_pos (by omega), if_pos (by omega), if_pos (by omega), wsucc (by omega), er]) ?_
  refine Ev.bind (value_is h3 h4 hs).2.1 (ev_pos h1 (ev_pos (by omega) ?_))
  refine ev_eq (ih (j + 1) _ (by omega) (by simpa using ho)) ?_
  rw [drop_cons (show j < l.length by omega) z94]; rfl
theorem after_l0 {wi va : Int} (st : List S80) (co : List S72) {s : List Int} (hs : Sta wi va s) {l : List S94} (hl : l.length ≤ 1048576) (hc : ChAll wi va l) (d : Nat) : ∀ (j : Nat) (o : List Int), j + d = l.length → (o.length : Int) = va →
  Ev (fun k => impl_Program_after.l0 k s o l (l.length : Int) (j : Int) wi va st co) (aft wi s (l.drop j) o) := by
 induction d with
 | zero => exact fun j o hj ho => ev_eq (Ev.step (f := fun _ => some o) (fun k => by simp only [impl_Program_after.l0]; rw [if_neg (by omega)]) (Ev.now _)) (by rw [List.drop_of_length_le (by omega)]; rfl)
 | succ d ih =>
  intro j o hj ho
  have er : rd_T94 l (j : Int) = l.getD j z94 := by simp [rd_T94]
  obtain ⟨h1, h2, h3, h4⟩ := hc _ (getD_mem (l := l) (j := j) (by omega) z94)
  refine Ev.step (fun k => by simp only [impl_Program_after.l0]; rw [if_pos (by omega), if_pos (by omega), if_pos (by omega), wsucc (by omega), er]) ?_
  refine Ev.bind (value_is h3 h4 hs).1 (ev_pos h1 (ev_pos (by omega) ?_))
  refine ev_eq (ih (j + 1) _ (by omega) (by simpa using ho)) ?_
  rw [drop_cons (show j < l.length by omega) z94]; rfl
theorem Prg.few {wi va : Int} {st : List S80} {co : List S72} (h : Prg wi va st co) {c : S72} (hc : c ∈ co) : c.f1.length ≤ 4 := by
 have h1 := h.1.1.2.1
 have h2 := changes_few (va := va) (by omega) (h.1.2.2 c hc).2
 omega
theorem l7Do_ev {wi va : Int} {st : List S80} {co : List S72} (h : Prg wi va st co) {s : List Int} (hs : Sta wi va s) {j : Nat} (hj : j < co.length) : Ev (fun k => spec_l7Do.f k wi va st co s (j : Int)) (aft wi s (co.getD j z72).f1 s) := by
 have h1 := h.1.1.2.1
 have h2 := hs.1.1
 have h3 := h.few (getD_mem hj z72)
 have er : rd_T72 co (j : Int) = co.getD j z72 := by simp [rd_T72]
 have e := l7Do_l0 st co hs (l := (co.getD j z72).f1) (by omega) (h.changes (getD_mem hj _)) _ 0 s (Nat.zero_add _) h2
 refine Ev.congr (fun k => by simp only [spec_l7Do.f, Option.bind_some, List.nil_append, List.length_nil]; rw [if_pos (by omega), if_pos (by omega), if_pos (by omega), er]; rfl) e
theorem after_ev {wi va : Int} {st : List S80} {co : List S72} (h : Prg wi va st co) {s : List Int} (hs : Sta wi va s) {j : Nat} (hj : j < co.length) : Ev (fun k => impl_Program_after.f k wi va st co (co.getD j z72).f0 (co.getD j z72).f1 s) (aft wi s (co.getD j z72).f1 s) := by
 have h1 := h.1.1.2.1
 have h2 := hs.1.1
 have h3 := h.few (getD_mem hj z72)
 exact Ev.bind (ev_const (cloneU64_eq s (by omega))) (after_l0 st co hs (l := (co.getD j z72).f1) (by omega) (h.changes (getD_mem hj _)) _ 0 s (Nat.zero_add _) h2)
theorem StepBy_both (wi va : Int) (st : List S80) (co : List S72) (s : List Int) (no : Int) (hst : Wd st) (hco : ∀ c ∈ co, Wd c.f0 ∧ ∀ x ∈ c.f1, Wd x.f1) (hcl : ∀ c ∈ co, c.f1.length ≤ 9223372036854775807) (hl : s.length ≤ 9223372036854775807) (hs : ∀ a ∈ s, 0 ≤ a ∧ a < 18446744073709551616) :
  ∃ r : List Int × Bool, r.1.length ≤ 4 ∧ (r.2 = true → GoodP wi va st co → Sta wi va s → Sta wi va r.1) ∧ Ev (fun k => spec_StepBy.f k wi va st co s no) r ∧ Ev (fun k => impl_StepBy.f k wi va st co s no) r := by
 have g1 := spec_GoodProgram_tells wi va st co hst hco
 have g2 := l7State_tells wi va st co s hl hs
 have g3 := isStateOf_tells wi va st co s hcl
 by_cases h : GoodP wi va st co
 ·by_cases h2 : StateOk wi va s
  ·have hG : Prg wi va st co := ⟨h, hst, hco⟩
   have hS : Sta wi va s := ⟨h2, fun a ha => (hs a ha).1⟩
   have h6 := h.2.1
   have h7 := enFrom_length wi co s co.length 0
   have e0 : Ev (fun k => spec_Enabled.f k wi va st co s) (enab wi co s, true) := Ev.bind (tells_ev g1 h) (ev_pos rfl (Ev.bind (tells_ev g2 h2) (ev_pos rfl (Ev.bind (l7Enabled_ev hG hS) (Ev.now _)))))
   have e1 := l1Has_tells (enab wi co s) no (by show (enFrom wi co s 0 co.length).length ≤ _; omega)
   by_cases h3 : no ∈ enab wi co s
   ·obtain ⟨i, rfl, _, h4, h5⟩ := (mem_enFrom wi co s no co.length 0).1 h3
    rw [Nat.zero_add] at h4
    obtain ⟨w1, w2⟩ := hG.when h4
    have er : rd_T72 co (i : Int) = co.getD i z72 := by simp [rd_T72]
    have hS2 := aft_sta hS (co.getD i z72).f1 s (hG.changes (getD_mem h4 _)) hS
    have hl2 := hS2.1.1
    have hv := h.1.2.1
    refine ⟨(aft wi s (co.getD i z72).f1 s, true), by show (aft wi s (co.getD i z72).f1 s).length ≤ 4; omega, fun _ _ _ => hS2, Ev.bind e0 (ev_pos rfl (Ev.bind (tells_ev e1 h3) (ev_pos rfl (Ev.bind (l7Do_ev hG hS h4) (Ev.now _))))), ?_⟩
    have e2 : impl_Program_isCommandNo.f wi va st co (i : Int) = some true := by
     unfold impl_Program_isCommandNo.f
     rw [if_pos (by omega), decide_eq_true (by omega)]
    refine Ev.bind (tells_ev g3 ⟨h, h2⟩) (ev_pos rfl (Ev.bind (ev_const e2) (ev_pos rfl (ev_pos (by omega) (ev_pos (by omega) ?_)))))
    rw [er]
    exact Ev.bind (ev_eq (holds_impl st co w1 w2 hS) h5) (ev_pos rfl (Ev.bind (after_ev hG hS h4) (Ev.now _)))
   ·refine ⟨([], false), by simp, fun g => (Bool.false_ne_true g).elim, Ev.bind e0 (ev_pos rfl (Ev.bind (tells_ev_not e1 h3) (ev_neg (by simp) (Ev.now _)))), Ev.bind (tells_ev g3 ⟨h, h2⟩) (ev_pos rfl ?_)⟩
    by_cases h4 : 0 ≤ no ∧ no < co.length
    ·obtain ⟨i, rfl⟩ := Int.eq_ofNat_of_zero_le h4.1
     have h5 : i < co.length := by omega
     obtain ⟨w1, w2⟩ := hG.when h5
     have er : rd_T72 co (i : Int) = co.getD i z72 := by simp [rd_T72]
     have e2 : impl_Program_isCommandNo.f wi va st co (i : Int) = some true := by
      unfold impl_Program_isCommandNo.f
      rw [if_pos (by omega), decide_eq_true (by omega)]
     have h8 : ¬ hold wi (co.getD i z72).f0 s = true := fun g => h3 ((mem_enFrom wi co s _ co.length 0).2 ⟨i, rfl, Nat.zero_le _, by omega, g⟩)
     refine Ev.bind (ev_const e2) (ev_pos rfl (ev_pos (by omega) (ev_pos (by omega) ?_)))
     rw [er]
     exact Ev.bind (holds_impl st co w1 w2 hS) (ev_neg h8 (Ev.now _))
    ·have e2 : impl_Program_isCommandNo.f wi va st co no = some false := by
      unfold impl_Program_isCommandNo.f
      by_cases h5 : no ≥ 0
      ·rw [if_pos h5, decide_eq_false (by omega)]
      ·rw [if_neg h5]
     exact Ev.bind (ev_const e2) (ev_neg (by simp) (Ev.now _))
  ·exact ⟨([], false), by simp, fun g => (Bool.false_ne_true g).elim, Ev.bind (Ev.bind (tells_ev g1 h) (ev_pos rfl (Ev.bind (tells_ev_not g2 h2) (ev_neg (by simp) (Ev.now _))))) (ev_neg (by simp) (Ev.now _)), Ev.bind (tells_ev_not g3 (fun g => h2 g.2)) (ev_neg (by simp) (Ev.now _))⟩
 ·exact ⟨([], false), by simp, fun g => (Bool.false_ne_true g).elim, Ev.bind (Ev.bind (tells_ev_not g1 h) (ev_neg (by simp) (Ev.now _))) (ev_neg (by simp) (Ev.now _)), Ev.bind (tells_ev_not g3 (fun g => h g.1)) (ev_neg (by simp) (Ev.now _))⟩
theorem play_l0 {wi va : Int} {st : List S80} {co : List S72} (hst : Wd st) (hco : ∀ c ∈ co, Wd c.f0 ∧ ∀ x ∈ c.f1, Wd x.f1) (hcl : ∀ c ∈ co, c.f1.length ≤ 9223372036854775807) (hG : GoodP wi va st co) (ks : List Int) (hk : ks.length ≤ 60) (d : Nat) : ∀ (j : Nat) (s : List Int) (o : List (List Int)) (b : List Bool), j + d = ks.length → Sta wi va s → s.length ≤ 4 → o.length = j → b.length = j → (∀ x ∈ o, x.length ≤ 4) →
  ∃ r : List (List Int) × List Bool × Bool, r.1.length ≤ 60 ∧ r.2.1.length ≤ 60 ∧ (∀ x ∈ r.1, x.length ≤ 4) ∧ Ev (fun k => spec_PlayCommands.l0 k s o b ks (ks.length : Int) (j : Int) wi va st co) r ∧ Ev (fun k => impl_PlayCommands.l0 k s o b ks (ks.length : Int) (j : Int) wi va st co) r := by
 induction d with
 | zero =>
  intro j s o b hj _ _ ho hb hx
  exact ⟨(o, b, true), by show o.length ≤ 60; omega, by show b.length ≤ 60; omega, hx, Ev.step (f := fun _ => some (o, b, true)) (fun k => by simp only [spec_PlayCommands.l0]; rw [if_neg (by omega)]) (Ev.now _), Ev.step (f := fun _ => some (o, b, true)) (fun k => by simp only [impl_PlayCommands.l0]; rw [if_neg (by omega)]) (Ev.now _)⟩
 | succ d ih =>
  intro j s o b hj hs hl ho hb hx
  obtain ⟨⟨s2, ok⟩, h1, h2, e1, e2⟩ := StepBy_both wi va st co s (ks.getD j 0) hst hco hcl (by omega) (fun a ha => ⟨hs.2 a ha, (hs.1.2 a ha).le⟩)
  have h1 : s2.length ≤ 4 := h1
  have q1 : ∀ {r : List (List Int) × List Bool × Bool} {g : Nat → Option (List (List Int) × List Bool × Bool)}, (∀ k, spec_PlayCommands.l0 (k + 1) s o b ks (ks.length : Int) (j : Int) wi va st co = g k) → Ev g r → Ev (fun k => spec_PlayCommands.l0 k s o b ks (ks.length : Int) (j : Int) wi va st co) r := fun h h' => Ev.step h h'
  cases ok with
  | true =>
   obtain ⟨r, r1, r2, r3, r4, r5⟩ := ih (j + 1) s2 (o ++ [s2]) (b ++ [true]) (by omega) (h2 rfl hG hs) h1 (by simp; omega) (by simp; omega) (fun x hx2 => by
    rcases List.mem_append.1 hx2 with h3 | h3
    ·exact hx x h3
    ·rw [List.mem_singleton.1 h3]; exact h1)
   refine ⟨r, r1, r2, r3, Ev.step (fun k => by simp only [spec_PlayCommands.l0]; rw [if_pos (by omega), if_pos (by omega), if_pos (by omega), rd_nat, wsucc (by omega)]) ?_, Ev.step (fun k => by simp only [impl_PlayCommands.l0]; rw [if_pos (by omega), if_pos (by omega), if_pos (by omega), rd_nat, wsucc (by omega)]) ?_⟩
   ·exact Ev.bind e1 (ev_pos rfl (Ev.bind (Ev.now _) (ev_pos (by rw [List.length_nil]; show 0 + s2.length < _; omega) (ev_pos (by omega) (ev_pos (by omega) r4)))))
   ·exact Ev.bind e2 (ev_pos rfl (Ev.bind (ev_const (cloneU64_eq s2 (by omega))) (ev_pos (by omega) (ev_pos (by omega) r5))))
  | false =>
   obtain ⟨r, r1, r2, r3, r4, r5⟩ := ih (j + 1) s (o ++ [s]) (b ++ [false]) (by omega) hs hl (by simp; omega) (by simp; omega) (fun x hx2 => by
    rcases List.mem_append.1 hx2 with h3 | h3
    ·exact hx x h3
    ·rw [List.mem_singleton.1 h3]; exact hl)
   refine ⟨r, r1, r2, r3, Ev.step (fun k => by simp only [spec_PlayCommands.l0]; rw [if_pos (by omega), if_pos (by omega), if_pos (by omega), rd_nat, wsucc (by omega)]) ?_, Ev.step (fun k => by simp only [impl_PlayCommands.l0]; rw [if_pos (by omega), if_pos (by omega), if_pos (by omega), rd_nat, wsucc (by omega)]) ?_⟩
   ·exact Ev.bind e1 (ev_neg (by simp) (Ev.bind (Ev.now _) (ev_pos (by rw [List.length_nil]; omega) (ev_pos (by omega) (ev_pos (by omega) r4)))))
   ·exact Ev.bind e2 (ev_neg (by simp) (Ev.bind (ev_const (cloneU64_eq s (by omega))) (ev_pos (by omega) (ev_pos (by omega) r5))))
theorem PlayCommands_both (wi va : Int) (st : List S80) (co : List S72) (s ks : List Int) (hst : Wd st) (hco : ∀ c ∈ co, Wd c.f0 ∧ ∀ x ∈ c.f1, Wd x.f1) (hcl : ∀ c ∈ co, c.f1.length ≤ 9223372036854775807) (hl : s.length ≤ 9223372036854775807) (hs : ∀ a ∈ s, 0 ≤ a ∧ a < 18446744073709551616) :
  ∃ r : List (List Int) × List Bool × Bool, r.1.length ≤ 60 ∧ r.2.1.length ≤ 60 ∧ (∀ x ∈ r.1, x.length ≤ 4) ∧ Ev (fun k => spec_PlayCommands.f k wi va st co s ks) r ∧ Ev (fun k => impl_PlayCommands.f k wi va st co s ks) r := by
 have g1 := spec_GoodProgram_tells wi va st co hst hco
 have g2 := l7State_tells wi va st co s hl hs
 have g3 := isStateOf_tells wi va st co s hcl
 have n1 : Ev (fun k => spec_PlayCommands.j0 k s ks true wi va st co) ([], [], false) := Ev.step (f := fun _ => some ([], [], false)) (fun k => by simp only [spec_PlayCommands.j0, if_true]) (Ev.now _)
 have n2 : Ev (fun k => impl_PlayCommands.j0 k s ks true wi va st co) ([], [], false) := Ev.step (f := fun _ => some ([], [], false)) (fun k => by simp only [impl_PlayCommands.j0, if_true]) (Ev.now _)
 by_cases h : GoodP wi va st co
 ·by_cases h2 : StateOk wi va s
  ·by_cases h3 : (ks.length : Int) > 60
   ·exact ⟨([], [], false), by simp, by simp, by simp, Ev.bind (tells_ev g1 h) (ev_pos rfl (Ev.bind (tells_ev g2 h2) (ev_pos rfl (by rw [decide_eq_true h3]; exact n1)))), Ev.bind (tells_ev g3 ⟨h, h2⟩) (ev_pos rfl (by rw [decide_eq_true h3]; exact n2))⟩
   ·have hv := h.1.2.1
    have hl2 := h2.1
    obtain ⟨r, r1, r2, r3, r4, r5⟩ := play_l0 hst hco hcl h ks (by omega) ks.length 0 s [] [] (by omega) ⟨h2, fun a ha => (hs a ha).1⟩ (by omega) rfl rfl (by simp)
    refine ⟨r, r1, r2, r3, Ev.bind (tells_ev g1 h) (ev_pos rfl (Ev.bind (tells_ev g2 h2) (ev_pos rfl ?_))), Ev.bind (tells_ev g3 ⟨h, h2⟩) (ev_pos rfl ?_)⟩
    ·rw [decide_eq_false h3]
     exact Ev.step (fun k => by simp only [spec_PlayCommands.j0]; rw [if_neg (by simp)]; rfl) r4
    ·rw [decide_eq_false h3]
     exact Ev.step (fun k => by simp only [impl_PlayCommands.j0]; rw [if_neg (by simp)]; rfl) r5
  ·exact ⟨([], [], false), by simp, by simp, by simp, Ev.bind (tells_ev g1 h) (ev_pos rfl (Ev.bind (tells_ev_not g2 h2) (ev_neg (by simp) n1))), Ev.bind (tells_ev_not g3 (fun g => h2 g.2)) (ev_neg (by simp) n2)⟩
 ·exact ⟨([], [], false), by simp, by simp, by simp, Ev.bind (tells_ev_not g1 h) (ev_neg (by simp) n1), Ev.bind (tells_ev_not g3 (fun g => h g.1)) (ev_neg (by simp) n2)⟩
theorem eqUint64S_l0 (l : List Int) (hl : l.length ≤ 9223372036854775807) (d : Nat) : ∀ (j : Nat), j + d = l.length → Ev (fun k => laws_eqUint64S.l0 k l l (j : Int)) true := by
 induction d with
 | zero => exact fun j hd => Ev.step (f := fun _ => some true) (fun k => by simp only [laws_eqUint64S.l0]; rw [if_neg (by omega)]) (Ev.now _)
 | succ d ih => exact fun j hd => Ev.step (fun k => by simp only [laws_eqUint64S.l0, if_true]; rw [if_pos (by omega), if_pos (by omega), if_pos (by omega), wsucc (by omega)]) (ih (j + 1) (by omega))
theorem eqUint64S_ev (l : List Int) (hl : l.length ≤ 9223372036854775807) : Ev (fun k => laws_eqUint64S.f k l l) true :=
 Ev.congr (fun k => by simp only [laws_eqUint64S.f, if_true]; rfl) (eqUint64S_l0 l hl l.length 0 (by omega))
theorem eqUint64SS_l0 (l : List (List Int)) (hl : l.length ≤ 9223372036854775807) (hx : ∀ x ∈ l, x.length ≤ 9223372036854775807) (d : Nat) : ∀ (j : Nat), j + d = l.length → Ev (fun k => laws_eqUint64SS.l0 k l l (j : Int)) true := by
 induction d with
 | zero => exact fun j hd => Ev.step (f := fun _ => some true) (fun k => by simp only [laws_eqUint64SS.l0]; rw [if_neg (by omega)]) (Ev.now _)
 | succ d ih =>
  intro j hd
  have er : rd_L12 l (j : Int) = l.getD j [] := by simp [rd_L12]
  exact Ev.step (fun k => by simp only [laws_eqUint64SS.l0]; rw [if_pos (by omega), if_pos (by omega), if_pos (by omega), wsucc (by omega), er]) (Ev.bind (eqUint64S_ev _ (hx _ (getD_mem (by omega) _))) (ev_pos rfl (ih (j + 1) (by omega))))
theorem eqUint64SS_ev (l : List (List Int)) (hl : l.length ≤ 9223372036854775807) (hx : ∀ x ∈ l, x.length ≤ 9223372036854775807) : Ev (fun k => laws_eqUint64SS.f k l l) true :=
 Ev.congr (fun k => by simp only [laws_eqUint64SS.f, if_true]; rfl) (eqUint64SS_l0 l hl hx l.length 0 (by omega))
theorem eqBoolS_l0 (l : List Bool) (hl : l.length ≤ 9223372036854775807) (d : Nat) : ∀ (j : Nat), j + d = l.length → Ev (fun k => laws_eqBoolS.l0 k l l (j : Int)) true := by
 induction d with
 | zero => exact fun j hd => Ev.step (f := fun _ => some true) (fun k => by simp only [laws_eqBoolS.l0]; rw [if_neg (by omega)]) (Ev.now _)
 | succ d ih => exact fun j hd => Ev.step (fun k => by simp only [laws_eqBoolS.l0]; rw [if_pos (by omega), if_pos (by omega), if_pos (by omega), if_neg (by simp), wsucc (by omega)]) (ih (j + 1) (by omega))
theorem eqBoolS_ev (l : List Bool) (hl : l.length ≤ 9223372036854775807) : Ev (fun k => laws_eqBoolS.f k l l) true :=
 Ev.congr (fun k => by simp only [laws_eqBoolS.f, if_true]; rfl) (eqBoolS_l0 l hl l.length 0 (by omega))
def OkCh (x : S94) : Prop := x.f1.length ≤ 1048576
def OkCo (x : S72) : Prop := x.f0.length ≤ 1048576 ∧ x.f1.length ≤ 1048576 ∧ ∀ y ∈ x.f1, OkCh y
theorem eqNodeS_ev (l : List S80) (hl : l.length ≤ 1048576) : Ev (fun k => laws_eqNodeS.f k l l) true :=
 ev_pos rfl (all_loop (fun k j => laws_eqNodeS.l0 k l l j) l.length (fun j hj he => Ev.step (fun k => by simp only [laws_eqNodeS.l0, laws_eqNode.f, if_true, Option.bind_some]; rw [if_pos (by omega), if_pos (by omega), if_pos (by omega), wsucc (by omega)]) he)
  (Ev.step (f := fun _ => some true) (fun k => by simp only [laws_eqNodeS.l0]; rw [if_neg (by omega)]) (Ev.now _)) l.length 0 (by omega))
theorem eqChangeS_ev (l : List S94) (hl : l.length ≤ 1048576) (hx : ∀ x ∈ l, OkCh x) : Ev (fun k => laws_eqChangeS.f k l l) true := by
 have e1 : ∀ (j : Nat) (k : Nat), j < l.length → laws_eqChangeS.l0 (k + 1) l l (j : Int) = ((laws_eqChange.f k (l.getD j z94).f0 (l.getD j z94).f1 (l.getD j z94).f0 (l.getD j z94).f1).bind fun t => if t = true then laws_eqChangeS.l0 k l l ((j + 1 : Nat) : Int) else some false) := fun j k hj => by
  have er : rd_T94 l (j : Int) = l.getD j z94 := by simp [rd_T94]
  simp only [laws_eqChangeS.l0]
  rw [if_pos (by omega), if_pos (by omega), if_pos (by omega), wsucc (by omega), er]
 have e2 : ∀ x : S94, OkCh x → Ev (fun k => laws_eqChange.f k x.f0 x.f1 x.f0 x.f1) true := fun x h => ev_pos rfl (Ev.bind (eqNodeS_ev x.f1 h) (ev_pos rfl (Ev.now _)))
 exact ev_pos rfl (all_loop (fun k j => laws_eqChangeS.l0 k l l j) l.length (fun j hj he => Ev.step (fun k => e1 j k hj) (Ev.bind (e2 _ (hx _ (getD_mem hj _))) (ev_pos rfl he)))
  (Ev.step (f := fun _ => some true) (fun k => by simp only [laws_eqChangeS.l0]; rw [if_neg (by omega)]) (Ev.now _)) l.length 0 (by omega))
theorem eqCommandS_ev (l : List S72) (hl : l.length ≤ 1048576) (hx : ∀ x ∈ l, OkCo x) : Ev (fun k => laws_eqCommandS.f k l l) true := by
 have e1 : ∀ (j : Nat) (k : Nat), j < l.length → laws_eqCommandS.l0 (k + 1) l l (j : Int) = ((laws_eqCommand.f k (l.getD j z72).f0 (l.getD j z72).f1 (l.getD j z72).f0 (l.getD j z72).f1).bind fun t => if t = true then laws_eqCommandS.l0 k l l ((j + 1 : Nat) : Int) else some false) := fun j k hj => by
  have er : rd_T72 l (j : Int) = l.getD j z72 := by simp [rd_T72]
  simp only [laws_eqCommandS.l0]
  rw [if_pos (by omega), if_pos (by omega), if_pos (by omega), wsucc (by omega), er]
 have e2 : ∀ x : S72, OkCo x → Ev (fun k => laws_eqCommand.f k x.f0 x.f1 x.f0 x.f1) true := fun x h => Ev.bind (eqNodeS_ev x.f0 h.1) (ev_pos rfl (Ev.bind (eqChangeS_ev x.f1 h.2.1 h.2.2) (ev_pos rfl (Ev.now _))))
 exact ev_pos rfl (all_loop (fun k j => laws_eqCommandS.l0 k l l j) l.length (fun j hj he => Ev.step (fun k => e1 j k hj) (Ev.bind (e2 _ (hx _ (getD_mem hj _))) (ev_pos rfl he)))
  (Ev.step (f := fun _ => some true) (fun k => by simp only [laws_eqCommandS.l0]; rw [if_neg (by omega)]) (Ev.now _)) l.length 0 (by omega))
theorem eqProgram_ev (wi va : Int) (st : List S80) (co : List S72) (h1 : st.length ≤ 1048576) (h2 : co.length ≤ 1048576) (h3 : ∀ x ∈ co, OkCo x) : Ev (fun k => laws_eqProgram.f k wi va st co wi va st co) true :=
 ev_pos rfl (ev_pos rfl (Ev.bind (eqNodeS_ev st h1) (ev_pos rfl (Ev.bind (eqCommandS_ev co h2 h3) (ev_pos rfl (Ev.now _))))))
theorem eqIntS_l0 (l : List Int) (hl : l.length ≤ 9223372036854775807) (d : Nat) : ∀ (j : Nat), j + d = l.length → Ev (fun k => laws_eqIntS.l0 k l l (j : Int)) true := by
 induction d with
 | zero => exact fun j hd => Ev.step (f := fun _ => some true) (fun k => by simp only [laws_eqIntS.l0]; rw [if_neg (by omega)]) (Ev.now _)
 | succ d ih => exact fun j hd => Ev.step (fun k => by simp only [laws_eqIntS.l0, if_true]; rw [if_pos (by omega), if_pos (by omega), if_pos (by omega), wsucc (by omega)]) (ih (j + 1) (by omega))
theorem eqIntS_ev (l : List Int) (hl : l.length ≤ 9223372036854775807) : Ev (fun k => laws_eqIntS.f k l l) true :=
 Ev.congr (fun k => by simp only [laws_eqIntS.f, if_true]; rfl) (eqIntS_l0 l hl l.length 0 (by omega))
theorem mkCh_le (c : Nat) : ∀ (l : List Nat), (∀ x ∈ l, x ≤ c) → mk94 l ≤ l.length * (1 + 2 * c)
 | [], _ => by simp [mk94]
 | x :: t, h => by
  have h1 := mkCh_le c t (fun y hy => h y (by simp [hy]))
  have h2 := h x (by simp)
  rw [mk94, List.length_cons, Nat.add_mul, Nat.one_mul]; omega
theorem mkCo_le (c : Nat) : ∀ (l : List (Nat × List Nat)), (∀ x ∈ l, 2 * x.1 + mk94 x.2 ≤ c) → mk72 l ≤ l.length * c
 | [], _ => by simp [mk72]
 | x :: t, h => by
  have h1 := mkCo_le c t (fun y hy => h y (by simp [hy]))
  have h2 := h x (by simp)
  rw [mk72, List.length_cons, Nat.add_mul, Nat.one_mul]; omega
theorem mkTot_le (st : List S80) (co : List S72) (h1 : st.length ≤ 1048576) (h2 : co.length ≤ 1048576) (h3 : ∀ c ∈ co, c.f0.length ≤ 1048576 ∧ c.f1.length ≤ 1048576 ∧ ∀ x ∈ c.f1, x.f1.length ≤ 1048576) : mkTot st co ≤ 2305846307750674432 := by
 have h4 : mk72 (co.map (fun x => (x.f0.length, x.f1.map (fun y => y.f1.length)))) ≤ co.length * 2199026401280 := by
  have := mkCo_le 2199026401280 (co.map (fun x => (x.f0.length, x.f1.map (fun y => y.f1.length)))) (fun p hp => by
   obtain ⟨c, hc, rfl⟩ := List.mem_map.1 hp
   obtain ⟨g1, g2, g3⟩ := h3 c hc
   have g4 := mkCh_le 1048576 (c.f1.map (fun y => y.f1.length)) (fun x hx => by
    obtain ⟨y, hy, rfl⟩ := List.mem_map.1 hx
    exact g3 y hy)
   have g5 : c.f1.length * (1 + 2 * 1048576) ≤ 1048576 * (1 + 2 * 1048576) := Nat.mul_le_mul_right _ g2
   simp only [List.length_map] at g4 ⊢
   omega)
  simpa using this
 have h5 : co.length * 2199026401280 ≤ 1048576 * 2199026401280 := Nat.mul_le_mul_right _ h2
 unfold mkTot
 omega
theorem markProgram_ev (wi va : Int) (st : List S80) (co : List S72) (h1 : st.length ≤ 1048576) (h2 : co.length ≤ 1048576) (h3 : ∀ c ∈ co, c.f0.length ≤ 1048576 ∧ c.f1.length ≤ 1048576 ∧ ∀ x ∈ c.f1, x.f1.length ≤ 1048576) :
  Ev (fun k => laws_markProgram.f k wi va st co 1) (1 + mkTot st co) := by
 have := mkTot_le st co h1 h2 h3
 exact ⟨0, fun k _ => by unfold laws_markProgram.f; rw [if_pos (by omega)]⟩
theorem markUint64S_l0 (d : Nat) : ∀ (j : Nat) (y : List Int) (a : Int), j + d = y.length → y.length ≤ 1048576 → 0 ≤ a → a + d ≤ 4611686018427387904 → Ev (fun k => laws_markUint64S.l0 k y a (j : Int)) (a + d, y.take j ++ cnt d a) := by
 induction d with
 | zero =>
  intro j y a hd hy h0 h1
  refine ev_eq (Ev.step (f := fun _ => some (a, y)) (fun k => by simp only [laws_markUint64S.l0]; rw [if_neg (by omega)]) (Ev.now _)) ?_
  rw [List.take_of_length_le (by omega)]; simp [cnt]
 | succ d ih =>
  intro j y a hd hy h0 h1
  have ew : IntKind.u64.wrap a = a := by rw [wu]; omega
  refine Ev.step (fun k => by simp only [laws_markUint64S.l0]; rw [if_pos (by omega), if_pos (by omega), wsucc (by omega), wid (x := a + 1) (by omega) (by omega), ew]) ?_
  refine ev_eq (ih (j + 1) (y.set ((j : Int)).toNat a) (a + 1) (by simp; omega) (by simpa using hy) (by omega) (by omega)) ?_
  simp only [Int.toNat_natCast]
  rw [List.take_succ_eq_append_getElem (by simp; omega), List.take_set_of_le (Nat.le_refl j)]
  simp [cnt]; omega
theorem markUint64S_ev (y : List Int) (a : Int) (hy : y.length ≤ 1048576) (h0 : 0 ≤ a) (h1 : a + y.length ≤ 4611686018427387904) : Ev (fun k => laws_markUint64S.f k y a) (a + y.length, cnt y.length a) :=
 ev_eq (markUint64S_l0 y.length 0 y a (by omega) hy h0 h1) (by simp)
theorem markIntS_l0 (d : Nat) : ∀ (j : Nat) (y : List Int) (a : Int), j + d = y.length → y.length ≤ 1048576 → 0 ≤ a → a + d ≤ 4611686018427387904 → Ev (fun k => laws_markIntS.l0 k y a (j : Int)) (a + d, y.take j ++ cnt d a) := by
 induction d with
 | zero =>
  intro j y a hd hy h0 h1
  refine ev_eq (Ev.step (f := fun _ => some (a, y)) (fun k => by simp only [laws_markIntS.l0]; rw [if_neg (by omega)]) (Ev.now _)) ?_
  rw [List.take_of_length_le (by omega)]; simp [cnt]
 | succ d ih =>
  intro j y a hd hy h0 h1
  refine Ev.step (fun k => by simp only [laws_markIntS.l0]; rw [if_pos (by omega), if_pos (by omega), wsucc (by omega), wid (x := a + 1) (by omega) (by omega)]) ?_
  refine ev_eq (ih (j + 1) (y.set ((j : Int)).toNat a) (a + 1) (by simp; omega) (by simpa using hy) (by omega) (by omega)) ?_
  simp only [Int.toNat_natCast]
  rw [List.take_succ_eq_append_getElem (by simp; omega), List.take_set_of_le (Nat.le_refl j)]
  simp [cnt]; omega
theorem markIntS_ev' (y : List Int) (a : Int) (hy : y.length ≤ 1048576) (h0 : 0 ≤ a) (h1 : a + y.length ≤ 4611686018427387904) : Ev (fun k => laws_markIntS.f k y a) (a + y.length, cnt y.length a) :=
 ev_eq (markIntS_l0 y.length 0 y a (by omega) hy h0 h1) (by simp)
theorem markUint64SS_ev : ∀ (l : List (List Int)) (a : Int), (∀ x ∈ l, x.length ≤ 1048576) → 0 ≤ a → a + tot l ≤ 2305843009213693952 → Ev (fun k => laws_markUint64SS.f k l a) (a + tot l, cnt2 l a)
 | [], a, _, _, _ => ev_eq (Ev.now (a, [])) (by simp [tot, cnt2])
 | x :: t, a, hx, h0, h1 => by
  simp only [tot] at h1
  have e1 := markUint64S_ev x a (hx x (by simp)) h0 (by omega)
  have e2 := markUint64SS_ev t (a + x.length) (fun y hy => hx y (by simp [hy])) (by omega) (by omega)
  refine ev_eq (Ev.bind e1 (Ev.bind e2 (Ev.now _))) ?_
  simp only [tot, cnt2, Int.natCast_add, Int.add_assoc]
def cntB : Nat → Int → List Bool
 | 0, _ => []
 | n + 1, a => (Int.tmod a 3 == 0) :: cntB n (a + 1)
theorem cntB_length : ∀ n a, (cntB n a).length = n
 | 0, _ => rfl
 | n + 1, a => by rw [cntB, List.length_cons, cntB_length n]
theorem markBoolS_l0 (d : Nat) : ∀ (j : Nat) (y : List Bool) (a : Int), j + d = y.length → y.length ≤ 1048576 → 0 ≤ a → a + d ≤ 4611686018427387904 → Ev (fun k => laws_markBoolS.l0 k y a (j : Int)) (a + d, y.take j ++ cntB d a) := by
 induction d with
 | zero =>
  intro j y a hd hy h0 h1
  refine ev_eq (Ev.step (f := fun _ => some (a, y)) (fun k => by simp only [laws_markBoolS.l0]; rw [if_neg (by omega)]) (Ev.now _)) ?_
  rw [List.take_of_length_le (by omega)]; simp [cntB]
 | succ d ih =>
  intro j y a hd hy h0 h1
  refine Ev.step (fun k => by simp only [laws_markBoolS.l0]; rw [if_pos (by omega), if_pos (by omega), wsucc (by omega), wid (x := a + 1) (by omega) (by omega)]) ?_
  refine ev_eq (ih (j + 1) (y.set ((j : Int)).toNat (Int.tmod a 3 == 0)) (a + 1) (by simp; omega) (by simpa using hy) (by omega) (by omega)) ?_
  simp only [Int.toNat_natCast]
  rw [List.take_succ_eq_append_getElem (by simp; omega), List.take_set_of_le (Nat.le_refl j)]
  simp [cntB]; omega
theorem markBoolS_ev (y : List Bool) (a : Int) (hy : y.length ≤ 1048576) (h0 : 0 ≤ a) (h1 : a ≤ 2305843009213693952) : Ev (fun k => laws_markBoolS.f k y a) (a + y.length, cntB y.length a) :=
 ev_eq (markBoolS_l0 y.length 0 y a (by omega) hy h0 (by omega)) (by simp)
theorem heldUint64S_l0 (y : List Int) (hy : y.length ≤ 1048576) (d : Nat) : ∀ (j : Nat) (a : Int), j + d = y.length → y.drop j = cnt d a → 0 ≤ a → a + d ≤ 4611686018427387904 → Ev (fun k => laws_heldUint64S.l0 k y a (j : Int)) (a + d) := by
 induction d with
 | zero =>
  intro j a hd hc h0 h1
  exact ev_eq (Ev.step (f := fun _ => some a) (fun k => by simp only [laws_heldUint64S.l0]; rw [if_neg (by omega)]) (Ev.now _)) (by omega)
 | succ d ih =>
  intro j a hd hc h0 h1
  rw [drop_cons (by omega) 0, cnt] at hc
  obtain ⟨h2, h3⟩ := List.cons.inj hc
  have ew : IntKind.u64.wrap a = a := by rw [wu]; omega
  refine Ev.step (fun k => by simp only [laws_heldUint64S.l0]; rw [if_pos (by omega), if_pos (by omega), rd_nat, ew, if_pos h2, wsucc (by omega), wid (x := a + 1) (by omega) (by omega)]) ?_
  exact ev_eq (ih (j + 1) (a + 1) (by omega) h3 (by omega) (by omega)) (by omega)
theorem heldUint64S_ev (n : Nat) (a : Int) (hn : n ≤ 1048576) (h0 : 0 ≤ a) (h1 : a ≤ 2305843009213693952) : Ev (fun k => laws_heldUint64S.f k (cnt n a) a) (a + n) :=
 heldUint64S_l0 (cnt n a) (by rw [cnt_length]; exact hn) n 0 a (by rw [cnt_length]; omega) (by simp) h0 (by omega)
theorem heldUint64SS_l0 (y : List (List Int)) (hy : y.length ≤ 1048576) : ∀ (t : List (List Int)) (j : Nat) (a : Int), j + t.length = y.length → y.drop j = cnt2 t a → (∀ x ∈ t, x.length ≤ 1048576) → 0 ≤ a → a + tot t ≤ 2305843009213693952 → Ev (fun k => laws_heldUint64SS.l0 k y a (j : Int)) (a + tot t)
 | [], j, a, hj, _, _, _, _ => by
  simp only [List.length_nil] at hj
  refine ev_eq (Ev.step (f := fun _ => some a) (fun k => by simp only [laws_heldUint64SS.l0]; rw [if_neg (by omega)]) (Ev.now _)) (by simp [tot])
 | x :: t, j, a, hj, hd, hx, h0, h1 => by
  simp only [List.length_cons] at hj
  simp only [tot] at h1
  have hxl := hx x (by simp)
  rw [drop_cons (by omega) [], cnt2] at hd
  obtain ⟨e1, e2⟩ := List.cons.inj hd
  have er : rd_L12 y (j : Int) = cnt x.length a := by rw [← e1]; simp [rd_L12]
  refine Ev.step (fun k => by simp only [laws_heldUint64SS.l0]; rw [if_pos (by omega), if_pos (by omega), er]) ?_
  refine Ev.bind (heldUint64S_ev x.length a hxl h0 (by omega)) (ev_neg (by omega) ?_)
  refine ev_eq (Ev.congr (fun k => by rw [wsucc (by omega)]) (heldUint64SS_l0 y hy t (j + 1) (a + x.length) (by omega) e2 (fun z hz => hx z (by simp [hz])) (by omega) (by omega))) (by simp only [tot]; omega)
theorem heldUint64SS_ev (l : List (List Int)) (a : Int) (hl : l.length ≤ 1048576) (hx : ∀ x ∈ l, x.length ≤ 1048576) (h0 : 0 ≤ a) (h1 : a + tot l ≤ 2305843009213693952) : Ev (fun k => laws_heldUint64SS.f k (cnt2 l a) a) (a + tot l) :=
 heldUint64SS_l0 (cnt2 l a) (by rw [cnt2_length]; exact hl) l 0 a (by rw [cnt2_length]; omega) (by simp) hx h0 h1
theorem heldBoolS_l0 (y : List Bool) (hy : y.length ≤ 1048576) (d : Nat) : ∀ (j : Nat) (a : Int), j + d = y.length → y.drop j = cntB d a → 0 ≤ a → a + d ≤ 4611686018427387904 → Ev (fun k => laws_heldBoolS.l0 k y a (j : Int)) (a + d) := by
 induction d with
 | zero =>
  intro j a hd hc h0 h1
  exact ev_eq (Ev.step (f := fun _ => some a) (fun k => by simp only [laws_heldBoolS.l0]; rw [if_neg (by omega)]) (Ev.now _)) (by omega)
 | succ d ih =>
  intro j a hd hc h0 h1
  rw [drop_cons (by omega) false, cntB] at hc
  obtain ⟨h2, h3⟩ := List.cons.inj hc
  have er : rdOf false y (j : Int) = (Int.tmod a 3 == 0) := by rw [← h2]; simp [rdOf]
  refine Ev.step (fun k => by simp only [laws_heldBoolS.l0]; rw [if_pos (by omega), if_pos (by omega), er, if_neg (by simp), wsucc (by omega), wid (x := a + 1) (by omega) (by omega)]) ?_
  exact ev_eq (ih (j + 1) (a + 1) (by omega) h3 (by omega) (by omega)) (by omega)
theorem heldBoolS_ev (n : Nat) (a : Int) (hn : n ≤ 1048576) (h0 : 0 ≤ a) (h1 : a ≤ 2305843009213693952) : Ev (fun k => laws_heldBoolS.f k (cntB n a) a) (a + n) :=
 heldBoolS_l0 (cntB n a) (by rw [cntB_length]; exact hn) n 0 a (by rw [cntB_length]; omega) (by simp) h0 (by omega)
structure Come (st : List S82) (co : List S67) : Prop where
 s1 : st.length ≤ 1048576
 s2 : co.length ≤ 1048576
 s3 : ∀ x ∈ co, SmallCo x
 wst : Wd (st.map cNode)
 wco : ∀ c ∈ co.map cCommand, Wd c.f0 ∧ ∀ x ∈ c.f1, Wd x.f1
 ok : ∀ x ∈ co.map cCommand, OkCo x
theorem come_in {st : List S82} {co : List S67} (hst : st.length ≤ 9223372036854775807 ∧ ∀ x ∈ st, In64 x.f0 ∧ InU64 x.f1)
  (hco : co.length ≤ 9223372036854775807 ∧ ∀ x ∈ co, (x.f0.length ≤ 9223372036854775807 ∧ ∀ y ∈ x.f0, In64 y.f0 ∧ InU64 y.f1) ∧ (x.f1.length ≤ 9223372036854775807 ∧ ∀ y ∈ x.f1, In64 y.f0 ∧ (y.f1.length ≤ 9223372036854775807 ∧ ∀ z ∈ y.f1, In64 z.f0 ∧ InU64 z.f1)))
  (h1 : st.length ≤ 1048576) (h2 : co.length ≤ 1048576) (h3 : ∀ x ∈ co, SmallCo x) : Come st co := by
 have wd : ∀ l : List S82, (∀ y ∈ l, InU64 y.f1) → Wd (l.map cNode) := fun l hl x hx => by
  obtain ⟨y, hy, rfl⟩ := List.mem_map.1 hx
  have := hl y hy
  unfold InU64 at this
  simp only [cNode]; omega
 refine ⟨h1, h2, h3, wd st (fun y hy => (hst.2 y hy).2), fun x hx => ?_, fun x hx => ?_⟩
 ·obtain ⟨y, hy, rfl⟩ := List.mem_map.1 hx
  refine ⟨wd y.f0 (fun z hz => ((hco.2 y hy).1.2 z hz).2), fun z hz => ?_⟩
  obtain ⟨u, hu, rfl⟩ := List.mem_map.1 hz
  exact wd u.f1 (fun q hq => (((hco.2 y hy).2.2 u hu).2.2 q hq).2)
 ·obtain ⟨y, hy, rfl⟩ := List.mem_map.1 hx
  obtain ⟨g1, g2, g3⟩ := h3 y hy
  refine ⟨by simpa [cCommand] using g1, by simpa [cCommand] using g2, fun z hz => ?_⟩
  obtain ⟨u, hu, rfl⟩ := List.mem_map.1 hz
  have := g3 u hu
  unfold SmallCh at this
  simpa [OkCh, cChange] using this
theorem Come.few {st : List S82} {co : List S67} (h : Come st co) : ∀ c ∈ co.map cCommand, c.f1.length ≤ 9223372036854775807 := fun x hx => by have := (h.ok x hx).2.1; omega

theorem FnExactPlayCommands : ∀ (a0_0 : Int) (a0_1 : Int) (l0_2 : List (S82)) (l0_3 : List (S67)) (l1 : List (Int)) (l2 : List (Int)), (In64 a0_0) → (In64 a0_1) → (l0_2.length ≤ 9223372036854775807 ∧ ∀ x ∈ l0_2, (In64 x.f0) ∧ (InU64 x.f1)) → (l0_3.length ≤ 9223372036854775807 ∧ ∀ x ∈ l0_3, (x.f0.length ≤ 9223372036854775807 ∧ ∀ y ∈ x.f0, (In64 y.f0) ∧ (InU64 y.f1)) ∧ (x.f1.length ≤ 9223372036854775807 ∧ ∀ y ∈ x.f1, (In64 y.f0) ∧ (y.f1.length ≤ 9223372036854775807 ∧ ∀ x ∈ y.f1, (In64 x.f0) ∧ (InU64 x.f1)))) → (l1.length ≤ 9223372036854775807 ∧ ∀ x ∈ l1, InU64 x) → (l2.length ≤ 9223372036854775807 ∧ ∀ x ∈ l2, In64 x) → ∃ k, laws_FnExactPlayCommands.Holds k a0_0 a0_1 l0_2 l0_3 l1 l2 := by
  intro wi va st co s ks _ _ hst hco hs _
  by_cases c : 1048576 < (s.length : Int)
  · exact ⟨0, .inl c⟩
  by_cases c2 : 1048576 < (ks.length : Int)
  · exact ⟨0, .inr ⟨c, .inl c2⟩⟩
  obtain ⟨t, ht, hp⟩ := szProgram_ev wi va st co hst.1 hco.1 (fun x hx => ⟨(hco.2 x hx).1.1, (hco.2 x hx).2.1, fun y hy => ((hco.2 x hx).2.2 y hy).2.1⟩)
  by_cases h : t < 0
  · obtain ⟨k, hk⟩ := (ev_late ht).ex
    exact ⟨k, .inr ⟨c, .inr ⟨c2, t, hk, .inl h⟩⟩⟩
  obtain ⟨_, h1, h2, h3⟩ := hp (by omega)
  have C := come_in hst hco h1 h2 h3
  obtain ⟨⟨b1, b2, b3⟩, hb, hb2, hb3, e1, e2⟩ := PlayCommands_both wi va (st.map cNode) (co.map cCommand) s ks C.wst C.wco C.few (by omega) (fun a ha => by have := hs.2 a ha; unfold InU64 at this; omega)
  have hb : b1.length ≤ 60 := hb
  have hb2 : b2.length ≤ 60 := hb2
  have hb3 : ∀ x ∈ b1, x.length ≤ 4 := hb3
  have htot : tot b1 ≤ 240 := Nat.le_trans (tot_le b1 hb3) (by omega)
  have hm := markProgram_ev wi va (st.map cNode) (co.map cCommand) (by simpa using h1) (by simpa using h2) C.ok
  have ht2 := mkTot_le (st.map cNode) (co.map cCommand) (by simpa using h1) (by simpa using h2) C.ok
  have hm2 := markUint64S_ev s (1 + mkTot (st.map cNode) (co.map cCommand)) (by omega) (by omega) (by omega)
  have hm3 := markIntS_ev' ks (1 + mkTot (st.map cNode) (co.map cCommand) + s.length) (by omega) (by omega) (by omega)
  have hm4 := markUint64SS_ev b1 1 (fun x hx => by have := hb3 x hx; omega) (by omega) (by omega)
  have hm5 := markBoolS_ev b2 (1 + tot b1) (by omega) (by omega) (by omega)
  have hh := heldUint64SS_ev b1 1 (by omega) (fun x hx => by have := hb3 x hx; omega) (by omega) (by omega)
  have hh2 := heldBoolS_ev b2.length (1 + tot b1) (by omega) (by omega) (by omega)
  have P1 := eqUint64SS_ev b1 (by omega) (fun x hx => by have := hb3 x hx; omega)
  obtain ⟨k, a1, a2, a3, a4, a5, a6, a7, a8, a9, a10, a11, a12, a13, a14, a15, a16, a17, a18⟩ := ((ev_late ht).and ((ev_late (toProgram_ev wi va st co h1 h2 h3)).and ((ev_late (toUint64S_ev s (by omega))).and ((ev_late (toIntS_ev ks (by omega))).and ((ev_late e1).and ((ev_late e2).and ((ev_late P1).and ((ev_late (eqBoolS_ev b2 (by omega))).and ((ev_late (eqProgram_ev wi va (st.map cNode) (co.map cCommand) (by simpa using h1) (by simpa using h2) C.ok)).and ((ev_late (eqUint64S_ev s (by omega))).and ((ev_late (eqIntS_ev ks (by omega))).and ((ev_late hm).and ((ev_late hm2).and ((ev_late hm3).and ((ev_late hm4).and ((ev_late hm5).and ((ev_late hh).and (ev_late hh2)))))))))))))))))).ex
  exact ⟨k, .inr ⟨c, .inr ⟨c2, t, a1, .inr ⟨h, _, _, b1, b2, b3, _, _, _, _, _, _, _, _, _, a2, a3, a4, a5, a6, a7, a8, a9, a10, a11, a12, a13, a14, a15, a16, a17, a18, by omega, by omega, by omega⟩⟩⟩⟩

end Go.Proofs.YtjenmoopbmklfaaGreat.Pure
