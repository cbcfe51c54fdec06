/- The pure statement of the law FnExactLeastLasso: what the printed functions compute makes the law true, for every input. No condition. -/
import Derived.Test.YtdbdibkiehldpaaOpen
import Derived.Test.YtdbdibkiehldpaaAid
import Derived.Test.YtdbdibkiehldpaaMFnExactLeastLasso2
set_option linter.unusedVariables false
set_option linter.unusedSimpArgs false
namespace Go.Proofs.Ytdbdibkiehldpaa.Pure
open Go.RowKit Go.Proofs.YtdbdibkiehldpaaW.PrintWords Go.Proofs.Ytdbdibkiehldpaa.P Go.Proofs.Ytdbdibkiehldpaa.Hof Go.Proofs.Ytdbdibkiehldpaa.Open Go.Proofs.Ytdbdibkiehldpaa.Aid
-- LEMMAS
theorem szIntS_eq (l : List Int) (a : Int) (ha : 0 ≤ a ∧ a ≤ 1048576) (hl : l.length ≤ 9223372036854775807) : laws_szIntS.f l a = some (if (l.length : Int) ≤ a then a - l.length else -1) := by
 have e : wrap64 (a - (l.length : Int)) = a - l.length := wid (by omega) (by omega)
 simp only [laws_szIntS.f]
 rw [e]
 by_cases h : (l.length : Int) ≤ a
 ·rw [if_neg (by omega), if_pos h]
 ·rw [if_pos (by omega), if_neg h]
theorem szLasso_eq (l m : List Int) (a : Int) (ha : 0 ≤ a ∧ a ≤ 1048576) (hl : l.length ≤ 9223372036854775807) (hm : m.length ≤ 9223372036854775807) :
  ∃ t, laws_szLasso.f l m a = some t ∧ (0 ≤ t → t ≤ a ∧ (l.length : Int) ≤ a ∧ (m.length : Int) ≤ a) := by
 simp only [laws_szLasso.f]
 rw [szIntS_eq l a ha hl]
 simp only [Option.bind_some]
 by_cases h : (l.length : Int) ≤ a
 ·rw [if_pos h, if_neg (by omega), szIntS_eq m _ (by omega) hm]
  simp only [Option.bind_some]
  by_cases h2 : (m.length : Int) ≤ a - l.length
  ·rw [if_pos h2, if_neg (by omega)]; exact ⟨_, rfl, fun _ => by omega⟩
  ·rw [if_neg h2, if_pos (by omega)]; exact ⟨-1, rfl, fun h => by omega⟩
 ·rw [if_neg h, if_pos (by omega)]; exact ⟨-1, rfl, fun h => by omega⟩
theorem l1In_eq (n lo hi : Int) : spec_l1In.f n lo hi = some (decide (lo ≤ n ∧ n ≤ hi)) := by
 simp only [spec_l1In.f]
 by_cases h : n ≥ lo
 ·rw [if_pos h]; congr 1; simp; intro _; exact h
 ·rw [if_neg h]; congr 1; simp; intro h'; omega
theorem l1In_tells (n lo hi : Int) : Tells (fun _ => spec_l1In.f n lo hi) (lo ≤ n ∧ n ≤ hi) := by
 simp only [l1In_eq]; exact tells_some (by simp)
theorem l1All_l0 (l : List Int) (lo hi : Int) (hl : l.length ≤ 9223372036854775807) (d : Nat) : ∀ (j : Nat), j + d = l.length →
  Tells (fun k => spec_l1All.l0 k lo hi l (l.length : Int) (j : Int)) (∀ x ∈ l.drop j, lo ≤ x ∧ x ≤ hi) := by
 induction d with
 | zero => exact fun j hd => tells_step (f := fun _ => some true) (fun k => by simp only [spec_l1All.l0]; rw [if_neg (by omega)]) (tells_yes (by rw [List.drop_of_length_le (by omega)]; simp))
 | succ d ih =>
  intro j hd
  have hj : j < l.length := by omega
  refine tells_step (fun k => by simp only [spec_l1All.l0]; rw [if_pos (by omega), if_pos (by omega), if_pos (by omega), wsucc (by omega), rd_nat]) ?_
  rw [drop_cons hj 0]
  refine tells_ask (l1In_tells _ lo hi) (fun hin => tells_pos rfl ?_) (fun hin => tells_neg (by simp) (tells_no (fun h => hin (h _ (by simp)))))
  exact tells_iff (ih (j + 1) (by omega)) ⟨fun h x hx => by
   rcases List.mem_cons.1 hx with rfl | hx
   ·exact hin
   ·exact h x hx, fun h x hx => h x (by simp [hx])⟩
theorem l1All_tells (l : List Int) (lo hi : Int) (hl : l.length ≤ 9223372036854775807) : Tells (fun k => spec_l1All.f k l lo hi) (∀ x ∈ l, lo ≤ x ∧ x ≤ hi) := by
 have := l1All_l0 l lo hi hl l.length 0 (by omega)
 rwa [List.drop_zero] at this
def Letters (l : List Int) : Prop := ∀ x ∈ l, 0 ≤ x ∧ x ≤ 7
def GL (s l : List Int) : Prop := s.length ≤ 24 ∧ 1 ≤ l.length ∧ l.length ≤ 24 ∧ Letters s ∧ Letters l
theorem spec_GoodLasso_tells (s l : List Int) (hs : s.length ≤ 9223372036854775807) (hl : l.length ≤ 9223372036854775807) : Tells (fun k => spec_GoodLasso.f k s l) (GL s l) := by
 refine tells_if (fun h => ?_) (fun h => tells_no (fun g => by have := g.1; omega))
 refine tells_ask (l1In_tells _ _ _) (fun h2 => tells_pos rfl ?_) (fun h2 => tells_neg (by simp) (tells_no (fun g => h2 ⟨by have := g.2.1; omega, by have := g.2.2.1; omega⟩)))
 refine tells_ask (l1All_tells s 0 7 hs) (fun h3 => tells_pos rfl ?_) (fun h3 => tells_neg (by simp) (tells_no (fun g => h3 g.2.2.2.1)))
 exact tells_ask (l1All_tells l 0 7 hl) (fun h4 => tells_yes ⟨by omega, by omega, by omega, h3, h4⟩) (fun h4 => tells_no (fun g => h4 g.2.2.2.2))
def letter (s l : List Int) (k : Nat) : Int := if k < s.length then s.getD k 0 else l.getD ((k - s.length) % l.length) 0
theorem letter_at_body (s l : List Int) (h : GL s l) (k : Nat) (hk : k ≤ 1048576) : (if (k : Int) < (s.length : Int) then (if 0 ≤ (k : Int) then (some (rd s (k : Int))) else (none)) else (if (l.length : Int) = 0 then (none) else (if 0 ≤ (Int.tmod (wrap64 ((k : Int) - (s.length : Int))) (l.length : Int)) then (if (Int.tmod (wrap64 ((k : Int) - (s.length : Int))) (l.length : Int)) < (l.length : Int) then (some (rd l (Int.tmod (wrap64 ((k : Int) - (s.length : Int))) (l.length : Int)))) else (none)) else (none)))) = some (letter s l k) := by
 have h1 := h.1
 have h2 := h.2.1
 by_cases hs : k < s.length
 ·rw [if_pos (by omega), if_pos (by omega), rd_nat]
  simp only [letter, if_pos hs]
 ·rw [if_neg (by omega), if_neg (by omega), wid (by omega) (by omega)]
  have e1 : (k : Int) - (s.length : Int) = ((k - s.length : Nat) : Int) := by omega
  have e2 : Int.tmod ((k - s.length : Nat) : Int) (l.length : Int) = (((k - s.length) % l.length : Nat) : Int) := by
   rw [Int.tmod_eq_emod_of_nonneg (by omega)]; rfl
  have h3 : (k - s.length) % l.length < l.length := Nat.mod_lt _ (by omega)
  rw [e1, e2, if_pos (by omega), if_pos (by omega), rd_nat]
  simp only [letter, if_neg hs]
theorem l9At_eq (s l : List Int) (h : GL s l) (k : Nat) (hk : k ≤ 1048576) : spec_l9At.f s l (k : Int) = some (letter s l k) := letter_at_body s l h k hk
def lets (s l : List Int) : Nat → Nat → List Int
 | _, 0 => []
 | j, d + 1 => letter s l j :: lets s l (j + 1) d
theorem lets_length (s l : List Int) : ∀ d j, (lets s l j d).length = d
 | 0, _ => rfl
 | d + 1, j => by simp [lets, lets_length s l d]
theorem lets_getD (s l : List Int) : ∀ d j i, i < d → (lets s l j d).getD i 0 = letter s l (j + i)
 | 0, _, _, h => by omega
 | d + 1, j, 0, _ => by simp [lets]
 | d + 1, j, i + 1, h => by
  have := lets_getD s l d (j + 1) i (by omega)
  simp only [lets, List.getD_cons_succ]
  rw [this]; congr 1; omega
theorem l9First_l0 (s l : List Int) (h : GL s l) (a n : Nat) (hn : a + n ≤ 1048576) (d : Nat) : ∀ (j : Nat) (out : List Int), out.length ≤ j → j + d = a + n →
  Ev (fun k => spec_l9First.l0 k (a : Int) (n : Int) out (j : Int) s l) (out ++ lets s l j d) := by
 induction d with
 | zero =>
  intro j out ho hd
  exact Ev.step (f := fun _ => some (out ++ lets s l j 0)) (fun k => by simp only [spec_l9First.l0]; rw [if_neg (by rw [wid (by omega) (by omega)]; omega)]; simp [lets]) (Ev.now _)
 | succ d ih =>
  intro j out ho hd
  refine Ev.step (fun k => by simp only [spec_l9First.l0]; rw [if_pos (by rw [wid (by omega) (by omega)]; omega), l9At_eq s l h j (by omega), wsucc (by omega)]) ?_
  refine Ev.bind (Ev.now _) (ev_pos (by omega) ?_)
  exact ev_eq (ih (j + 1) (out ++ [letter s l j]) (by simp; omega) (by omega)) (by simp [lets])
theorem l9First_ev (s l : List Int) (h : GL s l) (a n : Nat) (hn : a + n ≤ 1048576) : Ev (fun k => spec_l9First.f k s l (a : Int) (n : Int)) (lets s l a n) :=
 ev_eq (l9First_l0 s l h a n hn n a [] (by simp) rfl) (by simp)
theorem l1Same_l0 (x y : List Int) (hx : x.length ≤ 9223372036854775807) (hy : x.length = y.length) (d : Nat) : ∀ (j : Nat), j + d = x.length →
  Tells (fun k => spec_l1Same.l0 k x y (x.length : Int) (j : Int)) (x.drop j = y.drop j) := by
 induction d with
 | zero => exact fun j hd => tells_step (f := fun _ => some true) (fun k => by simp only [spec_l1Same.l0]; rw [if_neg (by omega)]) (tells_yes (by rw [List.drop_of_length_le (by omega), List.drop_of_length_le (by omega)]))
 | succ d ih =>
  intro j hd
  refine tells_step (fun k => by simp only [spec_l1Same.l0]; rw [if_pos (by omega), if_pos (by omega), if_pos (by omega), if_pos (by omega), wsucc (by omega), rd_nat, rd_nat]) ?_
  rw [drop_cons (l := x) (by omega) 0, drop_cons (l := y) (by omega) 0]
  exact tells_if (fun h => tells_iff (ih (j + 1) (by omega)) ⟨fun g => by rw [h, g], fun g => (List.cons.inj g).2⟩) (fun h => tells_no (fun g => h (List.cons.inj g).1))
theorem l1Same_tells (x y : List Int) (hx : x.length ≤ 9223372036854775807) : Tells (fun k => spec_l1Same.f k x y) (x = y) := by
 refine tells_if (fun h => ?_) (fun h => tells_no (fun g => h (by rw [g])))
 have := l1Same_l0 x y hx (by omega) x.length 0 (by omega)
 rwa [List.drop_zero, List.drop_zero] at this
theorem l1Own_eq (l : List Int) (h : l.length ≤ 1048576) : spec_l1Own.f l = some l := by
 simp only [spec_l1Own.f, Option.bind_some, List.nil_append, List.length_nil]
 rw [if_pos (by omega)]
theorem letter_per (s l : List Int) (h : GL s l) (k m : Nat) (hk : s.length ≤ k) : letter s l (k + l.length * m) = letter s l k := by
 simp only [letter]
 rw [if_neg (by omega), if_neg (by omega)]
 rw [show k + l.length * m - s.length = (k - s.length) + l.length * m from by omega, Nat.add_mul_mod_self_left]
theorem same_on (s l s' l' : List Int) (h : GL s l) (h' : GL s' l') (hs : ∀ k, k < 600 → letter s l k = letter s' l' k) (k : Nat) : letter s l k = letter s' l' k := by
 by_cases hk : k < 600
 ·exact hs k hk
 ·have hp : 0 < l.length * l'.length := Nat.mul_pos (by have := h.2.1; omega) (by have := h'.2.1; omega)
  have hq : l.length * l'.length ≤ 24 * 24 := Nat.mul_le_mul h.2.2.1 h'.2.2.1
  have hm : (k - 24) % (l.length * l'.length) < l.length * l'.length := Nat.mod_lt _ hp
  have he : k = 24 + (k - 24) % (l.length * l'.length) + l.length * l'.length * ((k - 24) / (l.length * l'.length)) := by
   have := Nat.mod_add_div (k - 24) (l.length * l'.length); omega
  have h1 := h.1
  have h1' := h'.1
  have e1 := letter_per s l h (24 + (k - 24) % (l.length * l'.length)) (l'.length * ((k - 24) / (l.length * l'.length))) (by omega)
  have e2 := letter_per s' l' h' (24 + (k - 24) % (l.length * l'.length)) (l.length * ((k - 24) / (l.length * l'.length))) (by omega)
  rw [← Nat.mul_assoc, ← he] at e1
  rw [← Nat.mul_assoc, Nat.mul_comm l'.length l.length, ← he] at e2
  rw [e1, e2]
  exact hs _ (by omega)
theorem lets_eq_iff (s l s' l' : List Int) (n : Nat) : lets s l 0 n = lets s' l' 0 n ↔ ∀ k, k < n → letter s l k = letter s' l' k := by
 constructor
 ·intro h k hk
  have e1 := lets_getD s l n 0 k hk
  have e2 := lets_getD s' l' n 0 k hk
  rw [Nat.zero_add] at e1 e2
  rw [← e1, ← e2, h]
 ·intro h
  refine List.ext_getElem (by rw [lets_length, lets_length]) (fun k h1 h2 => ?_)
  rw [lets_length] at h1
  rw [← getD_eq (by rw [lets_length]; exact h1) 0, ← getD_eq (by rw [lets_length]; exact h1) 0, lets_getD _ _ _ _ _ h1, lets_getD _ _ _ _ _ h1, Nat.zero_add]
  exact h k h1
theorem lets_ext (s l : List Int) : ∀ (d j : Nat) (xs : List Int), xs.length = d → (∀ i, i < d → xs.getD i 0 = letter s l (j + i)) → xs = lets s l j d
 | 0, _, xs, h, _ => by rw [List.length_eq_zero_iff.1 h]; rfl
 | d + 1, j, [], h, _ => by simp at h
 | d + 1, j, x :: xs, h, hg => by
  have h0 := hg 0 (by omega)
  rw [lets, ← lets_ext s l d (j + 1) xs (by simpa using h) (fun i hi => by have := hg (i + 1) (by omega); rw [List.getD_cons_succ] at this; rw [this]; congr 1; omega)]
  congr 1
theorem rot_eq (s l : List Int) (hl : 1 ≤ l.length) (k : Nat) (hk : s.length ≤ k) : l.drop ((k - s.length) % l.length) ++ l.take ((k - s.length) % l.length) = lets s l k l.length := by
 have hb : (k - s.length) % l.length < l.length := Nat.mod_lt _ (by omega)
 have hm : ∀ i, (k + i - s.length) % l.length = ((k - s.length) % l.length + i) % l.length := fun i => by rw [Nat.mod_add_mod]; congr 1; omega
 generalize (k - s.length) % l.length = b at hb hm
 refine lets_ext s l l.length k _ (by simp; omega) (fun i hi => ?_)
 simp only [letter]
 rw [if_neg (by omega), hm i]
 by_cases h : i < l.length - b
 ·rw [Nat.mod_eq_of_lt (by omega), List.getD_eq_getElem?_getD, List.getElem?_append_left (by simp; omega), List.getElem?_drop, ← List.getD_eq_getElem?_getD]
 ·have e : (b + i) % l.length = b + i - l.length := by rw [Nat.mod_eq_sub_mod (by omega), Nat.mod_eq_of_lt (by omega)]
  rw [e, List.getD_eq_getElem?_getD, List.getElem?_append_right (by simp; omega), List.length_drop, List.getElem?_take_of_lt (by omega), ← List.getD_eq_getElem?_getD]
  congr 1; omega
theorem stem_eq (s l : List Int) (n : Nat) (hn : n ≤ s.length) (k : Nat) (hk : k + n = s.length) : s.drop k = lets s l k n := by
 refine lets_ext s l n k _ (by simp; omega) (fun i hi => ?_)
 simp only [letter]
 rw [if_pos (by omega), List.getD_eq_getElem?_getD, List.getElem?_drop, ← List.getD_eq_getElem?_getD]
theorem stem_take (s l : List Int) (hl : 1 ≤ l.length) (b : Nat) (hb : b ≤ l.length) : s ++ l.take b = lets s l 0 (s.length + b) := by
 refine lets_ext s l (s.length + b) 0 _ (by simp; omega) (fun i hi => ?_)
 simp only [letter, Nat.zero_add]
 by_cases h : i < s.length
 ·rw [if_pos h, List.getD_eq_getElem?_getD, List.getElem?_append_left h, ← List.getD_eq_getElem?_getD]
 ·rw [if_neg h, List.getD_eq_getElem?_getD, List.getElem?_append_right (by omega), List.getElem?_take_of_lt (by omega), ← List.getD_eq_getElem?_getD, Nat.mod_eq_of_lt (by omega)]
theorem letter_in (s l : List Int) (h : GL s l) (k : Nat) : 0 ≤ letter s l k ∧ letter s l k ≤ 7 := by
 simp only [letter]
 by_cases hk : k < s.length
 ·rw [if_pos hk]; exact h.2.2.2.1 _ (getD_mem hk 0)
 ·rw [if_neg hk]; exact h.2.2.2.2 _ (getD_mem (Nat.mod_lt _ (by have := h.2.1; omega)) 0)
theorem lets_letters (s l : List Int) (h : GL s l) : ∀ d j, Letters (lets s l j d)
 | 0, _ => by simp [lets, Letters]
 | d + 1, j => by
  intro x hx
  rcases List.mem_cons.1 hx with rfl | hx
  ·exact letter_in s l h j
  ·exact lets_letters s l h d (j + 1) x hx
def Per (s l : List Int) (t q : Nat) : Prop := ∀ k, t ≤ k → letter s l (k + q) = letter s l k
theorem per_up {s l : List Int} {t t' q : Nat} (h : Per s l t q) (ht : t ≤ t') : Per s l t' q := fun k hk => h k (by omega)
theorem per_mul {s l : List Int} {t q : Nat} (h : Per s l t q) (j : Nat) : ∀ k, t ≤ k → letter s l (k + q * j) = letter s l k := by
 induction j with
 | zero => intro k _; rfl
 | succ j ih =>
  intro k hk
  rw [show k + q * (j + 1) = (k + q * j) + q from by rw [Nat.mul_succ]; omega, h _ (by omega), ih k hk]
theorem per_loop (s l : List Int) (h : GL s l) : Per s l s.length l.length := fun k hk => by
 have := letter_per s l h k 1 hk
 rwa [Nat.mul_one] at this
theorem per_sub {s l : List Int} {t x y : Nat} (hx : Per s l t x) (hy : Per s l t y) (hle : x ≤ y) : Per s l t (y - x) := fun k hk => by
 rw [← hx (k + (y - x)) (by omega), show k + (y - x) + x = k + y from by omega, hy k hk]
theorem per_gcd (s l : List Int) (t : Nat) : ∀ (m x y : Nat), x + y ≤ m → Per s l t x → Per s l t y → Per s l t (Nat.gcd x y) := by
 intro m
 induction m with
 | zero =>
  intro x y h hx _
  have h1 : x = 0 := by omega
  have h2 : y = 0 := by omega
  subst h1; subst h2
  exact hx
 | succ m ih =>
  intro x y h hx hy
  rcases Nat.eq_zero_or_pos x with h0 | h0
  ·subst h0; rw [Nat.gcd_zero_left]; exact hy
  rcases Nat.eq_zero_or_pos y with h1 | h1
  ·subst h1; rw [Nat.gcd_zero_right]; exact hx
  by_cases hle : x ≤ y
  ·rw [← Nat.gcd_sub_self_right hle]
   exact ih x (y - x) (by omega) hx (per_sub hx hy hle)
  ·rw [← Nat.gcd_sub_self_left (show y ≤ x by omega)]
   exact ih (x - y) y (by omega) (per_sub hy hx (by omega)) hy
theorem nat_least {P : Nat → Prop} : ∀ (n : Nat), P n → ∃ m, P m ∧ m ≤ n ∧ ∀ k, k < m → ¬ P k := by
 intro n
 induction n using Nat.strongRecOn with
 | _ n ih =>
  intro h
  by_cases hk : ∃ k, k < n ∧ P k
  ·obtain ⟨k, h1, h2⟩ := hk
   obtain ⟨m, h3, h4, h5⟩ := ih k h1 h2
   exact ⟨m, h3, by omega, h5⟩
  ·exact ⟨n, h, Nat.le_refl _, fun k hk' hp => hk ⟨k, hk', hp⟩⟩
theorem per_same (s l : List Int) (t q : Nat) (hq : 1 ≤ q) : (∀ k, letter (lets s l 0 t) (lets s l t q) k = letter s l k) ↔ Per s l t q := by
 have hin : ∀ k, letter (lets s l 0 t) (lets s l t q) k = if k < t then letter s l k else letter s l (t + (k - t) % q) := by
  intro k
  simp only [letter, lets_length]
  by_cases hk : k < t
  ·rw [if_pos hk, if_pos hk, lets_getD _ _ _ _ _ hk, Nat.zero_add]; rfl
  ·rw [if_neg hk, if_neg hk, lets_getD _ _ _ _ _ (Nat.mod_lt _ (by omega))]; rfl
 constructor
 ·intro h k hk
  rw [← h (k + q), ← h k, hin, hin, if_neg (by omega), if_neg (by omega), show k + q - t = (k - t) + q from by omega, Nat.add_mod_right]
 ·intro h k
  rw [hin]
  by_cases hk : k < t
  ·rw [if_pos hk]
  ·rw [if_neg hk]
   have := per_mul h ((k - t) / q) (t + (k - t) % q) (by omega)
   rw [← this]
   congr 1
   have := Nat.mod_add_div (k - t) q
   omega
theorem lets_GL (s l : List Int) (h : GL s l) (t q : Nat) (ht : t ≤ 24) (hq : 1 ≤ q) (hq2 : q ≤ 24) : GL (lets s l 0 t) (lets s l t q) :=
 ⟨by rw [lets_length]; exact ht, by rw [lets_length]; exact hq, by rw [lets_length]; exact hq2, lets_letters s l h _ _, lets_letters s l h _ _⟩
theorem loop_per (s l : List Int) (h : GL s l) (p : Nat) (hp : 1 ≤ p) (hd : p ∣ l.length) (hle : p ≤ l.length) : l.drop p = l.take (l.length - p) ↔ Per s l s.length p := by
 have hget : ∀ i, i < l.length → letter s l (s.length + i) = l.getD i 0 := fun i hi => by
  simp only [letter]
  rw [if_neg (by omega), show s.length + i - s.length = i from by omega, Nat.mod_eq_of_lt hi]
 constructor
 ·intro e
  have h1 : ∀ i, i + p < l.length → l.getD (i + p) 0 = l.getD i 0 := fun i hi => by
   have := congrArg (fun x => x.getD i 0) e
   simp only [List.getD_eq_getElem?_getD, List.getElem?_drop] at this ⊢
   rw [List.getElem?_take_of_lt (by omega), Nat.add_comm p i] at this
   exact this
  have h2 : ∀ j i, i + p * j < l.length → l.getD (i + p * j) 0 = l.getD i 0 := by
   intro j
   induction j with
   | zero => intro i _; rfl
   | succ j ih =>
    intro i hi
    rw [Nat.mul_succ] at hi
    rw [show i + p * (j + 1) = (i + p * j) + p from by rw [Nat.mul_succ]; omega, h1 _ (by omega), ih i (by omega)]
  have h3 : ∀ i, i < l.length → l.getD i 0 = l.getD (i % p) 0 := fun i hi => by
   have hm := Nat.mod_add_div i p
   have := h2 (i / p) (i % p) (by omega)
   rw [hm] at this
   exact this
  intro k hk
  have hb1 : (k - s.length) % l.length < l.length := Nat.mod_lt _ (by omega)
  have hb2 : (k + p - s.length) % l.length < l.length := Nat.mod_lt _ (by omega)
  simp only [letter]
  rw [if_neg (by omega), if_neg (by omega), h3 _ hb1, h3 _ hb2, Nat.mod_mod_of_dvd _ hd, Nat.mod_mod_of_dvd _ hd, show k + p - s.length = (k - s.length) + p from by omega, Nat.add_mod_right]
 ·intro hper
  refine List.ext_getElem (by rw [List.length_drop, List.length_take]; omega) (fun i h1 h2 => ?_)
  rw [List.length_drop] at h1
  rw [List.getElem_drop, List.getElem_take]
  have := hper (s.length + i) (by omega)
  rw [show s.length + i + p = s.length + (p + i) from by omega, hget _ (by omega), hget _ (by omega)] at this
  rwa [getD_eq (by omega), getD_eq (by omega)] at this
theorem per_least (s l : List Int) (h : GL s l) : ∃ p t, 1 ≤ p ∧ p ≤ l.length ∧ p ∣ l.length ∧ t ≤ s.length ∧ (∀ t', Per s l t' p ↔ t ≤ t') ∧ (∀ q, 1 ≤ q → q < p → ¬ Per s l s.length q) := by
 have h1 := h.2.1
 obtain ⟨p, ⟨hp1, hp2, hp3⟩, hle, hmin⟩ := nat_least (P := fun p => 1 ≤ p ∧ p ∣ l.length ∧ Per s l s.length p) l.length ⟨h1, Nat.dvd_refl _, per_loop s l h⟩
 obtain ⟨t, ht, htle, htmin⟩ := nat_least (P := fun t => Per s l t p) s.length hp3
 refine ⟨p, t, hp1, hle, hp2, htle, fun t' => ⟨fun hper => ?_, fun hle' => per_up ht hle'⟩, fun q hq hqp hper => ?_⟩
 ·rcases Nat.lt_or_ge t' t with hlt | hge
  ·exact absurd hper (htmin t' hlt)
  ·exact hge
 ·have hg := per_gcd s l s.length _ q l.length (Nat.le_refl _) hper (per_loop s l h)
  have hg1 : 1 ≤ Nat.gcd q l.length := Nat.gcd_pos_of_pos_left _ (by omega)
  have hg2 : Nat.gcd q l.length ≤ q := Nat.gcd_le_left _ (by omega)
  exact hmin _ (by omega) ⟨hg1, Nat.gcd_dvd_right _ _, hg⟩
theorem l9Same_shape (s l : List Int) (h : GL s l) (t q : Nat) (ht : t ≤ 24) (hq : 1 ≤ q) (hq2 : q ≤ 24) : Tells (fun k => spec_l9Same.f k (lets s l 0 t) (lets s l t q) s l) (Per s l t q) := by
 have h' := lets_GL s l h t q ht hq hq2
 refine tells_bind (l9First_ev _ _ h' 0 600 (by omega)) (tells_bind (l9First_ev s l h 0 600 (by omega)) ?_)
 refine tells_iff (tells_ask (l1Same_tells _ _ (by rw [lets_length]; omega)) (fun h => tells_yes h) (fun h => tells_no h)) ?_
 rw [lets_eq_iff, ← per_same s l t q hq]
 exact ⟨fun g => same_on _ _ s l h' h g, fun g k _ => g k⟩
section
variable {s l : List Int} (h : GL s l)
include h
theorem spec_ll_hit (p t : Nat) (hp : 1 ≤ p) (hp2 : p ≤ 24) (ht : t ≤ s.length) (hper : Per s l t p) : Ev (fun k => spec_LeastLasso.l1 k (p : Int) (t : Int) s l) (lets s l 0 t, lets s l t p, true) := by
 have h1 := h.1
 refine Ev.step (fun k => by simp only [spec_LeastLasso.l1]; rw [if_pos (by omega)]) ?_
 exact Ev.bind (l9First_ev s l h 0 t (by omega)) (Ev.bind (l9First_ev s l h t p (by omega)) (Ev.bind (tells_ev (l9Same_shape s l h t p (by omega) hp hp2) hper) (ev_pos rfl (Ev.now _))))
theorem spec_ll_miss {r : List Int × List Int × Bool} (p t : Nat) (hp : 1 ≤ p) (hp2 : p ≤ 24) (ht : t ≤ s.length) (hper : ¬ Per s l t p) (hr : Ev (fun k => spec_LeastLasso.l1 k (p : Int) ((t + 1 : Nat) : Int) s l) r) : Ev (fun k => spec_LeastLasso.l1 k (p : Int) (t : Int) s l) r := by
 have h1 := h.1
 refine Ev.step (fun k => by simp only [spec_LeastLasso.l1]; rw [if_pos (by omega), wsucc (by omega)]) ?_
 exact Ev.bind (l9First_ev s l h 0 t (by omega)) (Ev.bind (l9First_ev s l h t p (by omega)) (Ev.bind (tells_ev_not (l9Same_shape s l h t p (by omega) hp hp2) hper) (ev_neg (by simp) hr)))
theorem spec_ll_find (p t0 : Nat) (hp : 1 ≤ p) (hp2 : p ≤ 24) (ht : t0 ≤ s.length) (hper : ∀ t, Per s l t p ↔ t0 ≤ t) : ∀ d t, t + d = t0 → Ev (fun k => spec_LeastLasso.l1 k (p : Int) (t : Int) s l) (lets s l 0 t0, lets s l t0 p, true) := by
 intro d
 induction d with
 | zero =>
  intro t e
  have : t = t0 := by omega
  subst this
  exact spec_ll_hit h p t hp hp2 ht ((hper t).2 (Nat.le_refl _))
 | succ d ih =>
  intro t e
  exact spec_ll_miss h p t hp hp2 (by omega) (fun g => by have := (hper t).1 g; omega) (ih (t + 1) (by omega))
theorem spec_ll_none {r : List Int × List Int × Bool} (p : Nat) (hp : 1 ≤ p) (hp2 : p ≤ 24) (hper : ∀ t, t ≤ s.length → ¬ Per s l t p) (hr : Ev (fun k => spec_LeastLasso.l0 k ((p + 1 : Nat) : Int) s l) r) : ∀ d t, t + d = s.length + 1 → Ev (fun k => spec_LeastLasso.l1 k (p : Int) (t : Int) s l) r := by
 have h1 := h.1
 intro d
 induction d with
 | zero =>
  intro t e
  refine Ev.step (fun k => by simp only [spec_LeastLasso.l1]; rw [if_neg (by omega), wsucc (by omega)]) ?_
  exact hr
 | succ d ih =>
  intro t e
  exact spec_ll_miss h p t hp hp2 (by omega) (hper t (by omega)) (ih (t + 1) (by omega))
theorem spec_ll_l2 (t0 : Nat) (ht : t0 ≤ s.length) (hper : ∀ t, Per s l t l.length ↔ t0 ≤ t) : ∀ d t, t + d = t0 → Ev (fun k => spec_LeastLasso.l2 k (t : Int) s l) (lets s l 0 t0, lets s l t0 l.length, true) := by
 have h1 := h.1
 have h2 := h.2.1
 have h3 := h.2.2.1
 intro d
 induction d with
 | zero =>
  intro t e
  have : t = t0 := by omega
  subst this
  by_cases hlt : t < s.length
  ·refine Ev.step (fun k => by simp only [spec_LeastLasso.l2]; rw [if_pos (by omega)]) ?_
   exact Ev.bind (l9First_ev s l h 0 t (by omega)) (Ev.bind (l9First_ev s l h t l.length (by omega)) (Ev.bind (tells_ev (l9Same_shape s l h t l.length (by omega) h2 h3) ((hper t).2 (Nat.le_refl _))) (ev_pos rfl (Ev.now _))))
  ·have he : t = s.length := by omega
   subst he
   refine Ev.step (fun k => by simp only [spec_LeastLasso.l2]; rw [if_neg (by omega)]) ?_
   have e1 : lets s l 0 s.length = s := by
    have := stem_take s l h2 0 (by omega)
    simpa using this.symm
   have e2 : lets s l s.length l.length = l := by
    have := rot_eq s l h2 s.length (Nat.le_refl _)
    rw [Nat.sub_self, Nat.zero_mod] at this
    simpa using this.symm
   rw [e1, e2]
   exact Ev.bind (ev_const (l1Own_eq _ (by omega))) (Ev.bind (ev_const (l1Own_eq _ (by omega))) (Ev.now _))
 | succ d ih =>
  intro t e
  refine Ev.step (fun k => by simp only [spec_LeastLasso.l2]; rw [if_pos (by omega), wsucc (by omega)]) ?_
  exact Ev.bind (l9First_ev s l h 0 t (by omega)) (Ev.bind (l9First_ev s l h t l.length (by omega)) (Ev.bind (tells_ev_not (l9Same_shape s l h t l.length (by omega) h2 h3) (fun g => by have := (hper t).1 g; omega)) (ev_neg (by simp) (ih (t + 1) (by omega)))))
theorem spec_ll_l0 (p0 t0 : Nat) (hp : 1 ≤ p0) (hp2 : p0 ≤ l.length) (ht : t0 ≤ s.length) (hper : ∀ t, Per s l t p0 ↔ t0 ≤ t) (hno : ∀ q, 1 ≤ q → q < p0 → ¬ Per s l s.length q) : ∀ d p, 1 ≤ p → p + d = p0 → Ev (fun k => spec_LeastLasso.l0 k (p : Int) s l) (lets s l 0 t0, lets s l t0 p0, true) := by
 have h3 := h.2.2.1
 intro d
 induction d with
 | zero =>
  intro p hp1 e
  have : p = p0 := by omega
  subst this
  by_cases hlt : p < l.length
  ·refine Ev.step (fun k => by simp only [spec_LeastLasso.l0]; rw [if_pos (by omega)]) ?_
   exact spec_ll_find h p t0 hp (by omega) ht hper t0 0 (by omega)
  ·have he : p = l.length := by omega
   subst he
   refine Ev.step (fun k => by simp only [spec_LeastLasso.l0]; rw [if_neg (by omega)]) ?_
   exact spec_ll_l2 h t0 ht hper t0 0 (by omega)
 | succ d ih =>
  intro p hp1 e
  refine Ev.step (fun k => by simp only [spec_LeastLasso.l0]; rw [if_pos (by omega)]) ?_
  exact spec_ll_none h p hp1 (by omega) (fun t ht' hper' => hno p hp1 (by omega) (per_up hper' ht')) (ih (p + 1) (by omega) (by omega)) (s.length + 1) 0 (by omega)
end
theorem toIntS_l0 (l : List Int) (hl : l.length ≤ 1048576) (d : Nat) : ∀ (j : Nat) (y : List Int), y.length = l.length → j + d = l.length → Ev (fun k => laws_toIntS.l0 k l y (j : Int)) (y.take j ++ l.drop j) := by
 induction d with
 | zero =>
  intro j y hy hd
  rw [take_all_drop hy (by omega)]
  exact Ev.step (f := fun _ => some y) (fun k => by simp only [laws_toIntS.l0]; rw [if_neg (by omega)]) (Ev.now y)
 | succ d ih =>
  intro j y hy hd
  refine Ev.step (f := fun k => laws_toIntS.l0 k l (y.set j (rd l (j : Int))) ((j + 1 : Nat) : Int)) (fun k => by simp only [laws_toIntS.l0]; rw [if_pos (by omega), if_pos (by omega), if_pos (by omega), wsucc (by omega)]; rfl) ?_
  refine ev_eq (ih (j + 1) _ (by simpa using hy) (by omega)) (copy_step (by omega) (by omega) ?_)
  rw [rd_nat, getD_eq (by omega), getD_eq (by omega)]
theorem toIntS_ev (l : List Int) (hl : l.length ≤ 1048576) : Ev (fun k => laws_toIntS.f k l) l := by
 refine Ev.congr (f := fun k => laws_toIntS.l0 k l (List.replicate l.length 0) ((0 : Nat) : Int)) (fun k => by simp only [laws_toIntS.f]; rw [if_pos (by omega), if_pos (by simp only [Int.toNat_natCast]; omega)]; rfl) ?_
 exact ev_eq (toIntS_l0 l hl l.length 0 _ (by simp) (by omega)) (by simp)
theorem toLasso_ev (l m : List Int) (hl : l.length ≤ 1048576) (hm : m.length ≤ 1048576) : Ev (fun k => laws_toLasso.f k l m) (l, m) :=
 Ev.bind (toIntS_ev l hl) (Ev.bind (toIntS_ev m hm) (Ev.now _))
theorem areLetters_tells (l : List Int) : Tells (fun _ => impl_areLetters.f l) (Letters l) := by
 have h1 : Tells (fun _ => anyO (fun x_ => impl_areLetters_1.f x_) l) (∃ x ∈ l, x < 0 ∨ 8 ≤ x) := by
  refine anyO_tells (q := fun _ x => impl_areLetters_1.f x) l (fun x _ => ?_)
  exact tells_if (fun h => tells_yes (.inl h)) (fun h => tells_some (by simp; omega))
 refine tells_ask h1 (fun ⟨x, hx, hp⟩ => tells_no (fun g => by have := g x hx; omega)) (fun h => tells_yes (fun x hx => ?_))
 rcases Int.lt_or_le x 0 with h2 | h2
 ·exact absurd ⟨x, hx, .inl h2⟩ h
 ·rcases Int.lt_or_le x 8 with h3 | h3
  ·omega
  ·exact absurd ⟨x, hx, .inr h3⟩ h
theorem impl_GoodLasso_tells (s l : List Int) : Tells (fun _ => impl_GoodLasso.f s l) (GL s l) := by
 refine tells_if (fun h => ?_) (fun h => tells_no (fun g => by have := g.1; omega))
 refine tells_if (fun h2 => ?_) (fun h2 => tells_no (fun g => by have := g.2.1; omega))
 refine tells_if (fun h3 => ?_) (fun h3 => tells_no (fun g => by have := g.2.2.1; omega))
 refine tells_ask (areLetters_tells s) (fun h4 => tells_pos rfl ?_) (fun h4 => tells_neg (by simp) (tells_no (fun g => h4 g.2.2.2.1)))
 exact tells_ask (areLetters_tells l) (fun h5 => tells_yes ⟨by omega, by omega, by omega, h4, h5⟩) (fun h5 => tells_no (fun g => h5 g.2.2.2.2))
theorem sEqual_l0 (x y : List Int) (hx : x.length ≤ 9223372036854775807) (hy : x.length = y.length) (d : Nat) : ∀ (j : Nat), j + d = x.length →
  Tells (fun k => slices_Equal_int_int.l0 k x y (x.length : Int) (j : Int)) (x.drop j = y.drop j) := by
 induction d with
 | zero => exact fun j hd => tells_step (f := fun _ => some true) (fun k => by simp only [slices_Equal_int_int.l0]; rw [if_neg (by omega)]) (tells_yes (by rw [List.drop_of_length_le (by omega), List.drop_of_length_le (by omega)]))
 | succ d ih =>
  intro j hd
  refine tells_step (fun k => by simp only [slices_Equal_int_int.l0]; rw [if_pos (by omega), if_pos (by omega), if_pos (by omega), if_pos (by omega), wsucc (by omega), rd_nat, rd_nat]) ?_
  rw [drop_cons (l := x) (by omega) 0, drop_cons (l := y) (by omega) 0]
  exact tells_if (fun h => tells_iff (ih (j + 1) (by omega)) ⟨fun g => by rw [h, g], fun g => (List.cons.inj g).2⟩) (fun h => tells_no (fun g => h (List.cons.inj g).1))
theorem sEqual_tells (x y : List Int) (hx : x.length ≤ 9223372036854775807) : Tells (fun k => slices_Equal_int_int.f k x y) (x = y) := by
 refine tells_if (fun h => ?_) (fun h => tells_no (fun g => h (by rw [g])))
 have := sEqual_l0 x y hx (by omega) x.length 0 (by omega)
 rwa [List.drop_zero, List.drop_zero] at this
theorem cloneInt_eq (l : List Int) (h : l.length < 17592186044416) : slices_Clone_int_int.f l = some l := by
 rw [slices_Clone_int_int.f, if_pos h]
section
variable {s l : List Int}
theorem impl_ll_l1 (p t0 : Nat) (hp : 1 ≤ p) (hp2 : p ≤ 24) (hper : ∀ t, Per s l t p ↔ t0 ≤ t) : ∀ d t, t = t0 + d → t ≤ 24 → Ev (fun k => impl_LeastLasso.l1 k (p : Int) (lets s l 0 t) (lets s l t p)) (lets s l 0 t0, lets s l t0 p, true) := by
 have key : ∀ t, 1 ≤ t → rd (lets s l 0 t) (((lets s l 0 t).length : Int) - 1) = letter s l (t - 1) ∧ rd (lets s l t p) ((p : Int) - 1) = letter s l (t + (p - 1)) := fun t ht => by
  constructor
  ·rw [lets_length, show (t : Int) - 1 = ((t - 1 : Nat) : Int) by omega, rd_nat, lets_getD _ _ _ _ _ (by omega), Nat.zero_add]
  ·rw [show (p : Int) - 1 = ((p - 1 : Nat) : Int) by omega, rd_nat, lets_getD _ _ _ _ _ (by omega)]
 intro d
 induction d with
 | zero =>
  intro t e ht
  have : t = t0 := by omega
  subst this
  refine Ev.step (f := fun _ => some (lets s l 0 t, lets s l t p, true)) (fun k => ?_) (Ev.now _)
  simp only [impl_LeastLasso.l1]
  by_cases h0 : t = 0
  ·rw [if_neg (by rw [lets_length]; omega)]
  ·obtain ⟨k1, k2⟩ := key t (by omega)
   rw [if_pos (by rw [lets_length]; omega), if_pos (by omega), if_pos (by rw [lets_length]; omega), if_neg]
   rw [k1, k2]
   intro he
   have hn : Per s l (t - 1) p := fun k hk => by
    rcases Nat.lt_or_ge k t with hlt | hge
    ·have : k = t - 1 := by omega
     subst this
     rw [he]; congr 1; omega
    ·exact (hper t).2 (Nat.le_refl _) k hge
   have := (hper _).1 hn
   omega
 | succ d ih =>
  intro t e ht
  obtain ⟨k1, k2⟩ := key t (by omega)
  have hP : Per s l (t - 1) p := (hper _).2 (by omega)
  have he : letter s l (t - 1) = letter s l (t + (p - 1)) := by
   rw [← hP (t - 1) (Nat.le_refl _)]; congr 1; omega
  have e1 : (lets s l 0 t).take (((lets s l 0 t).length : Int) - 1).toNat = lets s l 0 (t - 1) := by
   rw [lets_length, show ((t : Int) - 1).toNat = t - 1 by omega]
   refine lets_ext s l (t - 1) 0 _ (by rw [List.length_take, lets_length]; omega) (fun i hi => ?_)
   rw [List.getD_eq_getElem?_getD, List.getElem?_take_of_lt hi, ← List.getD_eq_getElem?_getD, lets_getD _ _ _ _ _ (by omega)]
  have e2 : (lets s l t p).drop ((p : Int) - 1).toNat ++ (lets s l t p).take ((p : Int) - 1).toNat = lets s l (t - 1) p := by
   rw [show ((p : Int) - 1).toNat = p - 1 by omega]
   have hdl : ((lets s l t p).drop (p - 1)).length = 1 := by rw [List.length_drop, lets_length]; omega
   refine lets_ext s l p (t - 1) _ (by rw [List.length_append, hdl, List.length_take, lets_length]; omega) (fun i hi => ?_)
   rw [List.getD_eq_getElem?_getD]
   by_cases hi0 : i = 0
   ·subst hi0
    rw [List.getElem?_append_left (by omega), List.getElem?_drop, ← List.getD_eq_getElem?_getD, lets_getD _ _ _ _ _ (by omega), Nat.add_zero, Nat.add_zero, he]
   ·rw [List.getElem?_append_right (by omega), hdl, List.getElem?_take_of_lt (by omega), ← List.getD_eq_getElem?_getD, lets_getD _ _ _ _ _ (by omega)]
    congr 1; omega
  refine Ev.step (fun k => by simp only [impl_LeastLasso.l1]; rw [if_pos (by rw [lets_length]; omega), if_pos (by omega), if_pos (by rw [lets_length]; omega), if_pos (by rw [k1, k2, he]), e1, e2]) ?_
  exact ih (t - 1) (by omega) (by omega)
theorem impl_ll_l0 (h : GL s l) (p0 t0 : Nat) (hp : 1 ≤ p0) (hp2 : p0 ≤ l.length) (hdv : p0 ∣ l.length) (ht : t0 ≤ s.length) (hper : ∀ t, Per s l t p0 ↔ t0 ≤ t) (hno : ∀ q, 1 ≤ q → q < p0 → ¬ Per s l s.length q) : ∀ d p, 1 ≤ p → p + d = p0 → Ev (fun k => impl_LeastLasso.l0 k s l (p : Int)) (lets s l 0 t0, lets s l t0 p0, true) := by
 have h1 := h.1
 have h2 := h.2.1
 have h3 := h.2.2.1
 have htm : ∀ p : Nat, 1 ≤ p → (Int.tmod (l.length : Int) (p : Int) = 0 ↔ p ∣ l.length) := fun p hp => by
  rw [Int.tmod_eq_emod_of_nonneg (by omega)]
  constructor
  ·intro e
   exact Nat.dvd_of_mod_eq_zero (by omega)
  ·intro e
   have := Nat.mod_eq_zero_of_dvd e
   omega
 intro d
 induction d with
 | zero =>
  intro p hp1 e
  have : p = p0 := by omega
  subst this
  have hP := (hper s.length).2 ht
  have heq := (loop_per s l h p hp1 hdv hp2).2 hP
  have hcut : ((l.length : Int) - (p : Int)).toNat = l.length - p := by omega
  refine Ev.step (fun k => by simp only [impl_LeastLasso.l0]; rw [if_pos (by omega), if_pos ((htm p hp1).2 hdv), if_pos (by omega), Int.toNat_natCast, hcut]) ?_
  refine Ev.bind (tells_ev (sEqual_tells _ _ (by rw [List.length_drop]; omega)) heq) (ev_pos rfl ?_)
  refine Ev.bind (ev_const (cloneInt_eq _ (by omega))) (Ev.bind (ev_const (cloneInt_eq _ (by rw [List.length_take]; omega))) ?_)
  have e1 : lets s l 0 s.length = s := by
   have := stem_take s l h2 0 (by omega)
   simpa using this.symm
  have e2 : lets s l s.length p = l.take p := by
   refine (lets_ext s l p s.length _ (by rw [List.length_take]; omega) (fun i hi => ?_)).symm
   rw [List.getD_eq_getElem?_getD, List.getElem?_take_of_lt hi, ← List.getD_eq_getElem?_getD]
   simp only [letter]
   rw [if_neg (by omega), show s.length + i - s.length = i from by omega, Nat.mod_eq_of_lt (by omega)]
  have := impl_ll_l1 p t0 hp1 (by omega) hper (s.length - t0) s.length (by omega) (by omega)
  rw [e1, e2] at this
  exact this
 | succ d ih =>
  intro p hp1 e
  have hnext := ih (p + 1) (by omega) (by omega)
  have hn := hno p hp1 (by omega)
  by_cases hdp : p ∣ l.length
  ·have hle : p ≤ l.length := Nat.le_of_dvd (by omega) hdp
   have hcut : ((l.length : Int) - (p : Int)).toNat = l.length - p := by omega
   refine Ev.step (fun k => by simp only [impl_LeastLasso.l0]; rw [if_pos (by omega), if_pos ((htm p hp1).2 hdp), if_pos (by omega), Int.toNat_natCast, hcut, wsucc (by omega)]) ?_
   exact Ev.bind (tells_ev_not (sEqual_tells _ _ (by rw [List.length_drop]; omega)) (fun g => hn ((loop_per s l h p hp1 hdp hle).1 g))) (ev_neg (by simp) hnext)
  ·refine Ev.step (fun k => by simp only [impl_LeastLasso.l0]; rw [if_pos (by omega), if_neg (fun g => hdp ((htm p hp1).1 g)), wsucc (by omega)]) ?_
   exact hnext
end
theorem LeastLasso_both (s l : List Int) (hs : s.length ≤ 9223372036854775807) (hl : l.length ≤ 9223372036854775807) :
  ∃ r, Ev (fun k => spec_LeastLasso.f k s l) r ∧ Ev (fun k => impl_LeastLasso.f k s l) r ∧ r.1.length ≤ 24 ∧ r.2.1.length ≤ 24 := by
 by_cases h : GL s l
 ·have h1 := h.1
  have h2 := h.2.1
  have h3 := h.2.2.1
  obtain ⟨p, t, hp1, hp2, hd, ht, hper, hno⟩ := per_least s l h
  refine ⟨(lets s l 0 t, lets s l t p, true), ?_, ?_, by simp only [lets_length]; omega, by simp only [lets_length]; omega⟩
  ·exact Ev.bind (tells_ev (spec_GoodLasso_tells s l hs hl) h) (ev_pos rfl (spec_ll_l0 h p t hp1 hp2 ht hper hno (p - 1) 1 (by omega) (by omega)))
  ·exact Ev.bind (tells_ev (impl_GoodLasso_tells s l) h) (ev_pos rfl (impl_ll_l0 h p t hp1 hp2 hd ht hper hno (p - 1) 1 (by omega) (by omega)))
 ·exact ⟨([], [], false), Ev.bind (tells_ev_not (spec_GoodLasso_tells s l hs hl) h) (ev_neg (by simp) (Ev.now _)), Ev.bind (tells_ev_not (impl_GoodLasso_tells s l) h) (ev_neg (by simp) (Ev.now _)), by simp, by simp⟩
theorem eqIntS_l0 (l : List Int) (hl : l.length ≤ 9223372036854775807) (d : Nat) : ∀ (j : Nat), j + d = l.length → Ev (fun k => laws_eqIntS.l0 k l l (j : Int)) true := by
 induction d with
 | zero => exact fun j hd => Ev.step (f := fun _ => some true) (fun k => by simp only [laws_eqIntS.l0]; rw [if_neg (by omega)]) (Ev.now _)
 | succ d ih => exact fun j hd => Ev.step (fun k => by simp only [laws_eqIntS.l0, if_true]; rw [if_pos (by omega), if_pos (by omega), if_pos (by omega), wsucc (by omega)]) (ih (j + 1) (by omega))
theorem eqIntS_ev (l : List Int) (hl : l.length ≤ 9223372036854775807) : Ev (fun k => laws_eqIntS.f k l l) true :=
 Ev.congr (fun k => by simp only [laws_eqIntS.f, if_true]; rfl) (eqIntS_l0 l hl l.length 0 (by omega))
theorem eqLasso_ev (l m : List Int) (hl : l.length ≤ 9223372036854775807) (hm : m.length ≤ 9223372036854775807) : Ev (fun k => laws_eqLasso.f k l m l m) true :=
 Ev.bind (eqIntS_ev l hl) (ev_pos rfl (Ev.bind (eqIntS_ev m hm) (ev_pos rfl (Ev.now _))))
theorem markIntS_l0 (d : Nat) : ∀ (j : Nat) (y : List Int) (a : Int), j + d = y.length → y.length ≤ 1048576 → 0 ≤ a → a + d ≤ 4611686018427387904 → Ev (fun k => laws_markIntS.l0 k y a (j : Int)) (a + d, y.take j ++ cnt d a) := by
 induction d with
 | zero =>
  intro j y a hd hy h0 h1
  refine ev_eq (Ev.step (f := fun _ => some (a, y)) (fun k => by simp only [laws_markIntS.l0]; rw [if_neg (by omega)]) (Ev.now _)) ?_
  rw [List.take_of_length_le (by omega)]; simp [cnt]
 | succ d ih =>
  intro j y a hd hy h0 h1
  refine Ev.step (fun k => by simp only [laws_markIntS.l0]; rw [if_pos (by omega), if_pos (by omega), wsucc (by omega), wid (x := a + 1) (by omega) (by omega)]) ?_
  refine ev_eq (ih (j + 1) (y.set ((j : Int)).toNat a) (a + 1) (by simp; omega) (by simpa using hy) (by omega) (by omega)) ?_
  simp only [Int.toNat_natCast]
  rw [List.take_succ_eq_append_getElem (by simp; omega), List.take_set_of_le (Nat.le_refl j)]
  simp [cnt]; omega
theorem markIntS_ev (y : List Int) (a : Int) (hy : y.length ≤ 1048576) (h0 : 0 ≤ a) (h1 : a ≤ 2305843009213693952) : Ev (fun k => laws_markIntS.f k y a) (a + y.length, cnt y.length a) :=
 ev_eq (markIntS_l0 y.length 0 y a (by omega) hy h0 (by omega)) (by simp)
theorem markIntS_ev' (y : List Int) (a : Int) (hy : y.length ≤ 1048576) (h0 : 0 ≤ a) (h1 : a + y.length ≤ 4611686018427387904) : Ev (fun k => laws_markIntS.f k y a) (a + y.length, cnt y.length a) :=
 ev_eq (markIntS_l0 y.length 0 y a (by omega) hy h0 h1) (by simp)
theorem markLasso_ev (s l : List Int) (a : Int) (hs : s.length ≤ 1048576) (hl : l.length ≤ 1048576) (h0 : 0 ≤ a) (h1 : a ≤ 1099511627776) :
  Ev (fun k => laws_markLasso.f k s l a) (a + s.length + l.length, cnt s.length a, cnt l.length (a + s.length)) :=
 Ev.bind (markIntS_ev s a hs h0 (by omega)) (Ev.bind (markIntS_ev l (a + s.length) hl (by omega) (by omega)) (Ev.now _))
theorem heldIntS_l0 (y : List Int) (hy : y.length ≤ 1048576) (d : Nat) : ∀ (j : Nat) (a : Int), j + d = y.length → y.drop j = cnt d a → 0 ≤ a → a + d ≤ 4611686018427387904 → Ev (fun k => laws_heldIntS.l0 k y a (j : Int)) (a + d) := by
 induction d with
 | zero =>
  intro j a hd hc h0 h1
  exact ev_eq (Ev.step (f := fun _ => some a) (fun k => by simp only [laws_heldIntS.l0]; rw [if_neg (by omega)]) (Ev.now _)) (by omega)
 | succ d ih =>
  intro j a hd hc h0 h1
  rw [drop_cons (by omega) 0, cnt] at hc
  obtain ⟨h2, h3⟩ := List.cons.inj hc
  refine Ev.step (fun k => by simp only [laws_heldIntS.l0]; rw [if_pos (by omega), if_pos (by omega), rd_nat, if_pos h2, wsucc (by omega), wid (x := a + 1) (by omega) (by omega)]) ?_
  exact ev_eq (ih (j + 1) (a + 1) (by omega) h3 (by omega) (by omega)) (by omega)
theorem heldIntS_ev (n : Nat) (a : Int) (hn : n ≤ 1048576) (h0 : 0 ≤ a) (h1 : a ≤ 2305843009213693952) : Ev (fun k => laws_heldIntS.f k (cnt n a) a) (a + n) :=
 heldIntS_l0 (cnt n a) (by rw [cnt_length]; exact hn) n 0 a (by rw [cnt_length]; omega) (by simp) h0 (by omega)
theorem heldLasso_ev (n m : Nat) (a : Int) (hn : n ≤ 1048576) (hm : m ≤ 1048576) (h0 : 0 ≤ a) (h1 : a ≤ 1099511627776) : Ev (fun k => laws_heldLasso.f k (cnt n a) (cnt m (a + n)) a) (a + n + m) :=
 Ev.bind (heldIntS_ev n a hn h0 (by omega)) (ev_neg (by omega) (Ev.bind (heldIntS_ev m (a + n) hm (by omega) (by omega)) (ev_neg (by omega) (Ev.now _))))

theorem FnExactLeastLasso : ∀ (l0_0 : List (Int)) (l0_1 : List (Int)), (l0_0.length ≤ 9223372036854775807 ∧ ∀ x ∈ l0_0, In64 x) → (l0_1.length ≤ 9223372036854775807 ∧ ∀ x ∈ l0_1, In64 x) → ∃ k, laws_FnExactLeastLasso.f k l0_0 l0_1 = some true := by
  intro s l hs hl
  obtain ⟨t, ht, hp⟩ := szLasso_eq s l 1048576 (by omega) hs.1 hl.1
  refine Ev.rounds (Ev.bind (ev_const ht) ?_)
  by_cases h : t < 0
  · exact ev_pos h (Ev.now _)
  refine ev_neg h ?_
  obtain ⟨_, h1, h2⟩ := hp (by omega)
  obtain ⟨⟨b, c, ok⟩, hb, hb', hlen, hlen2⟩ := LeastLasso_both s l hs.1 hl.1
  have hlen : b.length ≤ 24 := hlen
  have hlen2 : c.length ≤ 24 := hlen2
  have ht := toLasso_ev s l (by omega) (by omega)
  have he := eqLasso_ev b c (by omega) (by omega)
  have hm := markLasso_ev b c 1 (by omega) (by omega) (by omega) (by omega)
  have hh := heldLasso_ev b.length c.length 1 (by omega) (by omega) (by omega) (by omega)
  refine Ev.bind ht (Ev.bind hb (Ev.bind ht (Ev.bind hb' (Ev.bind he (ev_pos rfl ?_)))))
  refine Ev.step (fun k => by simp only [laws_FnExactLeastLasso.j0]; rw [if_neg (by simp)]) ?_
  refine Ev.bind ht (Ev.bind (eqLasso_ev s l hs.1 hl.1) (ev_pos rfl ?_))
  refine Ev.bind (markLasso_ev s l 1 (by omega) (by omega) (by omega) (by omega)) (ev_neg (by simp only; omega) (Ev.bind he (ev_pos rfl ?_)))
  refine Ev.step (fun k => by simp only [laws_FnExactLeastLasso.j1]; rw [if_neg (by simp)]) ?_
  refine Ev.bind hm (Ev.bind hh (ev_neg (by omega) (ev_pos rfl ?_)))
  refine Ev.bind ht (Ev.bind hb' (Ev.bind he (ev_pos rfl ?_)))
  refine Ev.step (fun k => by simp only [laws_FnExactLeastLasso.j2]; rw [if_neg (by simp)]) ?_
  exact Ev.bind hh (ev_neg (by omega) (ev_pos rfl (Ev.now _)))

end Go.Proofs.Ytdbdibkiehldpaa.Pure
