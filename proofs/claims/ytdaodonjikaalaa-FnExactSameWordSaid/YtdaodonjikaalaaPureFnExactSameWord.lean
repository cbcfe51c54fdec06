/- The pure statement of the law FnExactSameWord: what the printed functions compute makes the law true, for every input. No condition. -/
import Derived.Test.YtdaodonjikaalaaOpen
import Derived.Test.YtdaodonjikaalaaAid
import Derived.Test.YtdaodonjikaalaaP68
set_option linter.unusedVariables false
set_option linter.unusedSimpArgs false
namespace Go.Proofs.Ytdaodonjikaalaa.Pure
open Go.RowKit Go.Proofs.YtdaodonjikaalaaW.PrintWords Go.Proofs.Ytdaodonjikaalaa.P Go.Proofs.Ytdaodonjikaalaa.Hof Go.Proofs.Ytdaodonjikaalaa.Open Go.Proofs.Ytdaodonjikaalaa.Aid
-- LEMMAS
theorem szIntS_eq (l : List Int) (a : Int) (ha : 0 ≤ a ∧ a ≤ 1048576) (hl : l.length ≤ 9223372036854775807) : laws_szIntS.f l a = some (if (l.length : Int) ≤ a then a - l.length else -1) := by
  have e : wrap64 (a - (l.length : Int)) = a - l.length := wid (by omega) (by omega)
  simp only [laws_szIntS.f]
  rw [e]
  by_cases h : (l.length : Int) ≤ a
  · rw [if_neg (by omega), if_pos h]
  · rw [if_pos (by omega), if_neg h]

theorem szLasso_eq (l m : List Int) (a : Int) (ha : 0 ≤ a ∧ a ≤ 1048576) (hl : l.length ≤ 9223372036854775807) (hm : m.length ≤ 9223372036854775807) :
    ∃ t, laws_szLasso.f l m a = some t ∧ (0 ≤ t → t ≤ a ∧ (l.length : Int) ≤ a ∧ (m.length : Int) ≤ a) := by
  simp only [laws_szLasso.f]
  rw [szIntS_eq l a ha hl]
  simp only [Option.bind_some]
  by_cases h : (l.length : Int) ≤ a
  · rw [if_pos h, if_neg (by omega), szIntS_eq m _ (by omega) hm]
    simp only [Option.bind_some]
    by_cases h2 : (m.length : Int) ≤ a - l.length
    · rw [if_pos h2, if_neg (by omega)]; exact ⟨_, rfl, fun _ => by omega⟩
    · rw [if_neg h2, if_pos (by omega)]; exact ⟨-1, rfl, fun h => by omega⟩
  · rw [if_neg h, if_pos (by omega)]; exact ⟨-1, rfl, fun h => by omega⟩

theorem toIntS_l0 (l : List Int) (hl : l.length ≤ 1048576) (d : Nat) : ∀ (j : Nat) (y : List Int), y.length = l.length → j + d = l.length → Ev (fun k => laws_toIntS.l0 k l y (j : Int)) (y.take j ++ l.drop j) := by
  induction d with
  | zero =>
    intro j y hy hd
    rw [take_all_drop hy (by omega)]
    exact Ev.step (f := fun _ => some y) (fun k => by simp only [laws_toIntS.l0]; rw [if_neg (by omega)]) (Ev.now y)
  | succ d ih =>
    intro j y hy hd
    refine Ev.step (f := fun k => laws_toIntS.l0 k l (y.set j (rd l (j : Int))) ((j + 1 : Nat) : Int)) (fun k => by simp only [laws_toIntS.l0]; rw [if_pos (by omega), if_pos (by omega), if_pos (by omega), wsucc (by omega)]; rfl) ?_
    refine ev_eq (ih (j + 1) _ (by simpa using hy) (by omega)) (copy_step (by omega) (by omega) ?_)
    rw [rd_nat, getD_eq (by omega), getD_eq (by omega)]
theorem toIntS_ev (l : List Int) (hl : l.length ≤ 1048576) : Ev (fun k => laws_toIntS.f k l) l := by
  refine Ev.congr (f := fun k => laws_toIntS.l0 k l (List.replicate l.length 0) ((0 : Nat) : Int)) (fun k => by simp only [laws_toIntS.f]; rw [if_pos (by omega), if_pos (by simp only [Int.toNat_natCast]; omega)]; rfl) ?_
  exact ev_eq (toIntS_l0 l hl l.length 0 _ (by simp) (by omega)) (by simp)

theorem toLasso_ev (l m : List Int) (hl : l.length ≤ 1048576) (hm : m.length ≤ 1048576) : Ev (fun k => laws_toLasso.f k l m) (l, m) :=
  Ev.bind (toIntS_ev l hl) (Ev.bind (toIntS_ev m hm) (Ev.now _))

theorem eqIntS_l0 (l : List Int) (hl : l.length ≤ 9223372036854775807) (d : Nat) : ∀ (j : Nat), j + d = l.length → Ev (fun k => laws_eqIntS.l0 k l l (j : Int)) true := by
  induction d with
  | zero => exact fun j hd => Ev.step (f := fun _ => some true) (fun k => by simp only [laws_eqIntS.l0]; rw [if_neg (by omega)]) (Ev.now _)
  | succ d ih => exact fun j hd => Ev.step (fun k => by simp only [laws_eqIntS.l0, if_true]; rw [if_pos (by omega), if_pos (by omega), if_pos (by omega), wsucc (by omega)]) (ih (j + 1) (by omega))
theorem eqIntS_ev (l : List Int) (hl : l.length ≤ 9223372036854775807) : Ev (fun k => laws_eqIntS.f k l l) true :=
  Ev.congr (fun k => by simp only [laws_eqIntS.f, if_true]; rfl) (eqIntS_l0 l hl l.length 0 (by omega))

theorem eqLasso_ev (l m : List Int) (hl : l.length ≤ 9223372036854775807) (hm : m.length ≤ 9223372036854775807) : Ev (fun k => laws_eqLasso.f k l m l m) true :=
  Ev.bind (eqIntS_ev l hl) (ev_pos rfl (Ev.bind (eqIntS_ev m hm) (ev_pos rfl (Ev.now _))))

theorem l1In_eq (n lo hi : Int) : spec_l1In.f n lo hi = some (decide (lo ≤ n ∧ n ≤ hi)) := by
  simp only [spec_l1In.f]
  by_cases h : n ≥ lo
  · rw [if_pos h]; congr 1; simp; intro _; exact h
  · rw [if_neg h]; congr 1; simp; intro h'; omega
theorem l1In_tells (n lo hi : Int) : Tells (fun _ => spec_l1In.f n lo hi) (lo ≤ n ∧ n ≤ hi) := by
  simp only [l1In_eq]; exact tells_some (by simp)

theorem l1All_l0 (l : List Int) (lo hi : Int) (hl : l.length ≤ 9223372036854775807) (d : Nat) : ∀ (j : Nat), j + d = l.length →
    Tells (fun k => spec_l1All.l0 k lo hi l (l.length : Int) (j : Int)) (∀ x ∈ l.drop j, lo ≤ x ∧ x ≤ hi) := by
  induction d with
  | zero => exact fun j hd => tells_step (f := fun _ => some true) (fun k => by simp only [spec_l1All.l0]; rw [if_neg (by omega)]) (tells_yes (by rw [List.drop_of_length_le (by omega)]; simp))
  | succ d ih =>
    intro j hd
    have hj : j < l.length := by omega
    refine tells_step (fun k => by simp only [spec_l1All.l0]; rw [if_pos (by omega), if_pos (by omega), if_pos (by omega), wsucc (by omega), rd_nat]) ?_
    rw [drop_cons hj 0]
    refine tells_ask (l1In_tells _ lo hi) (fun hin => tells_pos rfl ?_) (fun hin => tells_neg (by simp) (tells_no (fun h => hin (h _ (by simp)))))
    exact tells_iff (ih (j + 1) (by omega)) ⟨fun h x hx => by
      rcases List.mem_cons.1 hx with rfl | hx
      · exact hin
      · exact h x hx, fun h x hx => h x (by simp [hx])⟩
theorem l1All_tells (l : List Int) (lo hi : Int) (hl : l.length ≤ 9223372036854775807) : Tells (fun k => spec_l1All.f k l lo hi) (∀ x ∈ l, lo ≤ x ∧ x ≤ hi) := by
  have := l1All_l0 l lo hi hl l.length 0 (by omega)
  rwa [List.drop_zero] at this

def Letters (l : List Int) : Prop := ∀ x ∈ l, 0 ≤ x ∧ x ≤ 7
/-- A valid lasso: stem and loop. -/
def GL (s l : List Int) : Prop := s.length ≤ 24 ∧ 1 ≤ l.length ∧ l.length ≤ 24 ∧ Letters s ∧ Letters l
theorem spec_GoodLasso_tells (s l : List Int) (hs : s.length ≤ 9223372036854775807) (hl : l.length ≤ 9223372036854775807) : Tells (fun k => spec_GoodLasso.f k s l) (GL s l) := by
  refine tells_if (fun h => ?_) (fun h => tells_no (fun g => by have := g.1; omega))
  refine tells_ask (l1In_tells _ _ _) (fun h2 => tells_pos rfl ?_) (fun h2 => tells_neg (by simp) (tells_no (fun g => h2 ⟨by have := g.2.1; omega, by have := g.2.2.1; omega⟩)))
  refine tells_ask (l1All_tells s 0 7 hs) (fun h3 => tells_pos rfl ?_) (fun h3 => tells_neg (by simp) (tells_no (fun g => h3 g.2.2.2.1)))
  exact tells_ask (l1All_tells l 0 7 hl) (fun h4 => tells_yes ⟨by omega, by omega, by omega, h3, h4⟩) (fun h4 => tells_no (fun g => h4 g.2.2.2.2))

/-- The letter at a place of the word. -/
def letter (s l : List Int) (k : Nat) : Int := if k < s.length then s.getD k 0 else l.getD ((k - s.length) % l.length) 0
theorem letter_at_body (s l : List Int) (h : GL s l) (k : Nat) (hk : k ≤ 1048576) : (if (k : Int) < (s.length : Int) then (if 0 ≤ (k : Int) then (some (rd s (k : Int))) else (none)) else (if (l.length : Int) = 0 then (none) else (if 0 ≤ (Int.tmod (wrap64 ((k : Int) - (s.length : Int))) (l.length : Int)) then (if (Int.tmod (wrap64 ((k : Int) - (s.length : Int))) (l.length : Int)) < (l.length : Int) then (some (rd l (Int.tmod (wrap64 ((k : Int) - (s.length : Int))) (l.length : Int)))) else (none)) else (none)))) = some (letter s l k) := by
  have h1 := h.1
  have h2 := h.2.1
  by_cases hs : k < s.length
  · rw [if_pos (by omega), if_pos (by omega), rd_nat]
    simp only [letter, if_pos hs]
  · rw [if_neg (by omega), if_neg (by omega), wid (by omega) (by omega)]
    have e1 : (k : Int) - (s.length : Int) = ((k - s.length : Nat) : Int) := by omega
    have e2 : Int.tmod ((k - s.length : Nat) : Int) (l.length : Int) = (((k - s.length) % l.length : Nat) : Int) := by
      rw [Int.tmod_eq_emod_of_nonneg (by omega)]; rfl
    have h3 : (k - s.length) % l.length < l.length := Nat.mod_lt _ (by omega)
    rw [e1, e2, if_pos (by omega), if_pos (by omega), rd_nat]
    simp only [letter, if_neg hs]
theorem l9At_eq (s l : List Int) (h : GL s l) (k : Nat) (hk : k ≤ 1048576) : spec_l9At.f s l (k : Int) = some (letter s l k) := letter_at_body s l h k hk

/-- So many letters from a place on. -/
def lets (s l : List Int) : Nat → Nat → List Int
  | _, 0 => []
  | j, d + 1 => letter s l j :: lets s l (j + 1) d
theorem lets_length (s l : List Int) : ∀ d j, (lets s l j d).length = d
  | 0, _ => rfl
  | d + 1, j => by simp [lets, lets_length s l d]
theorem lets_getD (s l : List Int) : ∀ d j i, i < d → (lets s l j d).getD i 0 = letter s l (j + i)
  | 0, _, _, h => by omega
  | d + 1, j, 0, _ => by simp [lets]
  | d + 1, j, i + 1, h => by
    have := lets_getD s l d (j + 1) i (by omega)
    simp only [lets, List.getD_cons_succ]
    rw [this]; congr 1; omega
theorem l9First_l0 (s l : List Int) (h : GL s l) (a n : Nat) (hn : a + n ≤ 1048576) (d : Nat) : ∀ (j : Nat) (out : List Int), out.length ≤ j → j + d = a + n →
    Ev (fun k => spec_l9First.l0 k (a : Int) (n : Int) out (j : Int) s l) (out ++ lets s l j d) := by
  induction d with
  | zero =>
    intro j out ho hd
    exact Ev.step (f := fun _ => some (out ++ lets s l j 0)) (fun k => by simp only [spec_l9First.l0]; rw [if_neg (by rw [wid (by omega) (by omega)]; omega)]; simp [lets]) (Ev.now _)
  | succ d ih =>
    intro j out ho hd
    refine Ev.step (fun k => by simp only [spec_l9First.l0]; rw [if_pos (by rw [wid (by omega) (by omega)]; omega), l9At_eq s l h j (by omega), wsucc (by omega)]) ?_
    refine Ev.bind (Ev.now _) (ev_pos (by omega) ?_)
    exact ev_eq (ih (j + 1) (out ++ [letter s l j]) (by simp; omega) (by omega)) (by simp [lets])
theorem l9First_ev (s l : List Int) (h : GL s l) (a n : Nat) (hn : a + n ≤ 1048576) : Ev (fun k => spec_l9First.f k s l (a : Int) (n : Int)) (lets s l a n) :=
  ev_eq (l9First_l0 s l h a n hn n a [] (by simp) rfl) (by simp)

theorem l1Same_l0 (x y : List Int) (hx : x.length ≤ 9223372036854775807) (hy : x.length = y.length) (d : Nat) : ∀ (j : Nat), j + d = x.length →
    Tells (fun k => spec_l1Same.l0 k x y (x.length : Int) (j : Int)) (x.drop j = y.drop j) := by
  induction d with
  | zero => exact fun j hd => tells_step (f := fun _ => some true) (fun k => by simp only [spec_l1Same.l0]; rw [if_neg (by omega)]) (tells_yes (by rw [List.drop_of_length_le (by omega), List.drop_of_length_le (by omega)]))
  | succ d ih =>
    intro j hd
    refine tells_step (fun k => by simp only [spec_l1Same.l0]; rw [if_pos (by omega), if_pos (by omega), if_pos (by omega), if_pos (by omega), wsucc (by omega), rd_nat, rd_nat]) ?_
    rw [drop_cons (l := x) (by omega) 0, drop_cons (l := y) (by omega) 0]
    exact tells_if (fun h => tells_iff (ih (j + 1) (by omega)) ⟨fun g => by rw [h, g], fun g => (List.cons.inj g).2⟩) (fun h => tells_no (fun g => h (List.cons.inj g).1))
theorem l1Same_tells (x y : List Int) (hx : x.length ≤ 9223372036854775807) : Tells (fun k => spec_l1Same.f k x y) (x = y) := by
  refine tells_if (fun h => ?_) (fun h => tells_no (fun g => h (by rw [g])))
  have := l1Same_l0 x y hx (by omega) x.length 0 (by omega)
  rwa [List.drop_zero, List.drop_zero] at this

theorem areLetters_tells (l : List Int) : Tells (fun _ => impl_areLetters.f l) (Letters l) := by
  have h1 : Tells (fun _ => anyO (fun x_ => impl_areLetters_1.f x_) l) (∃ x ∈ l, x < 0 ∨ 8 ≤ x) := by
    refine anyO_tells (q := fun _ x => impl_areLetters_1.f x) l (fun x _ => ?_)
    exact tells_if (fun h => tells_yes (.inl h)) (fun h => tells_some (by simp; omega))
  refine tells_ask h1 (fun ⟨x, hx, hp⟩ => tells_no (fun g => by have := g x hx; omega)) (fun h => tells_yes (fun x hx => ?_))
  rcases Int.lt_or_le x 0 with h2 | h2
  · exact absurd ⟨x, hx, .inl h2⟩ h
  · rcases Int.lt_or_le x 8 with h3 | h3
    · omega
    · exact absurd ⟨x, hx, .inr h3⟩ h

theorem impl_GoodLasso_tells (s l : List Int) : Tells (fun _ => impl_GoodLasso.f s l) (GL s l) := by
  refine tells_if (fun h => ?_) (fun h => tells_no (fun g => by have := g.1; omega))
  refine tells_if (fun h2 => ?_) (fun h2 => tells_no (fun g => by have := g.2.1; omega))
  refine tells_if (fun h3 => ?_) (fun h3 => tells_no (fun g => by have := g.2.2.1; omega))
  refine tells_ask (areLetters_tells s) (fun h4 => tells_pos rfl ?_) (fun h4 => tells_neg (by simp) (tells_no (fun g => h4 g.2.2.2.1)))
  exact tells_ask (areLetters_tells l) (fun h5 => tells_yes ⟨by omega, by omega, by omega, h4, h5⟩) (fun h5 => tells_no (fun g => h5 g.2.2.2.2))

theorem letterAt_eq (s l : List Int) (h : GL s l) (k : Nat) (hk : k ≤ 1048576) : impl_Lasso_letterAt.f s l (k : Int) = some (letter s l k) := letter_at_body s l h k hk

theorem unroll_l0 (s l : List Int) (h : GL s l) (n : Nat) (hn : n ≤ 1048576) (d : Nat) : ∀ (j : Nat) (out : List Int), out.length ≤ j → j + d = n →
    Ev (fun k => impl_Lasso_unroll.l0 k out (n : Int) (j : Int) s l) (out ++ lets s l j d) := by
  induction d with
  | zero =>
    intro j out ho hd
    exact Ev.step (f := fun _ => some (out ++ lets s l j 0)) (fun k => by simp only [impl_Lasso_unroll.l0]; rw [if_neg (by omega)]; simp [lets]) (Ev.now _)
  | succ d ih =>
    intro j out ho hd
    refine Ev.step (fun k => by simp only [impl_Lasso_unroll.l0]; rw [if_pos (by omega), letterAt_eq s l h j (by omega), wsucc (by omega)]) ?_
    refine Ev.bind (Ev.now _) (ev_pos (by omega) ?_)
    exact ev_eq (ih (j + 1) (out ++ [letter s l j]) (by simp; omega) (by omega)) (by simp [lets])
theorem unroll_ev (s l : List Int) (h : GL s l) (n : Nat) (hn : n ≤ 1048576) : Ev (fun k => impl_Lasso_unroll.f k s l (n : Int)) (lets s l 0 n) :=
  ev_eq (unroll_l0 s l h n hn n 0 [] (by simp) (by omega)) (by simp)

theorem sEqual_l0 (x y : List Int) (hx : x.length ≤ 9223372036854775807) (hy : x.length = y.length) (d : Nat) : ∀ (j : Nat), j + d = x.length →
    Tells (fun k => slices_Equal_int_int.l0 k x y (x.length : Int) (j : Int)) (x.drop j = y.drop j) := by
  induction d with
  | zero => exact fun j hd => tells_step (f := fun _ => some true) (fun k => by simp only [slices_Equal_int_int.l0]; rw [if_neg (by omega)]) (tells_yes (by rw [List.drop_of_length_le (by omega), List.drop_of_length_le (by omega)]))
  | succ d ih =>
    intro j hd
    refine tells_step (fun k => by simp only [slices_Equal_int_int.l0]; rw [if_pos (by omega), if_pos (by omega), if_pos (by omega), if_pos (by omega), wsucc (by omega), rd_nat, rd_nat]) ?_
    rw [drop_cons (l := x) (by omega) 0, drop_cons (l := y) (by omega) 0]
    exact tells_if (fun h => tells_iff (ih (j + 1) (by omega)) ⟨fun g => by rw [h, g], fun g => (List.cons.inj g).2⟩) (fun h => tells_no (fun g => h (List.cons.inj g).1))
theorem sEqual_tells (x y : List Int) (hx : x.length ≤ 9223372036854775807) : Tells (fun k => slices_Equal_int_int.f k x y) (x = y) := by
  refine tells_if (fun h => ?_) (fun h => tells_no (fun g => h (by rw [g])))
  have := sEqual_l0 x y hx (by omega) x.length 0 (by omega)
  rwa [List.drop_zero, List.drop_zero] at this

theorem letter_per (s l : List Int) (h : GL s l) (k m : Nat) (hk : s.length ≤ k) : letter s l (k + l.length * m) = letter s l k := by
  simp only [letter]
  rw [if_neg (by omega), if_neg (by omega)]
  rw [show k + l.length * m - s.length = (k - s.length) + l.length * m from by omega, Nat.add_mul_mod_self_left]
theorem same_on (s l s' l' : List Int) (h : GL s l) (h' : GL s' l') (hs : ∀ k, k < 600 → letter s l k = letter s' l' k) (k : Nat) : letter s l k = letter s' l' k := by
  by_cases hk : k < 600
  · exact hs k hk
  · have hp : 0 < l.length * l'.length := Nat.mul_pos (by have := h.2.1; omega) (by have := h'.2.1; omega)
    have hq : l.length * l'.length ≤ 24 * 24 := Nat.mul_le_mul h.2.2.1 h'.2.2.1
    have hm : (k - 24) % (l.length * l'.length) < l.length * l'.length := Nat.mod_lt _ hp
    have he : k = 24 + (k - 24) % (l.length * l'.length) + l.length * l'.length * ((k - 24) / (l.length * l'.length)) := by
      have := Nat.mod_add_div (k - 24) (l.length * l'.length); omega
    have h1 := h.1
    have h1' := h'.1
    have e1 := letter_per s l h (24 + (k - 24) % (l.length * l'.length)) (l'.length * ((k - 24) / (l.length * l'.length))) (by omega)
    have e2 := letter_per s' l' h' (24 + (k - 24) % (l.length * l'.length)) (l.length * ((k - 24) / (l.length * l'.length))) (by omega)
    rw [← Nat.mul_assoc, ← he] at e1
    rw [← Nat.mul_assoc, Nat.mul_comm l'.length l.length, ← he] at e2
    rw [e1, e2]
    exact hs _ (by omega)
theorem lets_eq_iff (s l s' l' : List Int) (n : Nat) : lets s l 0 n = lets s' l' 0 n ↔ ∀ k, k < n → letter s l k = letter s' l' k := by
  constructor
  · intro h k hk
    have e1 := lets_getD s l n 0 k hk
    have e2 := lets_getD s' l' n 0 k hk
    rw [Nat.zero_add] at e1 e2
    rw [← e1, ← e2, h]
  · intro h
    refine List.ext_getElem (by rw [lets_length, lets_length]) (fun k h1 h2 => ?_)
    rw [lets_length] at h1
    rw [← getD_eq (by rw [lets_length]; exact h1) 0, ← getD_eq (by rw [lets_length]; exact h1) 0, lets_getD _ _ _ _ _ h1, lets_getD _ _ _ _ _ h1, Nat.zero_add]
    exact h k h1
theorem SameWord_both (s l s' l' : List Int) (hs : s.length ≤ 9223372036854775807) (hl : l.length ≤ 9223372036854775807) (hs' : s'.length ≤ 9223372036854775807) (hl' : l'.length ≤ 9223372036854775807) : ∃ r, Ev (fun k => spec_SameWord.f k s l s' l') r ∧ Ev (fun k => impl_SameWord.f k s l s' l') r := by
  by_cases h : GL s l
  · by_cases h' : GL s' l'
    · have t1 : Tells (fun k => spec_l9Same.f k s l s' l') (∀ k, letter s l k = letter s' l' k) := by
        refine tells_bind (l9First_ev s l h 0 600 (by omega)) (tells_bind (l9First_ev s' l' h' 0 600 (by omega)) ?_)
        refine tells_iff (tells_ask (l1Same_tells _ _ (by rw [lets_length]; omega)) (fun h => tells_yes h) (fun h => tells_no h)) ?_
        rw [lets_eq_iff]
        exact ⟨fun g => same_on s l s' l' h h' g, fun g k _ => g k⟩
      have t2 : Tells (fun k => (impl_Lasso_unroll.f k s l 1176).bind fun t => (impl_Lasso_unroll.f k s' l' 1176).bind fun t' => slices_Equal_int_int.f k t t') (∀ k, letter s l k = letter s' l' k) := by
        refine tells_bind (unroll_ev s l h 1176 (by omega)) (tells_bind (unroll_ev s' l' h' 1176 (by omega)) ?_)
        refine tells_iff (sEqual_tells _ _ (by rw [lets_length]; omega)) ?_
        rw [lets_eq_iff]
        exact ⟨fun g => same_on s l s' l' h h' (fun k hk => g k (by omega)), fun g k _ => g k⟩
      obtain ⟨b, hb, hb'⟩ := tells_both t1 t2
      refine ⟨(b, true), Ev.bind (tells_ev (spec_GoodLasso_tells s l hs hl) h) (ev_pos rfl (Ev.bind (tells_ev (spec_GoodLasso_tells s' l' hs' hl') h') (ev_pos rfl (Ev.bind hb (Ev.now _))))), ?_⟩
      refine Ev.bind (tells_ev (impl_GoodLasso_tells s l) h) (ev_pos rfl (Ev.bind (tells_ev (impl_GoodLasso_tells s' l') h') ?_))
      refine Ev.step (fun k => by simp only [impl_SameWord.j0]; rw [if_neg (by simp)]) ?_
      refine Ev.bind (unroll_ev s l h 1176 (by omega)) (Ev.bind (unroll_ev s' l' h' 1176 (by omega)) ?_)
      have t3 := sEqual_tells (lets s l 0 1176) (lets s' l' 0 1176) (by rw [lets_length]; omega)
      obtain ⟨c, hc, _⟩ := t3
      have : c = b := ev_uniq (Ev.bind (unroll_ev s l h 1176 (by omega)) (Ev.bind (unroll_ev s' l' h' 1176 (by omega)) hc)) hb'
      subst this
      exact Ev.bind hc (Ev.now _)
    · refine ⟨(false, false), Ev.bind (tells_ev (spec_GoodLasso_tells s l hs hl) h) (ev_pos rfl (Ev.bind (tells_ev_not (spec_GoodLasso_tells s' l' hs' hl') h') (ev_neg (by simp) (Ev.now _)))), ?_⟩
      refine Ev.bind (tells_ev (impl_GoodLasso_tells s l) h) (ev_pos rfl (Ev.bind (tells_ev_not (impl_GoodLasso_tells s' l') h') ?_))
      exact Ev.step (f := fun _ => some (false, false)) (fun k => by simp only [impl_SameWord.j0]; rw [if_pos (by simp)]) (Ev.now _)
  · refine ⟨(false, false), Ev.bind (tells_ev_not (spec_GoodLasso_tells s l hs hl) h) (ev_neg (by simp) (Ev.now _)), ?_⟩
    refine Ev.bind (tells_ev_not (impl_GoodLasso_tells s l) h) (ev_neg (by simp) ?_)
    exact Ev.step (f := fun _ => some (false, false)) (fun k => by simp only [impl_SameWord.j0, if_true]) (Ev.now _)

theorem FnExactSameWord : ∀ (l0_0 : List (Int)) (l0_1 : List (Int)) (l1_0 : List (Int)) (l1_1 : List (Int)), (l0_0.length ≤ 9223372036854775807 ∧ ∀ x ∈ l0_0, In64 x) → (l0_1.length ≤ 9223372036854775807 ∧ ∀ x ∈ l0_1, In64 x) → (l1_0.length ≤ 9223372036854775807 ∧ ∀ x ∈ l1_0, In64 x) → (l1_1.length ≤ 9223372036854775807 ∧ ∀ x ∈ l1_1, In64 x) → ∃ k, laws_FnExactSameWord.f k l0_0 l0_1 l1_0 l1_1 = some true := by
  intro s l s' l' hs hl hs' hl'
  obtain ⟨t, ht, hp⟩ := szLasso_eq s l 1048576 (by omega) hs.1 hl.1
  refine Ev.rounds (Ev.bind (ev_const ht) ?_)
  by_cases h : t < 0
  · exact ev_pos h (Ev.now _)
  refine ev_neg h ?_
  obtain ⟨h0, h1, h2⟩ := hp (by omega)
  obtain ⟨t', ht', hp'⟩ := szLasso_eq s' l' t (by omega) hs'.1 hl'.1
  refine Ev.bind (ev_const ht') ?_
  by_cases h' : t' < 0
  · exact ev_pos h' (Ev.now _)
  refine ev_neg h' ?_
  obtain ⟨_, h1', h2'⟩ := hp' (by omega)
  obtain ⟨⟨b, ok⟩, hb, hb'⟩ := SameWord_both s l s' l' hs.1 hl.1 hs'.1 hl'.1
  have ht := toLasso_ev s l (by omega) (by omega)
  have ht' := toLasso_ev s' l' (by omega) (by omega)
  refine Ev.bind ht (Ev.bind ht' (Ev.bind hb (Ev.bind ht (Ev.bind ht' (Ev.bind hb' (ev_neg (by simp) ?_))))))
  refine Ev.step (fun k => by simp only [laws_FnExactSameWord.j0]; rw [if_neg (by simp)]) ?_
  exact Ev.bind ht (Ev.bind (eqLasso_ev s l hs.1 hl.1) (ev_pos rfl (Ev.bind ht' (Ev.bind (eqLasso_ev s' l' hs'.1 hl'.1) (ev_pos rfl (Ev.now _))))))

end Go.Proofs.Ytdaodonjikaalaa.Pure
