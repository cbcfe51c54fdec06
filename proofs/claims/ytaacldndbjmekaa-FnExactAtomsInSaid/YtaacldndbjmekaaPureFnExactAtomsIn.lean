/- The pure statement of the law FnExactAtomsIn: what the printed functions compute makes the law true, for every input. No condition. -/
import Derived.Test.YtaacldndbjmekaaOpen
import Derived.Test.YtaacldndbjmekaaAid
import Derived.Test.YtaacldndbjmekaaP43
set_option linter.unusedVariables false
set_option linter.unusedSimpArgs false
namespace Go.Proofs.Ytaacldndbjmekaa.Pure
open Go.RowKit Go.Proofs.YtaacldndbjmekaaW.PrintWords Go.Proofs.Ytaacldndbjmekaa.P Go.Proofs.Ytaacldndbjmekaa.Hof Go.Proofs.Ytaacldndbjmekaa.Open Go.Proofs.Ytaacldndbjmekaa.Aid
-- LEMMAS
theorem szSaidS_eq (l : List S62) (hl : l.length ≤ 9223372036854775807) : laws_szSaidS.f l 1048576 = some (if l.length ≤ 1048576 then 1048576 - (l.length : Int) else -1) := by
 have e : wrap64 (1048576 - (l.length : Int)) = 1048576 - l.length := wid (by omega) (by omega)
 simp only [laws_szSaidS.f]
 rw [e]
 by_cases h : l.length ≤ 1048576
 ·rw [if_neg (by omega), if_pos h]
 ·rw [if_pos (by omega), if_neg h]
theorem szSaidS_eq2 (l : List S62) (n : Int) (hl : l.length ≤ 9223372036854775807) (h0 : 0 ≤ n) (h1 : n ≤ 1048576) : laws_szSaidS.f l n = some (if (l.length : Int) ≤ n then n - (l.length : Int) else -1) := by
 have e : wrap64 (n - (l.length : Int)) = n - l.length := wid (by omega) (by omega)
 simp only [laws_szSaidS.f]
 rw [e]
 by_cases h : (l.length : Int) ≤ n
 ·rw [if_neg (by omega), if_pos h]
 ·rw [if_pos (by omega), if_neg h]
theorem l1In_eq (n lo hi : Int) : spec_l1In.f n lo hi = some (decide (lo ≤ n ∧ n ≤ hi)) := by
 simp only [spec_l1In.f]
 by_cases h : n ≥ lo
 ·rw [if_pos h]; congr 1; simp; intro _; exact h
 ·rw [if_neg h]; congr 1; simp; intro h'; omega
theorem l1In_tells (n lo hi : Int) : Tells (fun _ => spec_l1In.f n lo hi) (lo ≤ n ∧ n ≤ hi) := by
 simp only [l1In_eq]; exact tells_some (by simp)
def needS (op : Int) : Int := if op = 1 ∨ op = 2 then 0 else if op = 3 ∨ op = 4 then 1 else if op = 5 ∨ op = 6 ∨ op = 7 ∨ op = 8 then 2 else -1
def nOk (x : S59) : Prop := if x.f0 = 1 then 0 ≤ x.f1 ∧ x.f1 ≤ 2 else if x.f0 = 2 then 0 ≤ x.f1 ∧ x.f1 ≤ 1 else x.f1 = 0
def gs : List S59 → Int → Prop
 | [], c => c = 1
 | x :: t, c => 0 ≤ needS x.f0 ∧ nOk x ∧ needS x.f0 ≤ c ∧ gs t (c + (1 - needS x.f0))
def GoodS (l : List S59) : Prop := 1 ≤ l.length ∧ l.length ≤ 16 ∧ gs l 0
theorem need_cases (op : Int) : (needS op = 0 ∧ (op = 1 ∨ op = 2)) ∨ (needS op = 1 ∧ (op = 3 ∨ op = 4)) ∨ (needS op = 2 ∧ (op = 5 ∨ op = 6 ∨ op = 7 ∨ op = 8)) ∨ (needS op = -1 ∧ op ≠ 1 ∧ op ≠ 2 ∧ op ≠ 3 ∧ op ≠ 4 ∧ op ≠ 5 ∧ op ≠ 6 ∧ op ≠ 7 ∧ op ≠ 8) := by
 unfold needS
 by_cases h1 : op = 1 ∨ op = 2
 ·rw [if_pos h1]; exact .inl ⟨rfl, h1⟩
 rw [if_neg h1]
 by_cases h2 : op = 3 ∨ op = 4
 ·rw [if_pos h2]; exact .inr (.inl ⟨rfl, h2⟩)
 rw [if_neg h2]
 by_cases h3 : op = 5 ∨ op = 6 ∨ op = 7 ∨ op = 8
 ·rw [if_pos h3]; exact .inr (.inr (.inl ⟨rfl, h3⟩))
 rw [if_neg h3]
 exact .inr (.inr (.inr ⟨rfl, by omega, by omega, by omega, by omega, by omega, by omega, by omega, by omega⟩))
theorem need_le (op : Int) : -1 ≤ needS op ∧ needS op ≤ 2 := by rcases need_cases op with ⟨h, _⟩ | ⟨h, _⟩ | ⟨h, _⟩ | ⟨h, _⟩ <;> omega
theorem l10Need_ev (op : Int) : Ev (fun k => spec_l10Need.f k op) (needS op) := by
 refine ev_from 2 (fun m => ?_)
 simp only [spec_l10Need.f, spec_l10Need.j0, spec_l10Need.j1]
 rcases need_cases op with ⟨e, h⟩ | ⟨e, h⟩ | ⟨e, h⟩ | ⟨e, h⟩ <;> rw [e]
 ·rcases h with rfl | rfl <;> simp
 ·rcases h with rfl | rfl <;> simp
 ·rcases h with rfl | rfl | rfl | rfl <;> simp
 ·simp [h]
theorem l10N_tells (x : S59) : Tells (fun _ => spec_l10N.f x.f0 x.f1) (nOk x) := by
 simp only [spec_l10N.f, nOk]
 by_cases h1 : x.f0 = 1
 ·simp only [if_pos h1]
  exact tells_ask (l1In_tells _ _ _) (fun h => tells_yes h) (fun h => tells_no h)
 simp only [if_neg h1]
 by_cases h2 : x.f0 = 2
 ·simp only [if_pos h2]
  exact tells_ask (l1In_tells _ _ _) (fun h => tells_yes h) (fun h => tells_no h)
 simp only [if_neg h2]
 exact tells_some (by simp)
theorem spec_GoodSaid_l0 (l : List S59) (hl : l.length ≤ 16) (d : Nat) : ∀ (j : Nat) (c : Int), 0 ≤ c → c ≤ j → j + d = l.length →
  Tells (fun k => spec_GoodSaid.l0 k c l (l.length : Int) (j : Int)) (gs (l.drop j) c) := by
 induction d with
 | zero =>
  intro j c h0 h1 hd
  refine tells_step (f := fun _ => some (c == 1)) (fun k => by simp only [spec_GoodSaid.l0]; rw [if_neg (by omega)]) (tells_some ?_)
  rw [List.drop_of_length_le (by omega)]; simp [gs]
 | succ d ih =>
  intro j c h0 h1 hd
  have hj : j < l.length := by omega
  have er : rd_T59 l (j : Int) = l.getD j z59 := by simp [rd_T59]
  refine tells_step (fun k => by simp only [spec_GoodSaid.l0]; rw [if_pos (by omega), if_pos (by omega), if_pos (by omega), wsucc (by omega), er]) ?_
  rw [drop_cons hj z59]
  generalize l.getD j z59 = x
  have hn := need_le x.f0
  refine tells_bind (l10Need_ev x.f0) (tells_if (fun h => tells_no (fun g => by have := g.1; omega)) (fun h => ?_))
  refine tells_ask (l10N_tells x) (fun hx => tells_pos rfl ?_) (fun hx => tells_neg (by simp) (tells_no (fun g => hx g.2.1)))
  refine tells_if (fun h2 => tells_no (fun g => by have := g.2.2.1; omega)) (fun h2 => ?_)
  rw [wid (x := 1 - needS x.f0) (by omega) (by omega), wid (by omega) (by omega)]
  exact tells_iff (ih (j + 1) _ (by omega) (by omega) (by omega)) ⟨fun g => ⟨by omega, hx, by omega, g⟩, fun g => g.2.2.2⟩
theorem spec_GoodSaid_tells (l : List S59) (hl : l.length ≤ 9223372036854775807) : Tells (fun k => spec_GoodSaid.f k l) (GoodS l) := by
 refine tells_ask (l1In_tells _ _ _) (fun h => tells_pos rfl ?_) (fun h => tells_neg (by simp) (tells_no (fun g => h ⟨by have := g.1; omega, by have := g.2.1; omega⟩)))
 exact tells_iff (spec_GoodSaid_l0 l (by omega) l.length 0 0 (by omega) (by omega) (by omega)) ⟨fun g => ⟨by omega, by omega, by simpa using g⟩, fun g => by simpa using g.2.2⟩
def Rise (l : List Int) : Prop := l.Pairwise (· < ·)
theorem rise_uniq : ∀ {a b : List Int}, Rise a → Rise b → (∀ x, x ∈ a ↔ x ∈ b) → a = b
 | [], [], _, _, _ => rfl
 | [], y :: t, _, _, h => by have := (h y).2 (by simp); simp at this
 | x :: s, [], _, _, h => by have := (h x).1 (by simp); simp at this
 | x :: s, y :: t, ha, hb, h => by
  obtain ⟨a1, a2⟩ := List.pairwise_cons.1 ha
  obtain ⟨b1, b2⟩ := List.pairwise_cons.1 hb
  have e : x = y := by
   rcases List.mem_cons.1 ((h x).1 (by simp)) with e | h1
   ·exact e
   ·rcases List.mem_cons.1 ((h y).2 (by simp)) with e | h2
    ·exact e.symm
    ·have := a1 y h2; have := b1 x h1; omega
  subst e
  congr 1
  refine rise_uniq a2 b2 (fun z => ⟨fun hz => ?_, fun hz => ?_⟩)
  ·rcases List.mem_cons.1 ((h z).1 (by simp [hz])) with e | h1
   ·have := a1 z hz; omega
   ·exact h1
  ·rcases List.mem_cons.1 ((h z).2 (by simp [hz])) with e | h1
   ·have := b1 z hz; omega
   ·exact h1
theorem rise_len : ∀ {l : List Int} {lo hi : Int}, Rise l → (∀ x ∈ l, lo ≤ x ∧ x < hi) → lo ≤ hi → (l.length : Int) ≤ hi - lo
 | [], _, _, _, _, h => by simp; omega
 | x :: t, lo, hi, hr, h, hl => by
  obtain ⟨h1, h2⟩ := List.pairwise_cons.1 hr
  have h3 := h x (by simp)
  have := rise_len (l := t) (lo := x + 1) (hi := hi) h2 (fun y hy => ⟨by have := h1 y hy; omega, (h y (by simp [hy])).2⟩) (by omega)
  simp only [List.length_cons]; omega
theorem rise_sub : ∀ {a b : List Int}, Rise a → Rise b → (∀ x ∈ a, x ∈ b) → a.length ≤ b.length ∧ (a.length = b.length → a = b)
 | [], b, _, _, _ => ⟨by simp, fun h => by cases b with | nil => rfl | cons _ _ => simp at h⟩
 | x :: s, [], _, _, h => by have := h x (by simp); simp at this
 | x :: s, y :: t, ha, hb, h => by
  obtain ⟨a1, a2⟩ := List.pairwise_cons.1 ha
  obtain ⟨b1, b2⟩ := List.pairwise_cons.1 hb
  rcases List.mem_cons.1 (h x (by simp)) with e | h1
  ·subst e
   obtain ⟨h2, h3⟩ := rise_sub a2 b2 (fun z hz => (List.mem_cons.1 (h z (by simp [hz]))).resolve_left (fun e => by have := a1 z hz; omega))
   exact ⟨by simp only [List.length_cons]; omega, fun e => by rw [h3 (by simpa using e)]⟩
  ·have h4 := b1 x h1
   obtain ⟨h2, h3⟩ := rise_sub ha b2 (fun z hz => (List.mem_cons.1 (h z hz)).resolve_left (fun e => by
    rcases List.mem_cons.1 hz with e2 | hz
    ·omega
    ·have := a1 z hz; omega))
   simp only [List.length_cons] at h2 ⊢
   exact ⟨by omega, fun e => by omega⟩
theorem compact_sorted {l : List Int} (hs : l.Pairwise (· ≤ ·)) : Rise (Go.Lib.compact l) ∧ ∀ x, x ∈ Go.Lib.compact l ↔ x ∈ l := by
 have at_ : ∀ j, j < l.length → l.toArray[j]! = l.getD j 0 := fun j hj => by
  rw [getElem!_pos _ j (by simpa using hj), getD_eq hj]; simp
 have mono : ∀ i j, i ≤ j → j < l.length → l.getD i 0 ≤ l.getD j 0 := fun i j h1 h2 => by
  rcases Nat.eq_or_lt_of_le h1 with e | e
  ·subst e; omega
  ·rw [getD_eq (by omega), getD_eq h2]
   exact List.pairwise_iff_getElem.1 hs i j (by omega) h2 e
 have keep : ∀ j, j < l.length → (Go.Lib.keeps l.toArray j = true ↔ j = 0 ∨ l.getD j 0 ≠ l.getD (j - 1) 0) := fun j hj => by
  unfold Go.Lib.keeps
  rw [decide_eq_true_iff, at_ j hj, at_ (j - 1) (by omega)]
 unfold Go.Lib.compact Go.Lib.compactUpTo
 refine ⟨List.pairwise_map.2 ?_, fun x => ⟨fun h => ?_, fun h => ?_⟩⟩
 ·have h1 : ((List.range l.length).filter (Go.Lib.keeps l.toArray)).Pairwise (· < ·) := List.Pairwise.filter _ List.pairwise_lt_range
  refine List.Pairwise.imp_of_mem (fun {a b} ha hb hab => ?_) h1
  obtain ⟨a1, _⟩ := List.mem_filter.1 ha
  obtain ⟨b1, b2⟩ := List.mem_filter.1 hb
  have a1 := List.mem_range.1 a1
  have b1 := List.mem_range.1 b1
  rw [at_ a a1, at_ b b1]
  have h2 := ((keep b b1).1 b2).resolve_left (by omega)
  have h3 := mono a (b - 1) (by omega) (by omega)
  have h4 := mono (b - 1) b (by omega) b1
  omega
 ·obtain ⟨j, hj, rfl⟩ := List.mem_map.1 h
  have hj := List.mem_range.1 (List.mem_filter.1 hj).1
  rw [at_ j hj]
  exact getD_mem hj 0
 ·obtain ⟨i, hi, rfl⟩ := List.getElem_of_mem h
  have least : ∀ (n i : Nat) (hi : i < l.length), i ≤ n → ∃ j, j < l.length ∧ l.getD j 0 = l.getD i 0 ∧ (j = 0 ∨ l.getD j 0 ≠ l.getD (j - 1) 0) := by
   intro n
   induction n with
   | zero => exact fun i hi h => ⟨i, hi, rfl, .inl (by omega)⟩
   | succ n ih =>
    intro i hi h
    by_cases h1 : i = 0 ∨ l.getD i 0 ≠ l.getD (i - 1) 0
    ·exact ⟨i, hi, rfl, h1⟩
    ·obtain ⟨j, h2, h3, h4⟩ := ih (i - 1) (by omega) (by omega)
     exact ⟨j, h2, by have : l.getD i 0 = l.getD (i - 1) 0 := Classical.byContradiction (fun g => h1 (.inr g)); omega, h4⟩
  obtain ⟨j, h2, h3, h4⟩ := least i i hi (Nat.le_refl _)
  refine List.mem_map.2 ⟨j, List.mem_filter.2 ⟨List.mem_range.2 h2, (keep j h2).2 h4⟩, ?_⟩
  rw [at_ j h2, h3, getD_eq hi]
theorem sort_compact (l : List Int) : Rise (Go.Lib.compact (l.mergeSort fun x y => decide (x ≤ y))) ∧ ∀ x, x ∈ Go.Lib.compact (l.mergeSort fun x y => decide (x ≤ y)) ↔ x ∈ l := by
 have hs : (l.mergeSort fun x y => decide (x ≤ y)).Pairwise (fun a b => decide (a ≤ b) = true) := List.pairwise_mergeSort (fun a b c h1 h2 => by simp only [decide_eq_true_eq] at *; omega) (fun a b => by simp only [Bool.or_eq_true, decide_eq_true_eq]; omega) l
 obtain ⟨h1, h2⟩ := compact_sorted (hs.imp (fun h => by simpa using h))
 exact ⟨h1, fun x => (h2 x).trans (List.mergeSort_perm l _).mem_iff⟩
def Rg (n : Nat) (l : List Int) : Prop := Rise l ∧ ∀ x ∈ l, 0 ≤ x ∧ x < (n : Int)
theorem Rg.len {n : Nat} {l : List Int} (h : Rg n l) : l.length ≤ n := by
 have := rise_len h.1 h.2 (by omega); omega
theorem Rg.nil (n : Nat) : Rg n [] := ⟨List.Pairwise.nil, by simp⟩
theorem Rg.uniq {n m : Nat} {a b : List Int} (h : Rg n a) (h' : Rg m b) (he : ∀ x, x ∈ a ↔ x ∈ b) : a = b := rise_uniq h.1 h'.1 he
theorem l1Put_l0 (l : List Int) (n : Int) (hr : Rise l) (hl : l.length ≤ 1048576) (d : Nat) : ∀ (j : Nat), j + d = l.length → (∀ i, i < j → l.getD i 0 < n) → ∃ r : List Int, Rise r ∧ (∀ x, x ∈ r ↔ x = n ∨ x ∈ l) ∧ Ev (fun k => spec_l1Put.l0 k l n (j : Int)) r := by
 have ins : ∀ j : Nat, j ≤ l.length → (∀ i, i < j → l.getD i 0 < n) → (∀ i, j ≤ i → i < l.length → n < l.getD i 0) → Rise (l.take j ++ [n] ++ l.drop j) ∧ ∀ x, x ∈ l.take j ++ [n] ++ l.drop j ↔ x = n ∨ x ∈ l := fun j hj h1 h2 => by
  refine ⟨?_, fun x => ?_⟩
  ·have t1 : ∀ x ∈ l.take j, x < n := fun x hx => by
    obtain ⟨i, hi, rfl⟩ := List.getElem_of_mem hx
    simp only [List.length_take] at hi
    have := h1 i (by omega)
    rw [getD_eq (by omega)] at this
    simpa using this
   have t2 : ∀ x ∈ l.drop j, n < x := fun x hx => by
    obtain ⟨i, hi, rfl⟩ := List.getElem_of_mem hx
    simp only [List.length_drop] at hi
    have := h2 (j + i) (by omega) (by omega)
    rw [getD_eq (by omega)] at this
    simpa using this
   refine List.pairwise_append.2 ⟨List.pairwise_append.2 ⟨List.Pairwise.sublist (List.take_sublist j l) hr, by simp, fun a ha b hb => by rw [List.mem_singleton.1 hb]; exact t1 a ha⟩, List.Pairwise.sublist (List.drop_sublist j l) hr, fun a ha b hb => ?_⟩
   have hb := t2 b hb
   rcases List.mem_append.1 ha with ha | ha
   ·have := t1 a ha; omega
   ·rw [List.mem_singleton.1 ha]; exact hb
  ·have : x ∈ l ↔ x ∈ l.take j ∨ x ∈ l.drop j := by rw [← List.mem_append, List.take_append_drop]
   simp only [List.mem_append, List.mem_singleton, this]
   constructor
   ·rintro ((h | h) | h)
    ·exact .inr (.inl h)
    ·exact .inl h
    ·exact .inr (.inr h)
   ·rintro (h | h | h)
    ·exact .inl (.inr h)
    ·exact .inl (.inl h)
    ·exact .inr h
 have tl : ∀ j : Nat, j ≤ l.length → (l.take j).length = j := fun j hj => by simp; omega
 have dl : ∀ j : Nat, (l.drop j).length = l.length - j := fun j => by simp
 induction d with
 | zero =>
  intro j hj h1
  obtain ⟨i1, i2⟩ := ins j (by omega) h1 (fun i h2 h3 => by omega)
  refine ⟨_, i1, i2, Ev.step (f := fun _ => some (l.take j ++ [n] ++ l.drop j)) (fun k => ?_) (Ev.now _)⟩
  simp only [spec_l1Put.l0, Option.bind_some, List.nil_append, List.length_nil, Int.toNat_natCast, List.length_append, List.length_singleton, tl j (by omega), dl]
  repeat (first | rw [if_pos (by omega)] | rw [if_neg (by omega)])
 | succ d ih =>
  intro j hj h1
  by_cases h2 : l.getD j 0 < n
  ·obtain ⟨r, r1, r2, r3⟩ := ih (j + 1) (by omega) (fun i hi => by
    rcases Nat.lt_or_ge i j with h3 | h3
    ·exact h1 i h3
    ·obtain rfl : i = j := by omega
     exact h2)
   exact ⟨r, r1, r2, Ev.step (fun k => by simp only [spec_l1Put.l0]; rw [if_pos (by omega), if_pos (by omega), rd_nat, if_pos h2, wsucc (by omega)]) r3⟩
  ·by_cases h3 : l.getD j 0 = n
   ·refine ⟨l, hr, fun x => ⟨fun h => .inr h, fun h => h.elim (fun e => by rw [e, ← h3]; exact getD_mem (by omega) 0) id⟩, Ev.step (f := fun _ => some l) (fun k => by simp only [spec_l1Put.l0]; rw [if_pos (by omega), if_pos (by omega), rd_nat, if_neg h2, if_pos h3]) (Ev.now _)⟩
   ·obtain ⟨i1, i2⟩ := ins j (by omega) h1 (fun i h4 h5 => by
     rcases Nat.eq_or_lt_of_le h4 with e | e
     ·subst e; omega
     ·have h6 := List.pairwise_iff_getElem.1 hr j i (by omega) h5 e
      rw [getD_eq (show j < l.length by omega)] at h2
      rw [getD_eq h5]; omega)
    refine ⟨_, i1, i2, Ev.step (f := fun _ => some (l.take j ++ [n] ++ l.drop j)) (fun k => ?_) (Ev.now _)⟩
    simp only [spec_l1Put.l0]
    rw [if_pos (by omega), if_pos (by omega), rd_nat, if_neg h2, if_neg h3]
    simp only [Option.bind_some, List.nil_append, List.length_nil, Int.toNat_natCast, List.length_append, List.length_singleton, tl j (by omega), dl]
    repeat (first | rw [if_pos (by omega)] | rw [if_neg (by omega)])
theorem l1Put_is (l : List Int) (n : Int) (hr : Rise l) (hl : l.length ≤ 1048576) : ∃ r : List Int, Rise r ∧ (∀ x, x ∈ r ↔ x = n ∨ x ∈ l) ∧ Ev (fun k => spec_l1Put.f k l n) r :=
 l1Put_l0 l n hr hl l.length 0 (by omega) (fun i hi => by omega)
theorem Rg.put {m : Nat} {l : List Int} {n : Int} (h : Rg m l) (hm : m ≤ 1048576) (h0 : 0 ≤ n) (h1 : n < (m : Int)) : ∃ r : List Int, Rg m r ∧ (∀ x, x ∈ r ↔ x = n ∨ x ∈ l) ∧ Ev (fun k => spec_l1Put.f k l n) r := by
 obtain ⟨r, r1, r2, r3⟩ := l1Put_is l n h.1 (by have := h.len; omega)
 refine ⟨r, ⟨r1, fun x hx => ?_⟩, r2, r3⟩
 rcases (r2 x).1 hx with rfl | h2
 ·exact ⟨h0, h1⟩
 ·exact h.2 x h2
def cSaid (x : S62) : S59 := ⟨x.f0, x.f1⟩
theorem toSaidS_l0 (l : List S62) (hl : l.length ≤ 1048576) (d : Nat) : ∀ (j : Nat) (y : List S59), y.length = l.length → j + d = l.length → Ev (fun k => laws_toSaidS.l0 k l y (j : Int)) (y.take j ++ (l.map cSaid).drop j) := by
 induction d with
 | zero =>
  intro j y hy hd
  rw [take_all_drop (xs := y) (ys := l.map cSaid) (by simpa using hy) (by simp; omega)]
  exact Ev.step (f := fun _ => some y) (fun k => by simp only [laws_toSaidS.l0]; rw [if_neg (by omega)]) (Ev.now y)
 | succ d ih =>
  intro j y hy hd
  have er : rd_T62 l (j : Int) = l.getD j z62 := by simp [rd_T62]
  refine Ev.step (f := fun k => laws_toSaidS.l0 k l (y.set j (cSaid (l.getD j z62))) ((j + 1 : Nat) : Int)) (fun k => by simp only [laws_toSaidS.l0, laws_toSaid.f, Option.bind_some]; rw [if_pos (by omega), if_pos (by omega), if_pos (by omega), wsucc (by omega), er]; rfl) ?_
  refine ev_eq (ih (j + 1) _ (by simpa using hy) (by omega)) (copy_step (by omega) (by simp; omega) ?_)
  rw [getD_eq (l := l.map cSaid) (by simp; omega), getD_eq (l := l) (by omega)]; simp
theorem toSaidS_ev (l : List S62) (hl : l.length ≤ 1048576) : Ev (fun k => laws_toSaidS.f k l) (l.map cSaid) := by
 refine Ev.congr (f := fun k => laws_toSaidS.l0 k l (List.replicate l.length z59) ((0 : Nat) : Int)) (fun k => by simp only [laws_toSaidS.f]; rw [if_pos (by omega), if_pos (by simp only [Int.toNat_natCast]; omega)]; rfl) ?_
 exact ev_eq (toSaidS_l0 l hl l.length 0 _ (by simp) (by omega)) (by simp)
theorem operandsOfSaid_ev (op : Int) : Ev (fun k => impl_operandsOfSaid.f k op) (needS op) := by
 refine ev_from 2 (fun m => ?_)
 simp only [impl_operandsOfSaid.f, impl_operandsOfSaid.j0, impl_operandsOfSaid.j1]
 rcases need_cases op with ⟨e, h⟩ | ⟨e, h⟩ | ⟨e, h⟩ | ⟨e, h⟩ <;> rw [e]
 ·rcases h with rfl | rfl <;> simp
 ·rcases h with rfl | rfl <;> simp
 ·rcases h with rfl | rfl | rfl | rfl <;> simp
 ·simp [h]
theorem isSaid_tells (x : S59) : Tells (fun k => impl_isSaid.f k x.f0 x.f1) (0 ≤ needS x.f0 ∧ nOk x) := by
 simp only [impl_isSaid.f, nOk]
 rcases need_cases x.f0 with ⟨e, h⟩ | ⟨e, h⟩ | ⟨e, h⟩ | ⟨e, h⟩
 ·rcases h with h | h
  ·simp only [h, if_true]
   refine tells_if (fun h1 => tells_some ?_) (fun h1 => tells_no (fun g => by have := g.2.1; omega))
   simp [needS]; omega
  ·simp only [h, if_neg (show ¬ ((2 : Int) = 1) by decide), if_true]
   refine tells_if (fun h1 => tells_yes ⟨by simp [needS], by omega, by omega⟩) (fun h1 => tells_some ?_)
   simp [needS]; omega
 ·have h1 : ¬ (x.f0 = 1) := by omega
  have h2 : ¬ (x.f0 = 2) := by omega
  simp only [if_neg h1, if_neg h2]
  refine tells_bind (operandsOfSaid_ev x.f0) (tells_pos (by omega) (tells_some ?_))
  simp [e]
 ·have h1 : ¬ (x.f0 = 1) := by omega
  have h2 : ¬ (x.f0 = 2) := by omega
  simp only [if_neg h1, if_neg h2]
  refine tells_bind (operandsOfSaid_ev x.f0) (tells_pos (by omega) (tells_some ?_))
  simp [e]
 ·simp only [if_neg h.1, if_neg h.2.1]
  refine tells_bind (operandsOfSaid_ev x.f0) (tells_neg (by omega) (tells_no (fun g => by omega)))
theorem impl_GoodSaid_l0 (l : List S59) (hl : l.length ≤ 16) (d : Nat) : ∀ (j : Nat) (c : Int), 0 ≤ c → c ≤ j → j + d = l.length →
  Tells (fun k => impl_GoodSaid.l0 k c l (l.length : Int) (j : Int)) (gs (l.drop j) c) := by
 induction d with
 | zero =>
  intro j c h0 h1 hd
  refine tells_step (f := fun _ => some (c == 1)) (fun k => by simp only [impl_GoodSaid.l0]; rw [if_neg (by omega)]) (tells_some ?_)
  rw [List.drop_of_length_le (by omega)]; simp [gs]
 | succ d ih =>
  intro j c h0 h1 hd
  have hj : j < l.length := by omega
  have er : rd_T59 l (j : Int) = l.getD j z59 := by simp [rd_T59]
  refine tells_step (fun k => by simp only [impl_GoodSaid.l0]; rw [if_pos (by omega), if_pos (by omega), if_pos (by omega), wsucc (by omega), er]) ?_
  rw [drop_cons hj z59]
  generalize l.getD j z59 = x
  have hn := need_le x.f0
  refine tells_bind (operandsOfSaid_ev x.f0) ?_
  refine tells_ask (isSaid_tells x) (fun hx => tells_pos rfl ?_) (fun hx => tells_neg (by simp) (tells_no (fun g => hx ⟨g.1, g.2.1⟩)))
  refine tells_if (fun h2 => tells_no (fun g => by have := g.2.2.1; omega)) (fun h2 => ?_)
  rw [wid (x := 1 - needS x.f0) (by omega) (by omega), wid (by omega) (by omega)]
  exact tells_iff (ih (j + 1) _ (by omega) (by omega) (by omega)) ⟨fun g => ⟨hx.1, hx.2, by omega, g⟩, fun g => g.2.2.2⟩
theorem impl_GoodSaid_tells (l : List S59) (hl : l.length ≤ 9223372036854775807) : Tells (fun k => impl_GoodSaid.f k l) (GoodS l) := by
 refine tells_if (fun h => ?_) (fun h => ?_)
 ·exact tells_step (f := fun _ => some false) (fun k => by simp only [impl_GoodSaid.j0, if_true]) (tells_no (fun g => by have := g.1; omega))
 ·by_cases h2 : (l.length : Int) > 16
  ·exact tells_step (f := fun _ => some false) (fun k => by simp only [impl_GoodSaid.j0]; rw [if_pos (by simpa using h2)]) (tells_no (fun g => by have := g.2.1; omega))
  ·refine tells_step (f := fun k => impl_GoodSaid.l0 k 0 l (l.length : Int) 0) (fun k => by simp only [impl_GoodSaid.j0]; rw [if_neg (by simpa using h2)]) ?_
   exact tells_iff (impl_GoodSaid_l0 l (by omega) l.length 0 0 (by omega) (by omega) (by omega)) ⟨fun g => ⟨by omega, by omega, by simpa using g⟩, fun g => by simpa using g.2.2⟩
abbrev srt (l : List Int) : List Int := Go.Lib.compact (l.mergeSort fun x y => decide (x ≤ y))
theorem srt_len (l : List Int) : (srt l).length ≤ l.length := by
 have h : ∀ m : List Int, (Go.Lib.compact m).length ≤ m.length := fun m => by
  unfold Go.Lib.compact Go.Lib.compactUpTo
  rw [List.length_map]
  exact Nat.le_trans (List.length_filter_le _ _) (by simp)
 have := h (l.mergeSort fun x y => decide (x ≤ y))
 rwa [List.length_mergeSort] at this
def RS (r l : List Int) : Prop := Rise r ∧ ∀ x, x ∈ r ↔ x ∈ l
theorem RS.srt (l : List Int) : RS (srt l) l := sort_compact l
theorem RS.uniq {a b l : List Int} (h : RS a l) (h' : RS b l) : a = b := rise_uniq h.1 h'.1 (fun x => (h.2 x).trans (h'.2 x).symm)
theorem RS.len {r l : List Int} (h : RS r l) : r.length ≤ l.length := by rw [h.uniq (RS.srt l)]; exact srt_len l
theorem RS.put {o l : List Int} (h : RS o l) (hl : l.length ≤ 1048576) (n : Int) : ∃ r, RS r (l ++ [n]) ∧ Ev (fun k => spec_l1Put.f k o n) r := by
 obtain ⟨r, r1, r2, r3⟩ := l1Put_is o n h.1 (Nat.le_trans h.len hl)
 exact ⟨r, ⟨r1, fun x => by rw [r2, h.2]; simp [or_comm]⟩, r3⟩
theorem srt_1 (l : List Int) (hl : l.length ≤ 1048576) : slices_Sort_int_int.f l = some (l.mergeSort fun x y => decide (x ≤ y)) := by rw [slices_Sort_int_int.f, if_pos (by omega)]
theorem srt_2 (l : List Int) (hl : l.length ≤ 1048576) : slices_Compact_int_int.f (l.mergeSort fun x y => decide (x ≤ y)) = some (srt l) := by rw [slices_Compact_int_int.f, if_pos (by rw [List.length_mergeSort]; omega)]
def ats (t : List S59) : List Int := (t.filter (fun x => x.f0 == 1)).map (fun x => x.f1)
theorem ats_len (t : List S59) : (ats t).length ≤ t.length := by unfold ats; rw [List.length_map]; exact List.length_filter_le _ _
theorem ats_yes {x : S59} {t : List S59} (h : x.f0 = 1) : ats (x :: t) = x.f1 :: ats t := by simp [ats, h]
theorem ats_no {x : S59} {t : List S59} (h : ¬ x.f0 = 1) : ats (x :: t) = ats t := by simp [ats, h]
theorem spec_AtomsIn_l0 (t : List S59) (ht : t.length ≤ 1000) (d : Nat) : ∀ (j : Nat) (o l : List Int), j + d = t.length → RS o l → l.length ≤ j → ∃ r, RS r (l ++ ats (t.drop j)) ∧ Ev (fun k => spec_AtomsIn.l0 k o t (t.length : Int) (j : Int)) (r, true) := by
 induction d with
 | zero =>
  intro j o l hj h hl
  refine ⟨o, ?_, Ev.step (f := fun _ => some (o, true)) (fun k => by simp only [spec_AtomsIn.l0]; rw [if_neg (by omega)]) (Ev.now _)⟩
  rw [List.drop_of_length_le (by omega)]
  simpa [ats] using h
 | succ d ih =>
  intro j o l hj h hl
  have er : rd_T59 t (j : Int) = t.getD j z59 := by simp [rd_T59]
  rw [drop_cons (show j < t.length by omega) z59]
  by_cases c : (t.getD j z59).f0 = 1
  ·obtain ⟨p, p1, p2⟩ := h.put (by omega) (t.getD j z59).f1
   obtain ⟨r, r1, r2⟩ := ih (j + 1) p _ (by omega) p1 (by simp; omega)
   refine ⟨r, by rw [ats_yes c]; simpa using r1, Ev.step (fun k => by simp only [spec_AtomsIn.l0]; rw [if_pos (by omega), if_pos (by omega), if_pos (by omega), er, if_pos c, wsucc (by omega)]) ?_⟩
   exact Ev.bind p2 r2
  ·obtain ⟨r, r1, r2⟩ := ih (j + 1) o l (by omega) h (by omega)
   exact ⟨r, by rw [ats_no c]; exact r1, Ev.step (fun k => by simp only [spec_AtomsIn.l0]; rw [if_pos (by omega), if_pos (by omega), if_pos (by omega), er, if_neg c, wsucc (by omega)]) r2⟩
theorem atomsIn_l0 (t : List S59) (ht : t.length ≤ 1000) (d : Nat) : ∀ (j : Nat) (o : List Int), j + d = t.length → o.length ≤ j → Ev (fun k => impl_atomsIn.l0 k o t (t.length : Int) (j : Int)) (srt (o ++ ats (t.drop j))) := by
 induction d with
 | zero =>
  intro j o hj hl
  have e : o ++ ats (t.drop j) = o := by rw [List.drop_of_length_le (by omega)]; simp [ats]
  rw [e]
  exact Ev.step (f := fun _ => some (srt o)) (fun k => by simp only [impl_atomsIn.l0]; rw [if_neg (by omega), srt_1 o (by omega), Option.bind_some, srt_2 o (by omega), Option.bind_some]) (Ev.now _)
 | succ d ih =>
  intro j o hj hl
  have er : rd_T59 t (j : Int) = t.getD j z59 := by simp [rd_T59]
  rw [drop_cons (show j < t.length by omega) z59]
  by_cases c : (t.getD j z59).f0 = 1
  ·have r := ih (j + 1) (o ++ [(t.getD j z59).f1]) (by omega) (by simp; omega)
   rw [List.append_assoc, List.singleton_append, ← ats_yes c] at r
   exact Ev.step (fun k => by simp only [impl_atomsIn.l0]; rw [if_pos (by omega), if_pos (by omega), if_pos (by omega), er, if_pos c, if_pos (by omega), wsucc (by omega)]) r
  ·have r := ih (j + 1) o (by omega) (by omega)
   rw [← ats_no c] at r
   exact Ev.step (fun k => by simp only [impl_atomsIn.l0]; rw [if_pos (by omega), if_pos (by omega), if_pos (by omega), er, if_neg c, wsucc (by omega)]) r
theorem AtomsIn_both (l : List S59) (hl : l.length ≤ 9223372036854775807) : ∃ r : List Int × Bool, Ev (fun k => spec_AtomsIn.f k l) r ∧ Ev (fun k => impl_AtomsIn.f k l) r ∧ r.1.length ≤ 16 := by
 by_cases hg : GoodS l
 ·have h16 := hg.2.1
  obtain ⟨r, r1, r2⟩ := spec_AtomsIn_l0 l (by omega) l.length 0 [] [] (by omega) ⟨by simp [Rise], fun x => Iff.rfl⟩ (Nat.le_refl _)
  rw [List.nil_append, List.drop_zero] at r1
  have e : r = srt (ats l) := r1.uniq (RS.srt _)
  subst e
  have h1 := srt_len (ats l)
  have h2 := ats_len l
  have r3 := atomsIn_l0 l (by omega) l.length 0 [] (by omega) (Nat.le_refl _)
  rw [List.nil_append, List.drop_zero] at r3
  exact ⟨(srt (ats l), true), Ev.bind (tells_ev (spec_GoodSaid_tells l hl) hg) (ev_pos rfl r2), Ev.bind (tells_ev (impl_GoodSaid_tells l hl) hg) (ev_pos rfl (Ev.bind r3 (Ev.now _))), by show (srt (ats l)).length ≤ 16; omega⟩
 ·exact ⟨([], false), Ev.bind (tells_ev_not (spec_GoodSaid_tells l hl) hg) (ev_neg (by simp) (Ev.now _)), Ev.bind (tells_ev_not (impl_GoodSaid_tells l hl) hg) (ev_neg (by simp) (Ev.now _)), by simp⟩
theorem eqIntS_l0 (l : List Int) (hl : l.length ≤ 9223372036854775807) (d : Nat) : ∀ (j : Nat), j + d = l.length → Ev (fun k => laws_eqIntS.l0 k l l (j : Int)) true := by
 induction d with
 | zero => exact fun j hd => Ev.step (f := fun _ => some true) (fun k => by simp only [laws_eqIntS.l0]; rw [if_neg (by omega)]) (Ev.now _)
 | succ d ih => exact fun j hd => Ev.step (fun k => by simp only [laws_eqIntS.l0, if_true]; rw [if_pos (by omega), if_pos (by omega), if_pos (by omega), wsucc (by omega)]) (ih (j + 1) (by omega))
theorem eqIntS_ev (l : List Int) (hl : l.length ≤ 9223372036854775807) : Ev (fun k => laws_eqIntS.f k l l) true :=
 Ev.congr (fun k => by simp only [laws_eqIntS.f, if_true]; rfl) (eqIntS_l0 l hl l.length 0 (by omega))
theorem eqSaidS_l0 (l : List S59) (hl : l.length ≤ 9223372036854775807) (d : Nat) : ∀ (j : Nat), j + d = l.length → Ev (fun k => laws_eqSaidS.l0 k l l (j : Int)) true := by
 induction d with
 | zero => exact fun j hd => Ev.step (f := fun _ => some true) (fun k => by simp only [laws_eqSaidS.l0]; rw [if_neg (by omega)]) (Ev.now _)
 | succ d ih => exact fun j hd => Ev.step (fun k => by simp only [laws_eqSaidS.l0, laws_eqSaid.f, if_true, Option.bind_some]; rw [if_pos (by omega), if_pos (by omega), if_pos (by omega), wsucc (by omega)]) (ih (j + 1) (by omega))
theorem eqSaidS_ev (l : List S59) (hl : l.length ≤ 9223372036854775807) : Ev (fun k => laws_eqSaidS.f k l l) true :=
 Ev.congr (fun k => by simp only [laws_eqSaidS.f, if_true]; rfl) (eqSaidS_l0 l hl l.length 0 (by omega))
def cntS : Nat → Int → List S59
 | 0, _ => []
 | n + 1, a => ⟨a, a + 1⟩ :: cntS n (a + 2)
theorem cntS_length : ∀ n a, (cntS n a).length = n
 | 0, _ => rfl
 | n + 1, a => by simp [cntS, cntS_length n]
theorem markSaidS_l0 (d : Nat) : ∀ (j : Nat) (y : List S59) (a : Int), j + d = y.length → y.length ≤ 1048576 → 0 ≤ a → a + 2 * d ≤ 4611686018427387904 → Ev (fun k => laws_markSaidS.l0 k y a (j : Int)) (a + 2 * d, y.take j ++ cntS d a) := by
 induction d with
 | zero =>
  intro j y a hd hy h0 h1
  refine ev_eq (Ev.step (f := fun _ => some (a, y)) (fun k => by simp only [laws_markSaidS.l0]; rw [if_neg (by omega)]) (Ev.now _)) ?_
  rw [List.take_of_length_le (by omega)]; simp [cntS]
 | succ d ih =>
  intro j y a hd hy h0 h1
  have hj : j < y.length := by omega
  have e0 : (rd_T59 (y.set j (⟨a, (rd_T59 y (j : Int)).f1⟩ : S59)) (j : Int)).f0 = a := by
   simp [rd_T59, List.getD_eq_getElem?_getD, hj]
  refine Ev.step (f := fun k => laws_markSaidS.l0 k (y.set j ⟨a, a + 1⟩) (a + 2) ((j + 1 : Nat) : Int)) (fun k => by
   simp only [laws_markSaidS.l0, Option.bind_some, Int.toNat_natCast]
   rw [if_pos (by omega), if_pos (by omega), wsucc (by omega), wid (x := a + 1) (by omega) (by omega), wid (x := a + 1 + 1) (by omega) (by omega), e0, List.set_set, show a + 1 + 1 = a + 2 by omega]) ?_
  refine ev_eq (ih (j + 1) (y.set j ⟨a, a + 1⟩) (a + 2) (by simp; omega) (by simpa using hy) (by omega) (by omega)) ?_
  rw [List.take_succ_eq_append_getElem (by simp; omega), List.take_set_of_le (Nat.le_refl j)]
  simp [cntS]; omega
theorem markSaidS_ev (y : List S59) (a : Int) (hy : y.length ≤ 1048576) (h0 : 0 ≤ a) (h1 : a ≤ 1152921504606846976) : Ev (fun k => laws_markSaidS.f k y a) (a + 2 * y.length, cntS y.length a) :=
 ev_eq (markSaidS_l0 y.length 0 y a (by omega) hy h0 (by omega)) (by simp)
theorem markIntS_l0 (d : Nat) : ∀ (j : Nat) (y : List Int) (a : Int), j + d = y.length → y.length ≤ 1048576 → 0 ≤ a → a + d ≤ 4611686018427387904 → Ev (fun k => laws_markIntS.l0 k y a (j : Int)) (a + d, y.take j ++ cnt d a) := by
 induction d with
 | zero =>
  intro j y a hd hy h0 h1
  refine ev_eq (Ev.step (f := fun _ => some (a, y)) (fun k => by simp only [laws_markIntS.l0]; rw [if_neg (by omega)]) (Ev.now _)) ?_
  rw [List.take_of_length_le (by omega)]; simp [cnt]
 | succ d ih =>
  intro j y a hd hy h0 h1
  refine Ev.step (fun k => by simp only [laws_markIntS.l0]; rw [if_pos (by omega), if_pos (by omega), wsucc (by omega), wid (x := a + 1) (by omega) (by omega)]) ?_
  refine ev_eq (ih (j + 1) (y.set ((j : Int)).toNat a) (a + 1) (by simp; omega) (by simpa using hy) (by omega) (by omega)) ?_
  simp only [Int.toNat_natCast]
  rw [List.take_succ_eq_append_getElem (by simp; omega), List.take_set_of_le (Nat.le_refl j)]
  simp [cnt]; omega
theorem markIntS_ev (y : List Int) (a : Int) (hy : y.length ≤ 1048576) (h0 : 0 ≤ a) (h1 : a ≤ 2305843009213693952) : Ev (fun k => laws_markIntS.f k y a) (a + y.length, cnt y.length a) :=
 ev_eq (markIntS_l0 y.length 0 y a (by omega) hy h0 (by omega)) (by simp)
theorem markIntS_ev' (y : List Int) (a : Int) (hy : y.length ≤ 1048576) (h0 : 0 ≤ a) (h1 : a + y.length ≤ 4611686018427387904) : Ev (fun k => laws_markIntS.f k y a) (a + y.length, cnt y.length a) :=
 ev_eq (markIntS_l0 y.length 0 y a (by omega) hy h0 h1) (by simp)
theorem heldIntS_l0 (y : List Int) (hy : y.length ≤ 1048576) (d : Nat) : ∀ (j : Nat) (a : Int), j + d = y.length → y.drop j = cnt d a → 0 ≤ a → a + d ≤ 4611686018427387904 → Ev (fun k => laws_heldIntS.l0 k y a (j : Int)) (a + d) := by
 induction d with
 | zero =>
  intro j a hd hc h0 h1
  exact ev_eq (Ev.step (f := fun _ => some a) (fun k => by simp only [laws_heldIntS.l0]; rw [if_neg (by omega)]) (Ev.now _)) (by omega)
 | succ d ih =>
  intro j a hd hc h0 h1
  rw [drop_cons (by omega) 0, cnt] at hc
  obtain ⟨h2, h3⟩ := List.cons.inj hc
  refine Ev.step (fun k => by simp only [laws_heldIntS.l0]; rw [if_pos (by omega), if_pos (by omega), rd_nat, if_pos h2, wsucc (by omega), wid (x := a + 1) (by omega) (by omega)]) ?_
  exact ev_eq (ih (j + 1) (a + 1) (by omega) h3 (by omega) (by omega)) (by omega)
theorem heldIntS_ev (n : Nat) (a : Int) (hn : n ≤ 1048576) (h0 : 0 ≤ a) (h1 : a ≤ 2305843009213693952) : Ev (fun k => laws_heldIntS.f k (cnt n a) a) (a + n) :=
 heldIntS_l0 (cnt n a) (by rw [cnt_length]; exact hn) n 0 a (by rw [cnt_length]; omega) (by simp) h0 (by omega)

theorem FnExactAtomsIn : ∀ (l0 : List (S62)), (l0.length ≤ 9223372036854775807 ∧ ∀ x ∈ l0, (In64 x.f0) ∧ (In64 x.f1)) → ∃ k, laws_FnExactAtomsIn.f k l0 = some true := by
  intro l hl
  refine Ev.rounds ?_
  refine Ev.bind (ev_const (szSaidS_eq l hl.1)) ?_
  by_cases h : l.length ≤ 1048576
  · rw [if_pos h]
    refine ev_neg (by omega) ?_
    have hm : (l.map cSaid).length ≤ 9223372036854775807 := by simp; omega
    have ht := toSaidS_ev l h
    obtain ⟨⟨b, ok⟩, hb, hb', hlen⟩ := AtomsIn_both _ hm
    have hlen : b.length ≤ 16 := hlen
    have he := eqIntS_ev b (by omega)
    have hk := markIntS_ev b 1 (by omega) (by omega) (by omega)
    have hh := heldIntS_ev b.length 1 (by omega) (by omega) (by omega)
    refine Ev.bind ht (Ev.bind hb (Ev.bind ht (Ev.bind hb' (Ev.bind he (ev_pos rfl ?_)))))
    refine Ev.step (fun k => by simp only [laws_FnExactAtomsIn.j0]; rw [if_neg (by simp)]) ?_
    refine Ev.bind ht (Ev.bind (eqSaidS_ev _ hm) (ev_pos rfl ?_))
    refine Ev.bind (markSaidS_ev _ 1 (by simpa using h) (by omega) (by omega)) (ev_neg (by simp only; omega) (Ev.bind he (ev_pos rfl ?_)))
    refine Ev.step (fun k => by simp only [laws_FnExactAtomsIn.j1]; rw [if_neg (by simp)]) ?_
    refine Ev.bind hk (Ev.bind hh (ev_neg (by omega) (ev_pos rfl ?_)))
    refine Ev.bind ht (Ev.bind hb' (Ev.bind he (ev_pos rfl ?_)))
    refine Ev.step (fun k => by simp only [laws_FnExactAtomsIn.j2]; rw [if_neg (by simp)]) ?_
    exact Ev.bind hh (ev_neg (by omega) (ev_pos rfl (Ev.now _)))
  · rw [if_neg h]
    exact ev_pos (by omega) (Ev.now _)

end Go.Proofs.Ytaacldndbjmekaa.Pure
