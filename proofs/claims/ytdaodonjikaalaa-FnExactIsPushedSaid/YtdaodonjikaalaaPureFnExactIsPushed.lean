/- The pure statement of the law FnExactIsPushed: what the printed functions compute makes the law true, for every input. No condition. -/
import Derived.Test.YtdaodonjikaalaaOpen
import Derived.Test.YtdaodonjikaalaaAid
import Derived.Test.YtdaodonjikaalaaP42
set_option linter.unusedVariables false
set_option linter.unusedSimpArgs false
namespace Go.Proofs.Ytdaodonjikaalaa.Pure
open Go.RowKit Go.Proofs.YtdaodonjikaalaaW.PrintWords Go.Proofs.Ytdaodonjikaalaa.P Go.Proofs.Ytdaodonjikaalaa.Open Go.Proofs.Ytdaodonjikaalaa.Aid
-- LEMMAS
theorem szSaidS_eq (l : List S88) (hl : l.length ≤ 9223372036854775807) : laws_szSaidS.f l 1048576 = some (if l.length ≤ 1048576 then 1048576 - (l.length : Int) else -1) := by
  have e : wrap64 (1048576 - (l.length : Int)) = 1048576 - l.length := wid (by omega) (by omega)
  simp only [laws_szSaidS.f]
  rw [e]
  by_cases h : l.length ≤ 1048576
  · rw [if_neg (by omega), if_pos h]
  · rw [if_pos (by omega), if_neg h]

def cSaid (x : S88) : S85 := ⟨x.f0, x.f1⟩
theorem toSaidS_l0 (l : List S88) (hl : l.length ≤ 1048576) (d : Nat) : ∀ (j : Nat) (y : List S85), y.length = l.length → j + d = l.length → Ev (fun k => laws_toSaidS.l0 k l y (j : Int)) (y.take j ++ (l.map cSaid).drop j) := by
  induction d with
  | zero =>
    intro j y hy hd
    rw [take_all_drop (xs := y) (ys := l.map cSaid) (by simpa using hy) (by simp; omega)]
    exact Ev.step (f := fun _ => some y) (fun k => by simp only [laws_toSaidS.l0]; rw [if_neg (by omega)]) (Ev.now y)
  | succ d ih =>
    intro j y hy hd
    have er : rd_T88 l (j : Int) = l.getD j z88 := by simp [rd_T88]
    refine Ev.step (f := fun k => laws_toSaidS.l0 k l (y.set j (cSaid (l.getD j z88))) ((j + 1 : Nat) : Int)) (fun k => by simp only [laws_toSaidS.l0, laws_toSaid.f, Option.bind_some]; rw [if_pos (by omega), if_pos (by omega), if_pos (by omega), wsucc (by omega), er]; rfl) ?_
    refine ev_eq (ih (j + 1) _ (by simpa using hy) (by omega)) (copy_step (by omega) (by simp; omega) ?_)
    rw [getD_eq (l := l.map cSaid) (by simp; omega), getD_eq (l := l) (by omega)]; simp
theorem toSaidS_ev (l : List S88) (hl : l.length ≤ 1048576) : Ev (fun k => laws_toSaidS.f k l) (l.map cSaid) := by
  refine Ev.congr (f := fun k => laws_toSaidS.l0 k l (List.replicate l.length z85) ((0 : Nat) : Int)) (fun k => by simp only [laws_toSaidS.f]; rw [if_pos (by omega), if_pos (by simp only [Int.toNat_natCast]; omega)]; rfl) ?_
  exact ev_eq (toSaidS_l0 l hl l.length 0 _ (by simp) (by omega)) (by simp)

theorem eqSaidS_l0 (l : List S85) (hl : l.length ≤ 9223372036854775807) (d : Nat) : ∀ (j : Nat), j + d = l.length → Ev (fun k => laws_eqSaidS.l0 k l l (j : Int)) true := by
  induction d with
  | zero => exact fun j hd => Ev.step (f := fun _ => some true) (fun k => by simp only [laws_eqSaidS.l0]; rw [if_neg (by omega)]) (Ev.now _)
  | succ d ih => exact fun j hd => Ev.step (fun k => by simp only [laws_eqSaidS.l0, laws_eqSaid.f, if_true, Option.bind_some]; rw [if_pos (by omega), if_pos (by omega), if_pos (by omega), wsucc (by omega)]) (ih (j + 1) (by omega))
theorem eqSaidS_ev (l : List S85) (hl : l.length ≤ 9223372036854775807) : Ev (fun k => laws_eqSaidS.f k l l) true :=
  Ev.congr (fun k => by simp only [laws_eqSaidS.f, if_true]; rfl) (eqSaidS_l0 l hl l.length 0 (by omega))

theorem l1In_eq (n lo hi : Int) : spec_l1In.f n lo hi = some (decide (lo ≤ n ∧ n ≤ hi)) := by
  simp only [spec_l1In.f]
  by_cases h : n ≥ lo
  · rw [if_pos h]; congr 1; simp; intro _; exact h
  · rw [if_neg h]; congr 1; simp; intro h'; omega
theorem l1In_tells (n lo hi : Int) : Tells (fun _ => spec_l1In.f n lo hi) (lo ≤ n ∧ n ≤ hi) := by
  simp only [l1In_eq]; exact tells_some (by simp)

/-- How many operands an operator of formulas has, -1 for no operator. -/
def needS (op : Int) : Int := if op = 1 ∨ op = 2 then 0 else if op = 3 ∨ op = 4 then 1 else if op = 5 ∨ op = 6 ∨ op = 7 ∨ op = 8 then 2 else -1
def nOk (x : S85) : Prop := if x.f0 = 1 then 0 ≤ x.f1 ∧ x.f1 ≤ 2 else if x.f0 = 2 then 0 ≤ x.f1 ∧ x.f1 ≤ 1 else x.f1 = 0
/-- The rest of a formula behind c values. -/
def gs : List S85 → Int → Prop
  | [], c => c = 1
  | x :: t, c => 0 ≤ needS x.f0 ∧ nOk x ∧ needS x.f0 ≤ c ∧ gs t (c + (1 - needS x.f0))
def GoodS (l : List S85) : Prop := 1 ≤ l.length ∧ l.length ≤ 16 ∧ gs l 0
theorem need_cases (op : Int) : (needS op = 0 ∧ (op = 1 ∨ op = 2)) ∨ (needS op = 1 ∧ (op = 3 ∨ op = 4)) ∨ (needS op = 2 ∧ (op = 5 ∨ op = 6 ∨ op = 7 ∨ op = 8)) ∨ (needS op = -1 ∧ op ≠ 1 ∧ op ≠ 2 ∧ op ≠ 3 ∧ op ≠ 4 ∧ op ≠ 5 ∧ op ≠ 6 ∧ op ≠ 7 ∧ op ≠ 8) := by
  unfold needS
  by_cases h1 : op = 1 ∨ op = 2
  · rw [if_pos h1]; exact .inl ⟨rfl, h1⟩
  rw [if_neg h1]
  by_cases h2 : op = 3 ∨ op = 4
  · rw [if_pos h2]; exact .inr (.inl ⟨rfl, h2⟩)
  rw [if_neg h2]
  by_cases h3 : op = 5 ∨ op = 6 ∨ op = 7 ∨ op = 8
  · rw [if_pos h3]; exact .inr (.inr (.inl ⟨rfl, h3⟩))
  rw [if_neg h3]
  exact .inr (.inr (.inr ⟨rfl, by omega, by omega, by omega, by omega, by omega, by omega, by omega, by omega⟩))
theorem need_le (op : Int) : -1 ≤ needS op ∧ needS op ≤ 2 := by rcases need_cases op with ⟨h, _⟩ | ⟨h, _⟩ | ⟨h, _⟩ | ⟨h, _⟩ <;> omega

theorem l10Need_ev (op : Int) : Ev (fun k => spec_l10Need.f k op) (needS op) := by
  refine ev_from 2 (fun m => ?_)
  simp only [spec_l10Need.f, spec_l10Need.j0, spec_l10Need.j1]
  rcases need_cases op with ⟨e, h⟩ | ⟨e, h⟩ | ⟨e, h⟩ | ⟨e, h⟩ <;> rw [e]
  · rcases h with rfl | rfl <;> simp
  · rcases h with rfl | rfl <;> simp
  · rcases h with rfl | rfl | rfl | rfl <;> simp
  · simp [h]

theorem l10N_tells (x : S85) : Tells (fun _ => spec_l10N.f x.f0 x.f1) (nOk x) := by
  simp only [spec_l10N.f, nOk]
  by_cases h1 : x.f0 = 1
  · simp only [if_pos h1]
    exact tells_ask (l1In_tells _ _ _) (fun h => tells_yes h) (fun h => tells_no h)
  simp only [if_neg h1]
  by_cases h2 : x.f0 = 2
  · simp only [if_pos h2]
    exact tells_ask (l1In_tells _ _ _) (fun h => tells_yes h) (fun h => tells_no h)
  simp only [if_neg h2]
  exact tells_some (by simp)

theorem spec_GoodSaid_l0 (l : List S85) (hl : l.length ≤ 16) (d : Nat) : ∀ (j : Nat) (c : Int), 0 ≤ c → c ≤ j → j + d = l.length →
    Tells (fun k => spec_GoodSaid.l0 k c l (l.length : Int) (j : Int)) (gs (l.drop j) c) := by
  induction d with
  | zero =>
    intro j c h0 h1 hd
    refine tells_step (f := fun _ => some (c == 1)) (fun k => by simp only [spec_GoodSaid.l0]; rw [if_neg (by omega)]) (tells_some ?_)
    rw [List.drop_of_length_le (by omega)]; simp [gs]
  | succ d ih =>
    intro j c h0 h1 hd
    have hj : j < l.length := by omega
    have er : rd_T85 l (j : Int) = l.getD j z85 := by simp [rd_T85]
    refine tells_step (fun k => by simp only [spec_GoodSaid.l0]; rw [if_pos (by omega), if_pos (by omega), if_pos (by omega), wsucc (by omega), er]) ?_
    rw [drop_cons hj z85]
    generalize l.getD j z85 = x
    have hn := need_le x.f0
    refine tells_bind (l10Need_ev x.f0) (tells_if (fun h => tells_no (fun g => by have := g.1; omega)) (fun h => ?_))
    refine tells_ask (l10N_tells x) (fun hx => tells_pos rfl ?_) (fun hx => tells_neg (by simp) (tells_no (fun g => hx g.2.1)))
    refine tells_if (fun h2 => tells_no (fun g => by have := g.2.2.1; omega)) (fun h2 => ?_)
    rw [wid (x := 1 - needS x.f0) (by omega) (by omega), wid (by omega) (by omega)]
    exact tells_iff (ih (j + 1) _ (by omega) (by omega) (by omega)) ⟨fun g => ⟨by omega, hx, by omega, g⟩, fun g => g.2.2.2⟩
theorem spec_GoodSaid_tells (l : List S85) (hl : l.length ≤ 9223372036854775807) : Tells (fun k => spec_GoodSaid.f k l) (GoodS l) := by
  refine tells_ask (l1In_tells _ _ _) (fun h => tells_pos rfl ?_) (fun h => tells_neg (by simp) (tells_no (fun g => h ⟨by have := g.1; omega, by have := g.2.1; omega⟩)))
  exact tells_iff (spec_GoodSaid_l0 l (by omega) l.length 0 0 (by omega) (by omega) (by omega)) ⟨fun g => ⟨by omega, by omega, by simpa using g⟩, fun g => by simpa using g.2.2⟩

/-- Each negation follows an atom. -/
def pushAt (l : List S85) (i : Nat) : Prop := (l.getD i z85).f0 = 3 → (l.getD (i - 1) z85).f0 = 1
theorem good_first {l : List S85} (h : GoodS l) : (l.getD 0 z85).f0 ≠ 3 := by
  intro e
  have hl := h.1
  have hg := h.2.2
  have hd := drop_cons (l := l) (j := 0) (by omega) z85
  rw [List.drop_zero] at hd
  rw [hd] at hg
  have := hg.2.2.1
  rw [e] at this
  simp [needS] at this
theorem from_hereS {n j : Nat} {P : Nat → Prop} (hj : j < n) : (∀ i, j ≤ i → i < n → P i) ↔ P j ∧ ∀ i, j + 1 ≤ i → i < n → P i :=
  ⟨fun h => ⟨h j (Nat.le_refl _) hj, fun i h1 h2 => h i (by omega) h2⟩, fun ⟨h0, h⟩ i h1 h2 => by
    rcases Nat.eq_or_lt_of_le h1 with e | e
    · exact e ▸ h0
    · exact h i e h2⟩
open Classical in
theorem spec_IsPushed_l0 (l : List S85) (hg : GoodS l) (d : Nat) : ∀ (j : Nat), j + d = l.length →
    Ev (fun k => spec_IsPushed.l0 k l l (l.length : Int) (j : Int)) (decide (∀ i, j ≤ i → i < l.length → pushAt l i), true) := by
  have hl := hg.2.1
  induction d with
  | zero =>
    intro j hd
    rw [decide_eq_true (fun i h1 h2 => by omega)]
    exact Ev.step (f := fun _ => some (true, true)) (fun k => by simp only [spec_IsPushed.l0]; rw [if_neg (by omega)]) (Ev.now _)
  | succ d ih =>
    intro j hd
    have hj : j < l.length := by omega
    have er : ∀ i : Nat, rd_T85 l (i : Int) = l.getD i z85 := fun i => by simp [rd_T85]
    refine Ev.step (fun k => by simp only [spec_IsPushed.l0]; rw [if_pos (by omega), if_pos (by omega), if_pos (by omega), wsucc (by omega), er]) ?_
    have hf := from_hereS (P := pushAt l) hj
    by_cases h3 : (l.getD j z85).f0 = 3
    · have h0 : 0 < j := by
        rcases Nat.eq_zero_or_pos j with rfl | h
        · exact absurd h3 (good_first hg)
        · exact h
      refine ev_pos h3 ?_
      rw [wpred h0 (by omega), er]
      refine ev_pos (by omega) (ev_pos (by omega) ?_)
      by_cases h1 : (l.getD (j - 1) z85).f0 = 1
      · refine ev_pos h1 (ev_eq (ih (j + 1) (by omega)) ?_)
        congr 1
        rw [decide_eq_decide, hf]
        exact ⟨fun h => ⟨fun _ => h1, h⟩, fun h => h.2⟩
      · refine ev_neg h1 ?_
        rw [decide_eq_false (fun h => h1 ((hf.1 h).1 h3))]
        exact Ev.now _
    · refine ev_neg h3 (ev_eq (ih (j + 1) (by omega)) ?_)
      congr 1
      rw [decide_eq_decide, hf]
      exact ⟨fun h => ⟨fun h4 => absurd h4 h3, h⟩, fun h => h.2⟩

theorem operandsOfSaid_ev (op : Int) : Ev (fun k => impl_operandsOfSaid.f k op) (needS op) := by
  refine ev_from 2 (fun m => ?_)
  simp only [impl_operandsOfSaid.f, impl_operandsOfSaid.j0, impl_operandsOfSaid.j1]
  rcases need_cases op with ⟨e, h⟩ | ⟨e, h⟩ | ⟨e, h⟩ | ⟨e, h⟩ <;> rw [e]
  · rcases h with rfl | rfl <;> simp
  · rcases h with rfl | rfl <;> simp
  · rcases h with rfl | rfl | rfl | rfl <;> simp
  · simp [h]

theorem isSaid_tells (x : S85) : Tells (fun k => impl_isSaid.f k x.f0 x.f1) (0 ≤ needS x.f0 ∧ nOk x) := by
  simp only [impl_isSaid.f, nOk]
  rcases need_cases x.f0 with ⟨e, h⟩ | ⟨e, h⟩ | ⟨e, h⟩ | ⟨e, h⟩
  · rcases h with h | h
    · simp only [h, if_true]
      refine tells_if (fun h1 => tells_some ?_) (fun h1 => tells_no (fun g => by have := g.2.1; omega))
      simp [needS]; omega
    · simp only [h, if_neg (show ¬ ((2 : Int) = 1) by decide), if_true]
      refine tells_if (fun h1 => tells_yes ⟨by simp [needS], by omega, by omega⟩) (fun h1 => tells_some ?_)
      simp [needS]; omega
  · have h1 : ¬ (x.f0 = 1) := by omega
    have h2 : ¬ (x.f0 = 2) := by omega
    simp only [if_neg h1, if_neg h2]
    refine tells_bind (operandsOfSaid_ev x.f0) (tells_pos (by omega) (tells_some ?_))
    simp [e]
  · have h1 : ¬ (x.f0 = 1) := by omega
    have h2 : ¬ (x.f0 = 2) := by omega
    simp only [if_neg h1, if_neg h2]
    refine tells_bind (operandsOfSaid_ev x.f0) (tells_pos (by omega) (tells_some ?_))
    simp [e]
  · simp only [if_neg h.1, if_neg h.2.1]
    refine tells_bind (operandsOfSaid_ev x.f0) (tells_neg (by omega) (tells_no (fun g => by omega)))

theorem impl_GoodSaid_l0 (l : List S85) (hl : l.length ≤ 16) (d : Nat) : ∀ (j : Nat) (c : Int), 0 ≤ c → c ≤ j → j + d = l.length →
    Tells (fun k => impl_GoodSaid.l0 k c l (l.length : Int) (j : Int)) (gs (l.drop j) c) := by
  induction d with
  | zero =>
    intro j c h0 h1 hd
    refine tells_step (f := fun _ => some (c == 1)) (fun k => by simp only [impl_GoodSaid.l0]; rw [if_neg (by omega)]) (tells_some ?_)
    rw [List.drop_of_length_le (by omega)]; simp [gs]
  | succ d ih =>
    intro j c h0 h1 hd
    have hj : j < l.length := by omega
    have er : rd_T85 l (j : Int) = l.getD j z85 := by simp [rd_T85]
    refine tells_step (fun k => by simp only [impl_GoodSaid.l0]; rw [if_pos (by omega), if_pos (by omega), if_pos (by omega), wsucc (by omega), er]) ?_
    rw [drop_cons hj z85]
    generalize l.getD j z85 = x
    have hn := need_le x.f0
    refine tells_bind (operandsOfSaid_ev x.f0) ?_
    refine tells_ask (isSaid_tells x) (fun hx => tells_pos rfl ?_) (fun hx => tells_neg (by simp) (tells_no (fun g => hx ⟨g.1, g.2.1⟩)))
    refine tells_if (fun h2 => tells_no (fun g => by have := g.2.2.1; omega)) (fun h2 => ?_)
    rw [wid (x := 1 - needS x.f0) (by omega) (by omega), wid (by omega) (by omega)]
    exact tells_iff (ih (j + 1) _ (by omega) (by omega) (by omega)) ⟨fun g => ⟨hx.1, hx.2, by omega, g⟩, fun g => g.2.2.2⟩
theorem impl_GoodSaid_tells (l : List S85) (hl : l.length ≤ 9223372036854775807) : Tells (fun k => impl_GoodSaid.f k l) (GoodS l) := by
  refine tells_if (fun h => ?_) (fun h => ?_)
  · exact tells_step (f := fun _ => some false) (fun k => by simp only [impl_GoodSaid.j0, if_true]) (tells_no (fun g => by have := g.1; omega))
  · by_cases h2 : (l.length : Int) > 16
    · exact tells_step (f := fun _ => some false) (fun k => by simp only [impl_GoodSaid.j0]; rw [if_pos (by simpa using h2)]) (tells_no (fun g => by have := g.2.1; omega))
    · refine tells_step (f := fun k => impl_GoodSaid.l0 k 0 l (l.length : Int) 0) (fun k => by simp only [impl_GoodSaid.j0]; rw [if_neg (by simpa using h2)]) ?_
      exact tells_iff (impl_GoodSaid_l0 l (by omega) l.length 0 0 (by omega) (by omega) (by omega)) ⟨fun g => ⟨by omega, by omega, by simpa using g⟩, fun g => by simpa using g.2.2⟩

open Classical in
theorem isPushed_l0 (l : List S85) (hg : GoodS l) (d : Nat) : ∀ (j : Nat), j + d = l.length →
    Ev (fun k => impl_isPushed.l0 k l l (l.length : Int) (j : Int)) (decide (∀ i, j ≤ i → i < l.length → pushAt l i)) := by
  have hl := hg.2.1
  induction d with
  | zero =>
    intro j hd
    rw [decide_eq_true (fun i h1 h2 => by omega)]
    exact Ev.step (f := fun _ => some true) (fun k => by simp only [impl_isPushed.l0]; rw [if_neg (by omega)]) (Ev.now _)
  | succ d ih =>
    intro j hd
    have hj : j < l.length := by omega
    have er : ∀ i : Nat, rd_T85 l (i : Int) = l.getD i z85 := fun i => by simp [rd_T85]
    refine Ev.step (fun k => by simp only [impl_isPushed.l0]; rw [if_pos (by omega), if_pos (by omega), if_pos (by omega), wsucc (by omega), er]) ?_
    have hf := from_hereS (P := pushAt l) hj
    by_cases h3 : (l.getD j z85).f0 = 3
    · have h0 : 0 < j := by
        rcases Nat.eq_zero_or_pos j with rfl | h
        · exact absurd h3 (good_first hg)
        · exact h
      refine ev_pos h3 ?_
      rw [wpred h0 (by omega), er]
      refine ev_pos (by omega) (ev_pos (by omega) ?_)
      by_cases h1 : (l.getD (j - 1) z85).f0 = 1
      · refine ev_pos h1 (ev_eq (ih (j + 1) (by omega)) ?_)
        rw [decide_eq_decide, hf]
        exact ⟨fun h => ⟨fun _ => h1, h⟩, fun h => h.2⟩
      · refine ev_neg h1 ?_
        rw [decide_eq_false (fun h => h1 ((hf.1 h).1 h3))]
        exact Ev.now _
    · refine ev_neg h3 (ev_eq (ih (j + 1) (by omega)) ?_)
      rw [decide_eq_decide, hf]
      exact ⟨fun h => ⟨fun h4 => absurd h4 h3, h⟩, fun h => h.2⟩

theorem IsPushed_both (l : List S85) (hl : l.length ≤ 9223372036854775807) : ∃ r, Ev (fun k => spec_IsPushed.f k l) r ∧ Ev (fun k => impl_IsPushed.f k l) r := by
  by_cases hg : GoodS l
  · refine ⟨_, (Ev.bind (tells_ev (spec_GoodSaid_tells l hl) hg) (ev_pos rfl (spec_IsPushed_l0 l hg l.length 0 (by omega)))), ?_⟩
    exact (Ev.bind (tells_ev (impl_GoodSaid_tells l hl) hg) (ev_pos rfl (Ev.bind ((isPushed_l0 l hg l.length 0 (by omega))) (Ev.now _))))
  · refine ⟨(false, false), (Ev.bind (tells_ev_not (spec_GoodSaid_tells l hl) hg) (ev_neg (by simp) (Ev.now _))), ?_⟩
    exact (Ev.bind (tells_ev_not (impl_GoodSaid_tells l hl) hg) (ev_neg (by simp) (Ev.now _)))

theorem FnExactIsPushed : ∀ (l0 : List (S88)), (l0.length ≤ 9223372036854775807 ∧ ∀ x ∈ l0, (In64 x.f0) ∧ (In64 x.f1)) → ∃ k, laws_FnExactIsPushed.f k l0 = some true := by
  intro l hg
  refine Ev.rounds ?_
  refine Ev.bind (ev_const (szSaidS_eq l hg.1)) ?_
  by_cases h : l.length ≤ 1048576
  · rw [if_pos h]
    refine ev_neg (by omega) ?_
    have hm : (l.map cSaid).length ≤ 9223372036854775807 := by simp; omega
    obtain ⟨b, hb, hb'⟩ := IsPushed_both _ hm
    refine Ev.bind (toSaidS_ev l h) (Ev.bind hb (Ev.bind (toSaidS_ev l h) (Ev.bind hb' (ev_neg (by simp) ?_))))
    refine Ev.step (fun k => by simp only [laws_FnExactIsPushed.j0]; rw [if_neg (by simp)]) ?_
    exact Ev.bind (toSaidS_ev l h) (Ev.bind (eqSaidS_ev _ hm) (ev_pos rfl (Ev.now _)))
  · rw [if_neg h]
    exact ev_pos (by omega) (Ev.now _)

end Go.Proofs.Ytdaodonjikaalaa.Pure
