/- The pure statement of the law FnExactJoinSaid: what the printed functions compute makes the law true, for every input. No condition. -/
import Derived.Test.YtbgbidgnlioomaaOpen
import Derived.Test.YtbgbidgnlioomaaAid
import Derived.Test.YtbgbidgnlioomaaP52
set_option linter.unusedVariables false
set_option linter.unusedSimpArgs false
namespace Go.Proofs.Ytbgbidgnlioomaa.Pure
open Go.RowKit Go.Proofs.YtbgbidgnlioomaaW.PrintWords Go.Proofs.Ytbgbidgnlioomaa.P Go.Proofs.Ytbgbidgnlioomaa.Hof Go.Proofs.Ytbgbidgnlioomaa.Open Go.Proofs.Ytbgbidgnlioomaa.Aid
-- LEMMAS
theorem szSaidS_eq (l : List S89) (hl : l.length ≤ 9223372036854775807) : laws_szSaidS.f l 1048576 = some (if l.length ≤ 1048576 then 1048576 - (l.length : Int) else -1) := by
  have e : wrap64 (1048576 - (l.length : Int)) = 1048576 - l.length := wid (by omega) (by omega)
  simp only [laws_szSaidS.f]
  rw [e]
  by_cases h : l.length ≤ 1048576
  · rw [if_neg (by omega), if_pos h]
  · rw [if_pos (by omega), if_neg h]
theorem szSaidS_eq2 (l : List S89) (n : Int) (hl : l.length ≤ 9223372036854775807) (h0 : 0 ≤ n) (h1 : n ≤ 1048576) : laws_szSaidS.f l n = some (if (l.length : Int) ≤ n then n - (l.length : Int) else -1) := by
  have e : wrap64 (n - (l.length : Int)) = n - l.length := wid (by omega) (by omega)
  simp only [laws_szSaidS.f]
  rw [e]
  by_cases h : (l.length : Int) ≤ n
  · rw [if_neg (by omega), if_pos h]
  · rw [if_pos (by omega), if_neg h]

/-- How many operands an operator of formulas has, -1 for no operator. -/
def needS (op : Int) : Int := if op = 1 ∨ op = 2 then 0 else if op = 3 ∨ op = 4 then 1 else if op = 5 ∨ op = 6 ∨ op = 7 ∨ op = 8 then 2 else -1
def nOk (x : S87) : Prop := if x.f0 = 1 then 0 ≤ x.f1 ∧ x.f1 ≤ 2 else if x.f0 = 2 then 0 ≤ x.f1 ∧ x.f1 ≤ 1 else x.f1 = 0
/-- The rest of a formula behind c values. -/
def gs : List S87 → Int → Prop
  | [], c => c = 1
  | x :: t, c => 0 ≤ needS x.f0 ∧ nOk x ∧ needS x.f0 ≤ c ∧ gs t (c + (1 - needS x.f0))
def GoodS (l : List S87) : Prop := 1 ≤ l.length ∧ l.length ≤ 16 ∧ gs l 0
theorem need_cases (op : Int) : (needS op = 0 ∧ (op = 1 ∨ op = 2)) ∨ (needS op = 1 ∧ (op = 3 ∨ op = 4)) ∨ (needS op = 2 ∧ (op = 5 ∨ op = 6 ∨ op = 7 ∨ op = 8)) ∨ (needS op = -1 ∧ op ≠ 1 ∧ op ≠ 2 ∧ op ≠ 3 ∧ op ≠ 4 ∧ op ≠ 5 ∧ op ≠ 6 ∧ op ≠ 7 ∧ op ≠ 8) := by
  unfold needS
  by_cases h1 : op = 1 ∨ op = 2
  · rw [if_pos h1]; exact .inl ⟨rfl, h1⟩
  rw [if_neg h1]
  by_cases h2 : op = 3 ∨ op = 4
  · rw [if_pos h2]; exact .inr (.inl ⟨rfl, h2⟩)
  rw [if_neg h2]
  by_cases h3 : op = 5 ∨ op = 6 ∨ op = 7 ∨ op = 8
  · rw [if_pos h3]; exact .inr (.inr (.inl ⟨rfl, h3⟩))
  rw [if_neg h3]
  exact .inr (.inr (.inr ⟨rfl, by omega, by omega, by omega, by omega, by omega, by omega, by omega, by omega⟩))
theorem need_le (op : Int) : -1 ≤ needS op ∧ needS op ≤ 2 := by rcases need_cases op with ⟨h, _⟩ | ⟨h, _⟩ | ⟨h, _⟩ | ⟨h, _⟩ <;> omega

theorem l10Need_ev (op : Int) : Ev (fun k => spec_l10Need.f k op) (needS op) := by
  refine ev_from 2 (fun m => ?_)
  simp only [spec_l10Need.f, spec_l10Need.j0, spec_l10Need.j1]
  rcases need_cases op with ⟨e, h⟩ | ⟨e, h⟩ | ⟨e, h⟩ | ⟨e, h⟩ <;> rw [e]
  · rcases h with rfl | rfl <;> simp
  · rcases h with rfl | rfl <;> simp
  · rcases h with rfl | rfl | rfl | rfl <;> simp
  · simp [h]

theorem l1In_eq (n lo hi : Int) : spec_l1In.f n lo hi = some (decide (lo ≤ n ∧ n ≤ hi)) := by
  simp only [spec_l1In.f]
  by_cases h : n ≥ lo
  · rw [if_pos h]; congr 1; simp; intro _; exact h
  · rw [if_neg h]; congr 1; simp; intro h'; omega
theorem l1In_tells (n lo hi : Int) : Tells (fun _ => spec_l1In.f n lo hi) (lo ≤ n ∧ n ≤ hi) := by
  simp only [l1In_eq]; exact tells_some (by simp)

theorem l10N_tells (x : S87) : Tells (fun _ => spec_l10N.f x.f0 x.f1) (nOk x) := by
  simp only [spec_l10N.f, nOk]
  by_cases h1 : x.f0 = 1
  · simp only [if_pos h1]
    exact tells_ask (l1In_tells _ _ _) (fun h => tells_yes h) (fun h => tells_no h)
  simp only [if_neg h1]
  by_cases h2 : x.f0 = 2
  · simp only [if_pos h2]
    exact tells_ask (l1In_tells _ _ _) (fun h => tells_yes h) (fun h => tells_no h)
  simp only [if_neg h2]
  exact tells_some (by simp)

theorem spec_GoodSaid_l0 (l : List S87) (hl : l.length ≤ 16) (d : Nat) : ∀ (j : Nat) (c : Int), 0 ≤ c → c ≤ j → j + d = l.length →
    Tells (fun k => spec_GoodSaid.l0 k c l (l.length : Int) (j : Int)) (gs (l.drop j) c) := by
  induction d with
  | zero =>
    intro j c h0 h1 hd
    refine tells_step (f := fun _ => some (c == 1)) (fun k => by simp only [spec_GoodSaid.l0]; rw [if_neg (by omega)]) (tells_some ?_)
    rw [List.drop_of_length_le (by omega)]; simp [gs]
  | succ d ih =>
    intro j c h0 h1 hd
    have hj : j < l.length := by omega
    have er : rd_T87 l (j : Int) = l.getD j z87 := by simp [rd_T87]
    refine tells_step (fun k => by simp only [spec_GoodSaid.l0]; rw [if_pos (by omega), if_pos (by omega), if_pos (by omega), wsucc (by omega), er]) ?_
    rw [drop_cons hj z87]
    generalize l.getD j z87 = x
    have hn := need_le x.f0
    refine tells_bind (l10Need_ev x.f0) (tells_if (fun h => tells_no (fun g => by have := g.1; omega)) (fun h => ?_))
    refine tells_ask (l10N_tells x) (fun hx => tells_pos rfl ?_) (fun hx => tells_neg (by simp) (tells_no (fun g => hx g.2.1)))
    refine tells_if (fun h2 => tells_no (fun g => by have := g.2.2.1; omega)) (fun h2 => ?_)
    rw [wid (x := 1 - needS x.f0) (by omega) (by omega), wid (by omega) (by omega)]
    exact tells_iff (ih (j + 1) _ (by omega) (by omega) (by omega)) ⟨fun g => ⟨by omega, hx, by omega, g⟩, fun g => g.2.2.2⟩
theorem spec_GoodSaid_tells (l : List S87) (hl : l.length ≤ 9223372036854775807) : Tells (fun k => spec_GoodSaid.f k l) (GoodS l) := by
  refine tells_ask (l1In_tells _ _ _) (fun h => tells_pos rfl ?_) (fun h => tells_neg (by simp) (tells_no (fun g => h ⟨by have := g.1; omega, by have := g.2.1; omega⟩)))
  exact tells_iff (spec_GoodSaid_l0 l (by omega) l.length 0 0 (by omega) (by omega) (by omega)) ⟨fun g => ⟨by omega, by omega, by simpa using g⟩, fun g => by simpa using g.2.2⟩

theorem operandsOfSaid_ev (op : Int) : Ev (fun k => impl_operandsOfSaid.f k op) (needS op) := by
  refine ev_from 2 (fun m => ?_)
  simp only [impl_operandsOfSaid.f, impl_operandsOfSaid.j0, impl_operandsOfSaid.j1]
  rcases need_cases op with ⟨e, h⟩ | ⟨e, h⟩ | ⟨e, h⟩ | ⟨e, h⟩ <;> rw [e]
  · rcases h with rfl | rfl <;> simp
  · rcases h with rfl | rfl <;> simp
  · rcases h with rfl | rfl | rfl | rfl <;> simp
  · simp [h]

theorem isSaid_tells (x : S87) : Tells (fun k => impl_isSaid.f k x.f0 x.f1) (0 ≤ needS x.f0 ∧ nOk x) := by
  simp only [impl_isSaid.f, nOk]
  rcases need_cases x.f0 with ⟨e, h⟩ | ⟨e, h⟩ | ⟨e, h⟩ | ⟨e, h⟩
  · rcases h with h | h
    · simp only [h, if_true]
      refine tells_if (fun h1 => tells_some ?_) (fun h1 => tells_no (fun g => by have := g.2.1; omega))
      simp [needS]; omega
    · simp only [h, if_neg (show ¬ ((2 : Int) = 1) by decide), if_true]
      refine tells_if (fun h1 => tells_yes ⟨by simp [needS], by omega, by omega⟩) (fun h1 => tells_some ?_)
      simp [needS]; omega
  · have h1 : ¬ (x.f0 = 1) := by omega
    have h2 : ¬ (x.f0 = 2) := by omega
    simp only [if_neg h1, if_neg h2]
    refine tells_bind (operandsOfSaid_ev x.f0) (tells_pos (by omega) (tells_some ?_))
    simp [e]
  · have h1 : ¬ (x.f0 = 1) := by omega
    have h2 : ¬ (x.f0 = 2) := by omega
    simp only [if_neg h1, if_neg h2]
    refine tells_bind (operandsOfSaid_ev x.f0) (tells_pos (by omega) (tells_some ?_))
    simp [e]
  · simp only [if_neg h.1, if_neg h.2.1]
    refine tells_bind (operandsOfSaid_ev x.f0) (tells_neg (by omega) (tells_no (fun g => by omega)))

theorem impl_GoodSaid_l0 (l : List S87) (hl : l.length ≤ 16) (d : Nat) : ∀ (j : Nat) (c : Int), 0 ≤ c → c ≤ j → j + d = l.length →
    Tells (fun k => impl_GoodSaid.l0 k c l (l.length : Int) (j : Int)) (gs (l.drop j) c) := by
  induction d with
  | zero =>
    intro j c h0 h1 hd
    refine tells_step (f := fun _ => some (c == 1)) (fun k => by simp only [impl_GoodSaid.l0]; rw [if_neg (by omega)]) (tells_some ?_)
    rw [List.drop_of_length_le (by omega)]; simp [gs]
  | succ d ih =>
    intro j c h0 h1 hd
    have hj : j < l.length := by omega
    have er : rd_T87 l (j : Int) = l.getD j z87 := by simp [rd_T87]
    refine tells_step (fun k => by simp only [impl_GoodSaid.l0]; rw [if_pos (by omega), if_pos (by omega), if_pos (by omega), wsucc (by omega), er]) ?_
    rw [drop_cons hj z87]
    generalize l.getD j z87 = x
    have hn := need_le x.f0
    refine tells_bind (operandsOfSaid_ev x.f0) ?_
    refine tells_ask (isSaid_tells x) (fun hx => tells_pos rfl ?_) (fun hx => tells_neg (by simp) (tells_no (fun g => hx ⟨g.1, g.2.1⟩)))
    refine tells_if (fun h2 => tells_no (fun g => by have := g.2.2.1; omega)) (fun h2 => ?_)
    rw [wid (x := 1 - needS x.f0) (by omega) (by omega), wid (by omega) (by omega)]
    exact tells_iff (ih (j + 1) _ (by omega) (by omega) (by omega)) ⟨fun g => ⟨hx.1, hx.2, by omega, g⟩, fun g => g.2.2.2⟩
theorem impl_GoodSaid_tells (l : List S87) (hl : l.length ≤ 9223372036854775807) : Tells (fun k => impl_GoodSaid.f k l) (GoodS l) := by
  refine tells_if (fun h => ?_) (fun h => ?_)
  · exact tells_step (f := fun _ => some false) (fun k => by simp only [impl_GoodSaid.j0, if_true]) (tells_no (fun g => by have := g.1; omega))
  · by_cases h2 : (l.length : Int) > 16
    · exact tells_step (f := fun _ => some false) (fun k => by simp only [impl_GoodSaid.j0]; rw [if_pos (by simpa using h2)]) (tells_no (fun g => by have := g.2.1; omega))
    · refine tells_step (f := fun k => impl_GoodSaid.l0 k 0 l (l.length : Int) 0) (fun k => by simp only [impl_GoodSaid.j0]; rw [if_neg (by simpa using h2)]) ?_
      exact tells_iff (impl_GoodSaid_l0 l (by omega) l.length 0 0 (by omega) (by omega) (by omega)) ⟨fun g => ⟨by omega, by omega, by simpa using g⟩, fun g => by simpa using g.2.2⟩

def chk (l : List S87) (r : List S87 × Bool) : Prop := (GoodS l ∧ r = (l, true)) ∨ (¬ GoodS l ∧ r = ([], false))
theorem checkedSaid_ev (l : List S87) (hl : l.length ≤ 9223372036854775807) {r : List S87 × Bool} (h : chk l r) : Ev (fun k => impl_checkedSaid.f k l) r := by
  rcases h with ⟨g, rfl⟩ | ⟨g, rfl⟩
  · exact Ev.bind (tells_ev (impl_GoodSaid_tells l hl) g) (ev_pos rfl (Ev.now _))
  · exact Ev.bind (tells_ev_not (impl_GoodSaid_tells l hl) g) (ev_neg (by simp) (Ev.now _))
theorem chk_ex (l : List S87) : ∃ r, chk l r ∧ r.1.length ≤ 16 := by
  by_cases h : GoodS l
  · exact ⟨_, .inl ⟨h, rfl⟩, h.2.1⟩
  · exact ⟨_, .inr ⟨h, rfl⟩, by simp⟩

theorem l10Made_ev (l : List S87) (hl : l.length ≤ 9223372036854775807) {r : List S87 × Bool} (h : chk l r) : Ev (fun k => spec_l10Made.f k l) r := by
  rcases h with ⟨g, rfl⟩ | ⟨g, rfl⟩
  · exact Ev.bind (tells_ev (spec_GoodSaid_tells l hl) g) (ev_pos rfl (Ev.now _))
  · exact Ev.bind (tells_ev_not (spec_GoodSaid_tells l hl) g) (ev_neg (by simp) (Ev.now _))

def cSaid (x : S89) : S87 := ⟨x.f0, x.f1⟩
theorem toSaidS_l0 (l : List S89) (hl : l.length ≤ 1048576) (d : Nat) : ∀ (j : Nat) (y : List S87), y.length = l.length → j + d = l.length → Ev (fun k => laws_toSaidS.l0 k l y (j : Int)) (y.take j ++ (l.map cSaid).drop j) := by
  induction d with
  | zero =>
    intro j y hy hd
    rw [take_all_drop (xs := y) (ys := l.map cSaid) (by simpa using hy) (by simp; omega)]
    exact Ev.step (f := fun _ => some y) (fun k => by simp only [laws_toSaidS.l0]; rw [if_neg (by omega)]) (Ev.now y)
  | succ d ih =>
    intro j y hy hd
    have er : rd_T89 l (j : Int) = l.getD j z89 := by simp [rd_T89]
    refine Ev.step (f := fun k => laws_toSaidS.l0 k l (y.set j (cSaid (l.getD j z89))) ((j + 1 : Nat) : Int)) (fun k => by simp only [laws_toSaidS.l0, laws_toSaid.f, Option.bind_some]; rw [if_pos (by omega), if_pos (by omega), if_pos (by omega), wsucc (by omega), er]; rfl) ?_
    refine ev_eq (ih (j + 1) _ (by simpa using hy) (by omega)) (copy_step (by omega) (by simp; omega) ?_)
    rw [getD_eq (l := l.map cSaid) (by simp; omega), getD_eq (l := l) (by omega)]; simp
theorem toSaidS_ev (l : List S89) (hl : l.length ≤ 1048576) : Ev (fun k => laws_toSaidS.f k l) (l.map cSaid) := by
  refine Ev.congr (f := fun k => laws_toSaidS.l0 k l (List.replicate l.length z87) ((0 : Nat) : Int)) (fun k => by simp only [laws_toSaidS.f]; rw [if_pos (by omega), if_pos (by simp only [Int.toNat_natCast]; omega)]; rfl) ?_
  exact ev_eq (toSaidS_l0 l hl l.length 0 _ (by simp) (by omega)) (by simp)

theorem growSaid_eq (x : Int) (h0 : 0 ≤ x) (h1 : x ≤ 1048576) : impl_Said_120.f x = some [] := by
  rw [impl_Said_120.f, if_pos h0, if_pos (by omega)]
theorem concatSaid_l1 (ls : List (List S87)) (hf : ls.flatten.length ≤ 1048576) (hl : ls.length ≤ 1048576) (d : Nat) : ∀ (j : Nat), j + d = ls.length → Ev (fun k => impl_Said_68.l1 k (ls.take j).flatten ls (ls.length : Int) (j : Int)) ls.flatten := by
  induction d with
  | zero =>
    intro j hd
    refine ev_eq (Ev.step (f := fun _ => some (ls.take j).flatten) (fun k => by simp only [impl_Said_68.l1]; rw [if_neg (by omega)]) (Ev.now _)) ?_
    rw [List.take_of_length_le (by omega)]
  | succ d ih =>
    intro j hd
    have hj : j < ls.length := by omega
    have er : rd_L6 ls (j : Int) = ls[j] := by simp [rd_L6, List.getElem?_eq_getElem hj]
    have et : (ls.take (j + 1)).flatten = (ls.take j).flatten ++ ls[j] := by rw [List.take_succ_eq_append_getElem hj, List.flatten_append]; simp
    have eL : (ls.take (j + 1)).flatten.length ≤ ls.flatten.length := by
      conv => rhs; rw [← List.take_append_drop (j + 1) ls, List.flatten_append, List.length_append]
      omega
    have e3 := congrArg List.length et
    rw [List.length_append] at e3
    refine Ev.step (fun k => by simp only [impl_Said_68.l1]; rw [if_pos (by omega), if_pos (by omega), if_pos (by omega), er, if_pos (by omega), wsucc (by omega), ← et]) (ih (j + 1) (by omega))
theorem concatSaid_l0 (ls : List (List S87)) (hf : ls.flatten.length ≤ 1048576) (hl : ls.length ≤ 1048576) (d : Nat) : ∀ (j : Nat), j + d = ls.length → Ev (fun k => impl_Said_68.l0 k ls ((ls.take j).flatten.length : Int) ls (ls.length : Int) (j : Int)) ls.flatten := by
  induction d with
  | zero =>
    intro j hd
    have e1 : ls.take j = ls := List.take_of_length_le (by omega)
    rw [e1]
    refine Ev.step (fun k => by simp only [impl_Said_68.l0]; rw [if_neg (by omega), growSaid_eq _ (by omega) (by omega), Option.bind_some]) ?_
    exact concatSaid_l1 ls hf hl ls.length 0 (by omega)
  | succ d ih =>
    intro j hd
    have hj : j < ls.length := by omega
    have er : rd_L6 ls (j : Int) = ls[j] := by simp [rd_L6, List.getElem?_eq_getElem hj]
    have et : (ls.take (j + 1)).flatten = (ls.take j).flatten ++ ls[j] := by rw [List.take_succ_eq_append_getElem hj, List.flatten_append]; simp
    have eL : (ls.take (j + 1)).flatten.length ≤ ls.flatten.length := by
      conv => rhs; rw [← List.take_append_drop (j + 1) ls, List.flatten_append, List.length_append]
      omega
    have e3 := congrArg List.length et
    rw [List.length_append] at e3
    have e4 : wrap64 (((ls.take j).flatten.length : Int) + (ls[j].length : Int)) = ((ls.take (j + 1)).flatten.length : Int) := by rw [wid (by omega) (by omega)]; omega
    refine Ev.step (fun k => by simp only [impl_Said_68.l0]; rw [if_pos (by omega), if_pos (by omega), if_pos (by omega), er, e4, if_neg (by omega), wsucc (by omega)]) (ih (j + 1) (by omega))
theorem concatSaid_ev (ls : List (List S87)) (hf : ls.flatten.length ≤ 1048576) (hl : ls.length ≤ 1048576) : Ev (fun k => impl_Said_68.f k ls) ls.flatten :=
  concatSaid_l0 ls hf hl ls.length 0 (by omega)

theorem JoinSaid_both (op : Int) (a b : List S87) (ha : a.length ≤ 9223372036854775807) (hb : b.length ≤ 9223372036854775807) : ∃ r, Ev (fun k => spec_JoinSaid.f k op a b) r ∧ Ev (fun k => impl_JoinSaid.f k op a b) r ∧ r.1.length ≤ 16 := by
  have hno : ∀ k, impl_JoinSaid.j0 (k + 1) op a b true = some (([] : List S87), false) := fun k => by simp only [impl_JoinSaid.j0]; rw [if_pos trivial]
  by_cases h1 : needS op = 2
  · by_cases hg : GoodS a
    · by_cases hg2 : GoodS b
      · obtain ⟨r, hr, hlen⟩ := chk_ex (a ++ b ++ [⟨op, 0⟩])
        have h16 := hg.2.1
        have h17 := hg2.2.1
        refine ⟨r, ?_, ?_, hlen⟩
        · refine Ev.bind (l10Need_ev op) (ev_pos h1 (Ev.bind (tells_ev (spec_GoodSaid_tells a ha) hg) (ev_pos rfl (Ev.bind (tells_ev (spec_GoodSaid_tells b hb) hg2) (ev_pos rfl ?_)))))
          refine Ev.bind (Ev.now _) (ev_pos (by simp; omega) (Ev.bind (Ev.now _) (ev_pos (by simp; omega) (Ev.bind (Ev.now _) (ev_pos (by simp; omega) ?_)))))
          exact Ev.bind (l10Made_ev _ (by simp; omega) hr) (Ev.now _)
        · refine Ev.bind (operandsOfSaid_ev op) (ev_pos h1 (Ev.bind (tells_ev (impl_GoodSaid_tells a ha) hg) (ev_pos rfl (Ev.bind (tells_ev (impl_GoodSaid_tells b hb) hg2) ?_))))
          refine Ev.step (fun k => by simp only [impl_JoinSaid.j0]; rw [if_neg (by simp)]) ?_
          have hc := concatSaid_ev [a, b, [⟨op, 0⟩]] (by simp; omega) (by simp)
          refine Ev.bind hc (Ev.bind (checkedSaid_ev _ (by simp; omega) (r := r) (by simpa [List.append_assoc] using hr)) (Ev.now _))
      · refine ⟨([], false), ?_, ?_, by simp⟩
        · exact Ev.bind (l10Need_ev op) (ev_pos h1 (Ev.bind (tells_ev (spec_GoodSaid_tells a ha) hg) (ev_pos rfl (Ev.bind (tells_ev_not (spec_GoodSaid_tells b hb) hg2) (ev_neg (by simp) (Ev.now _))))))
        · exact Ev.bind (operandsOfSaid_ev op) (ev_pos h1 (Ev.bind (tells_ev (impl_GoodSaid_tells a ha) hg) (ev_pos rfl (Ev.bind (tells_ev_not (impl_GoodSaid_tells b hb) hg2) (Ev.step (fun k => hno k) (Ev.now _))))))
    · refine ⟨([], false), ?_, ?_, by simp⟩
      · exact Ev.bind (l10Need_ev op) (ev_pos h1 (Ev.bind (tells_ev_not (spec_GoodSaid_tells a ha) hg) (ev_neg (by simp) (Ev.now _))))
      · exact Ev.bind (operandsOfSaid_ev op) (ev_pos h1 (Ev.bind (tells_ev_not (impl_GoodSaid_tells a ha) hg) (ev_neg (by simp) (Ev.step (fun k => hno k) (Ev.now _)))))
  · exact ⟨([], false), Ev.bind (l10Need_ev op) (ev_neg h1 (Ev.now _)), Ev.bind (operandsOfSaid_ev op) (ev_neg h1 (Ev.step (fun k => hno k) (Ev.now _))), by simp⟩

theorem eqSaidS_l0 (l : List S87) (hl : l.length ≤ 9223372036854775807) (d : Nat) : ∀ (j : Nat), j + d = l.length → Ev (fun k => laws_eqSaidS.l0 k l l (j : Int)) true := by
  induction d with
  | zero => exact fun j hd => Ev.step (f := fun _ => some true) (fun k => by simp only [laws_eqSaidS.l0]; rw [if_neg (by omega)]) (Ev.now _)
  | succ d ih => exact fun j hd => Ev.step (fun k => by simp only [laws_eqSaidS.l0, laws_eqSaid.f, if_true, Option.bind_some]; rw [if_pos (by omega), if_pos (by omega), if_pos (by omega), wsucc (by omega)]) (ih (j + 1) (by omega))
theorem eqSaidS_ev (l : List S87) (hl : l.length ≤ 9223372036854775807) : Ev (fun k => laws_eqSaidS.f k l l) true :=
  Ev.congr (fun k => by simp only [laws_eqSaidS.f, if_true]; rfl) (eqSaidS_l0 l hl l.length 0 (by omega))

def cntS : Nat → Int → List S87
  | 0, _ => []
  | n + 1, a => ⟨a, a + 1⟩ :: cntS n (a + 2)
theorem cntS_length : ∀ n a, (cntS n a).length = n
  | 0, _ => rfl
  | n + 1, a => by simp [cntS, cntS_length n]
theorem markSaidS_l0 (d : Nat) : ∀ (j : Nat) (y : List S87) (a : Int), j + d = y.length → y.length ≤ 1048576 → 0 ≤ a → a + 2 * d ≤ 4611686018427387904 → Ev (fun k => laws_markSaidS.l0 k y a (j : Int)) (a + 2 * d, y.take j ++ cntS d a) := by
  induction d with
  | zero =>
    intro j y a hd hy h0 h1
    refine ev_eq (Ev.step (f := fun _ => some (a, y)) (fun k => by simp only [laws_markSaidS.l0]; rw [if_neg (by omega)]) (Ev.now _)) ?_
    rw [List.take_of_length_le (by omega)]; simp [cntS]
  | succ d ih =>
    intro j y a hd hy h0 h1
    have hj : j < y.length := by omega
    have e0 : (rd_T87 (y.set j (⟨a, (rd_T87 y (j : Int)).f1⟩ : S87)) (j : Int)).f0 = a := by
      simp [rd_T87, List.getD_eq_getElem?_getD, hj]
    refine Ev.step (f := fun k => laws_markSaidS.l0 k (y.set j ⟨a, a + 1⟩) (a + 2) ((j + 1 : Nat) : Int)) (fun k => by
      simp only [laws_markSaidS.l0, Option.bind_some, Int.toNat_natCast]
      rw [if_pos (by omega), if_pos (by omega), wsucc (by omega), wid (x := a + 1) (by omega) (by omega), wid (x := a + 1 + 1) (by omega) (by omega), e0, List.set_set, show a + 1 + 1 = a + 2 by omega]) ?_
    refine ev_eq (ih (j + 1) (y.set j ⟨a, a + 1⟩) (a + 2) (by simp; omega) (by simpa using hy) (by omega) (by omega)) ?_
    rw [List.take_succ_eq_append_getElem (by simp; omega), List.take_set_of_le (Nat.le_refl j)]
    simp [cntS]; omega
theorem markSaidS_ev (y : List S87) (a : Int) (hy : y.length ≤ 1048576) (h0 : 0 ≤ a) (h1 : a ≤ 1152921504606846976) : Ev (fun k => laws_markSaidS.f k y a) (a + 2 * y.length, cntS y.length a) :=
  ev_eq (markSaidS_l0 y.length 0 y a (by omega) hy h0 (by omega)) (by simp)

theorem heldSaidS_l0 (y : List S87) (hy : y.length ≤ 1048576) (d : Nat) : ∀ (j : Nat) (a : Int), j + d = y.length → y.drop j = cntS d a → 0 ≤ a → a + 2 * d ≤ 4611686018427387904 → Ev (fun k => laws_heldSaidS.l0 k y a (j : Int)) (a + 2 * d) := by
  induction d with
  | zero =>
    intro j a hd hc h0 h1
    exact ev_eq (Ev.step (f := fun _ => some a) (fun k => by simp only [laws_heldSaidS.l0]; rw [if_neg (by omega)]) (Ev.now _)) (by omega)
  | succ d ih =>
    intro j a hd hc h0 h1
    rw [drop_cons (by omega) z87, cntS] at hc
    obtain ⟨h2, h3⟩ := List.cons.inj hc
    have er : rd_T87 y (j : Int) = (⟨a, a + 1⟩ : S87) := by rw [← h2]; simp [rd_T87]
    refine Ev.step (fun k => by simp only [laws_heldSaidS.l0]; rw [if_pos (by omega), if_pos (by omega), er, if_pos rfl, wsucc (by omega), wid (x := a + 1) (by omega) (by omega), if_pos rfl, wid (x := a + 1 + 1) (by omega) (by omega)]) ?_
    exact ev_eq (ih (j + 1) (a + 1 + 1) (by omega) (by rw [h3]; congr 1; omega) (by omega) (by omega)) (by omega)
theorem heldSaidS_ev (n : Nat) (a : Int) (hn : n ≤ 1048576) (h0 : 0 ≤ a) (h1 : a ≤ 1152921504606846976) : Ev (fun k => laws_heldSaidS.f k (cntS n a) a) (a + 2 * n) :=
  heldSaidS_l0 (cntS n a) (by rw [cntS_length]; exact hn) n 0 a (by rw [cntS_length]; omega) (by simp) h0 (by omega)

theorem FnExactJoinSaid : ∀ (a0 : Int) (l1 : List (S89)) (l2 : List (S89)), (In64 a0) → (l1.length ≤ 9223372036854775807 ∧ ∀ x ∈ l1, (In64 x.f0) ∧ (In64 x.f1)) → (l2.length ≤ 9223372036854775807 ∧ ∀ x ∈ l2, (In64 x.f0) ∧ (In64 x.f1)) → ∃ k, laws_FnExactJoinSaid.f k a0 l1 l2 = some true := by
  intro op l l2 hop hl hl2
  refine Ev.rounds ?_
  refine Ev.bind (ev_const (szSaidS_eq2 l 1048576 hl.1 (by omega) (by omega))) ?_
  by_cases h : (l.length : Int) ≤ 1048576
  · rw [if_pos h]
    refine ev_neg (by omega) ?_
    refine Ev.bind (ev_const (szSaidS_eq2 l2 _ hl2.1 (by omega) (by omega))) ?_
    by_cases h2 : (l2.length : Int) ≤ 1048576 - l.length
    · rw [if_pos h2]
      refine ev_neg (by omega) ?_
      have hm : (l.map cSaid).length ≤ 9223372036854775807 := by simp; omega
      have hm2 : (l2.map cSaid).length ≤ 9223372036854775807 := by simp; omega
      have ht := toSaidS_ev l (by omega)
      have ht2 := toSaidS_ev l2 (by omega)
      obtain ⟨⟨b, ok⟩, hb, hb', hlen⟩ := JoinSaid_both op _ _ hm hm2
      have hlen : b.length ≤ 16 := hlen
      have he := eqSaidS_ev b (by omega)
      have hk := markSaidS_ev b 1 (by omega) (by omega) (by omega)
      have hh := heldSaidS_ev b.length 1 (by omega) (by omega) (by omega)
      refine Ev.bind ht (Ev.bind ht2 (Ev.bind hb (Ev.bind ht (Ev.bind ht2 (Ev.bind hb' (Ev.bind he (ev_pos rfl ?_)))))))
      refine Ev.step (fun k => by simp only [laws_FnExactJoinSaid.j0]; rw [if_neg (by simp)]) ?_
      refine Ev.bind ht (Ev.bind (eqSaidS_ev _ hm) (ev_pos rfl (Ev.bind ht2 (Ev.bind (eqSaidS_ev _ hm2) (ev_pos rfl ?_)))))
      refine Ev.bind (markSaidS_ev _ 1 (by simp; omega) (by omega) (by omega)) (Ev.bind (markSaidS_ev _ _ (by simp; omega) (by simp only; omega) (by simp; omega)) (ev_neg (by simp only; omega) (Ev.bind he (ev_pos rfl ?_))))
      refine Ev.step (fun k => by simp only [laws_FnExactJoinSaid.j1]; rw [if_neg (by simp)]) ?_
      refine Ev.bind hk (Ev.bind hh (ev_neg (by omega) (ev_pos rfl ?_)))
      refine Ev.bind ht (Ev.bind ht2 (Ev.bind hb' (Ev.bind he (ev_pos rfl ?_))))
      refine Ev.step (fun k => by simp only [laws_FnExactJoinSaid.j2]; rw [if_neg (by simp)]) ?_
      exact Ev.bind hh (ev_neg (by omega) (ev_pos rfl (Ev.now _)))
    · rw [if_neg h2]
      exact ev_pos (by omega) (Ev.now _)
  · rw [if_neg h]
    exact ev_pos (by omega) (Ev.now _)

end Go.Proofs.Ytbgbidgnlioomaa.Pure
