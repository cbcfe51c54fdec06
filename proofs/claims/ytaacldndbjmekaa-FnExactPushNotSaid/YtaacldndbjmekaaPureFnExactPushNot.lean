/- The pure statement of the law FnExactPushNot: what the printed functions compute makes the law true, for every input. No condition. -/
import Derived.Test.YtaacldndbjmekaaOpen
import Derived.Test.YtaacldndbjmekaaAid
import Derived.Test.YtaacldndbjmekaaP104
set_option linter.unusedVariables false
set_option linter.unusedSimpArgs false
namespace Go.Proofs.Ytaacldndbjmekaa.Pure
open Go.RowKit Go.Proofs.YtaacldndbjmekaaW.PrintWords Go.Proofs.Ytaacldndbjmekaa.P Go.Proofs.Ytaacldndbjmekaa.Hof Go.Proofs.Ytaacldndbjmekaa.Open Go.Proofs.Ytaacldndbjmekaa.Aid
-- LEMMAS
theorem szSaidS_eq (l : List S62) (hl : l.length ≤ 9223372036854775807) : laws_szSaidS.f l 1048576 = some (if l.length ≤ 1048576 then 1048576 - (l.length : Int) else -1) := by
 have e : wrap64 (1048576 - (l.length : Int)) = 1048576 - l.length := wid (by omega) (by omega)
 simp only [laws_szSaidS.f]
 rw [e]
 by_cases h : l.length ≤ 1048576
 ·rw [if_neg (by omega), if_pos h]
 ·rw [if_pos (by omega), if_neg h]
theorem szSaidS_eq2 (l : List S62) (n : Int) (hl : l.length ≤ 9223372036854775807) (h0 : 0 ≤ n) (h1 : n ≤ 1048576) : laws_szSaidS.f l n = some (if (l.length : Int) ≤ n then n - (l.length : Int) else -1) := by
 have e : wrap64 (n - (l.length : Int)) = n - l.length := wid (by omega) (by omega)
 simp only [laws_szSaidS.f]
 rw [e]
 by_cases h : (l.length : Int) ≤ n
 ·rw [if_neg (by omega), if_pos h]
 ·rw [if_pos (by omega), if_neg h]
def cSaid (x : S62) : S59 := ⟨x.f0, x.f1⟩
theorem toSaidS_l0 (l : List S62) (hl : l.length ≤ 1048576) (d : Nat) : ∀ (j : Nat) (y : List S59), y.length = l.length → j + d = l.length → Ev (fun k => laws_toSaidS.l0 k l y (j : Int)) (y.take j ++ (l.map cSaid).drop j) := by
 induction d with
 | zero =>
  intro j y hy hd
  rw [take_all_drop (xs := y) (ys := l.map cSaid) (by simpa using hy) (by simp; omega)]
  exact Ev.step (f := fun _ => some y) (fun k => by simp only [laws_toSaidS.l0]; rw [if_neg (by omega)]) (Ev.now y)
 | succ d ih =>
  intro j y hy hd
  have er : rd_T62 l (j : Int) = l.getD j z62 := by simp [rd_T62]
  refine Ev.step (f := fun k => laws_toSaidS.l0 k l (y.set j (cSaid (l.getD j z62))) ((j + 1 : Nat) : Int)) (fun k => by simp only [laws_toSaidS.l0, laws_toSaid.f, Option.bind_some]; rw [if_pos (by omega), if_pos (by omega), if_pos (by omega), wsucc (by omega), er]; rfl) ?_
  refine ev_eq (ih (j + 1) _ (by simpa using hy) (by omega)) (copy_step (by omega) (by simp; omega) ?_)
  rw [getD_eq (l := l.map cSaid) (by simp; omega), getD_eq (l := l) (by omega)]; simp
theorem toSaidS_ev (l : List S62) (hl : l.length ≤ 1048576) : Ev (fun k => laws_toSaidS.f k l) (l.map cSaid) := by
 refine Ev.congr (f := fun k => laws_toSaidS.l0 k l (List.replicate l.length z59) ((0 : Nat) : Int)) (fun k => by simp only [laws_toSaidS.f]; rw [if_pos (by omega), if_pos (by simp only [Int.toNat_natCast]; omega)]; rfl) ?_
 exact ev_eq (toSaidS_l0 l hl l.length 0 _ (by simp) (by omega)) (by simp)
theorem eqSaidS_l0 (l : List S59) (hl : l.length ≤ 9223372036854775807) (d : Nat) : ∀ (j : Nat), j + d = l.length → Ev (fun k => laws_eqSaidS.l0 k l l (j : Int)) true := by
 induction d with
 | zero => exact fun j hd => Ev.step (f := fun _ => some true) (fun k => by simp only [laws_eqSaidS.l0]; rw [if_neg (by omega)]) (Ev.now _)
 | succ d ih => exact fun j hd => Ev.step (fun k => by simp only [laws_eqSaidS.l0, laws_eqSaid.f, if_true, Option.bind_some]; rw [if_pos (by omega), if_pos (by omega), if_pos (by omega), wsucc (by omega)]) (ih (j + 1) (by omega))
theorem eqSaidS_ev (l : List S59) (hl : l.length ≤ 9223372036854775807) : Ev (fun k => laws_eqSaidS.f k l l) true :=
 Ev.congr (fun k => by simp only [laws_eqSaidS.f, if_true]; rfl) (eqSaidS_l0 l hl l.length 0 (by omega))
def cntS : Nat → Int → List S59
 | 0, _ => []
 | n + 1, a => ⟨a, a + 1⟩ :: cntS n (a + 2)
theorem cntS_length : ∀ n a, (cntS n a).length = n
 | 0, _ => rfl
 | n + 1, a => by simp [cntS, cntS_length n]
theorem markSaidS_l0 (d : Nat) : ∀ (j : Nat) (y : List S59) (a : Int), j + d = y.length → y.length ≤ 1048576 → 0 ≤ a → a + 2 * d ≤ 4611686018427387904 → Ev (fun k => laws_markSaidS.l0 k y a (j : Int)) (a + 2 * d, y.take j ++ cntS d a) := by
 induction d with
 | zero =>
  intro j y a hd hy h0 h1
  refine ev_eq (Ev.step (f := fun _ => some (a, y)) (fun k => by simp only [laws_markSaidS.l0]; rw [if_neg (by omega)]) (Ev.now _)) ?_
  rw [List.take_of_length_le (by omega)]; simp [cntS]
 | succ d ih =>
  intro j y a hd hy h0 h1
  have hj : j < y.length := by omega
  have e0 : (rd_T59 (y.set j (⟨a, (rd_T59 y (j : Int)).f1⟩ : S59)) (j : Int)).f0 = a := by
   simp [rd_T59, List.getD_eq_getElem?_getD, hj]
  refine Ev.step (f := fun k => laws_markSaidS.l0 k (y.set j ⟨a, a + 1⟩) (a + 2) ((j + 1 : Nat) : Int)) (fun k => by
   simp only [laws_markSaidS.l0, Option.bind_some, Int.toNat_natCast]
   rw [if_pos (by omega), if_pos (by omega), wsucc (by omega), wid (x := a + 1) (by omega) (by omega), wid (x := a + 1 + 1) (by omega) (by omega), e0, List.set_set, show a + 1 + 1 = a + 2 by omega]) ?_
  refine ev_eq (ih (j + 1) (y.set j ⟨a, a + 1⟩) (a + 2) (by simp; omega) (by simpa using hy) (by omega) (by omega)) ?_
  rw [List.take_succ_eq_append_getElem (by simp; omega), List.take_set_of_le (Nat.le_refl j)]
  simp [cntS]; omega
theorem markSaidS_ev (y : List S59) (a : Int) (hy : y.length ≤ 1048576) (h0 : 0 ≤ a) (h1 : a ≤ 1152921504606846976) : Ev (fun k => laws_markSaidS.f k y a) (a + 2 * y.length, cntS y.length a) :=
 ev_eq (markSaidS_l0 y.length 0 y a (by omega) hy h0 (by omega)) (by simp)
theorem l1In_eq (n lo hi : Int) : spec_l1In.f n lo hi = some (decide (lo ≤ n ∧ n ≤ hi)) := by
 simp only [spec_l1In.f]
 by_cases h : n ≥ lo
 ·rw [if_pos h]; congr 1; simp; intro _; exact h
 ·rw [if_neg h]; congr 1; simp; intro h'; omega
theorem l1In_tells (n lo hi : Int) : Tells (fun _ => spec_l1In.f n lo hi) (lo ≤ n ∧ n ≤ hi) := by
 simp only [l1In_eq]; exact tells_some (by simp)
def needS (op : Int) : Int := if op = 1 ∨ op = 2 then 0 else if op = 3 ∨ op = 4 then 1 else if op = 5 ∨ op = 6 ∨ op = 7 ∨ op = 8 then 2 else -1
def nOk (x : S59) : Prop := if x.f0 = 1 then 0 ≤ x.f1 ∧ x.f1 ≤ 2 else if x.f0 = 2 then 0 ≤ x.f1 ∧ x.f1 ≤ 1 else x.f1 = 0
def gs : List S59 → Int → Prop
 | [], c => c = 1
 | x :: t, c => 0 ≤ needS x.f0 ∧ nOk x ∧ needS x.f0 ≤ c ∧ gs t (c + (1 - needS x.f0))
def GoodS (l : List S59) : Prop := 1 ≤ l.length ∧ l.length ≤ 16 ∧ gs l 0
theorem need_cases (op : Int) : (needS op = 0 ∧ (op = 1 ∨ op = 2)) ∨ (needS op = 1 ∧ (op = 3 ∨ op = 4)) ∨ (needS op = 2 ∧ (op = 5 ∨ op = 6 ∨ op = 7 ∨ op = 8)) ∨ (needS op = -1 ∧ op ≠ 1 ∧ op ≠ 2 ∧ op ≠ 3 ∧ op ≠ 4 ∧ op ≠ 5 ∧ op ≠ 6 ∧ op ≠ 7 ∧ op ≠ 8) := by
 unfold needS
 by_cases h1 : op = 1 ∨ op = 2
 ·rw [if_pos h1]; exact .inl ⟨rfl, h1⟩
 rw [if_neg h1]
 by_cases h2 : op = 3 ∨ op = 4
 ·rw [if_pos h2]; exact .inr (.inl ⟨rfl, h2⟩)
 rw [if_neg h2]
 by_cases h3 : op = 5 ∨ op = 6 ∨ op = 7 ∨ op = 8
 ·rw [if_pos h3]; exact .inr (.inr (.inl ⟨rfl, h3⟩))
 rw [if_neg h3]
 exact .inr (.inr (.inr ⟨rfl, by omega, by omega, by omega, by omega, by omega, by omega, by omega, by omega⟩))
theorem need_le (op : Int) : -1 ≤ needS op ∧ needS op ≤ 2 := by rcases need_cases op with ⟨h, _⟩ | ⟨h, _⟩ | ⟨h, _⟩ | ⟨h, _⟩ <;> omega
theorem l10Need_ev (op : Int) : Ev (fun k => spec_l10Need.f k op) (needS op) := by
 refine ev_from 2 (fun m => ?_)
 simp only [spec_l10Need.f, spec_l10Need.j0, spec_l10Need.j1]
 rcases need_cases op with ⟨e, h⟩ | ⟨e, h⟩ | ⟨e, h⟩ | ⟨e, h⟩ <;> rw [e]
 ·rcases h with rfl | rfl <;> simp
 ·rcases h with rfl | rfl <;> simp
 ·rcases h with rfl | rfl | rfl | rfl <;> simp
 ·simp [h]
theorem l10N_tells (x : S59) : Tells (fun _ => spec_l10N.f x.f0 x.f1) (nOk x) := by
 simp only [spec_l10N.f, nOk]
 by_cases h1 : x.f0 = 1
 ·simp only [if_pos h1]
  exact tells_ask (l1In_tells _ _ _) (fun h => tells_yes h) (fun h => tells_no h)
 simp only [if_neg h1]
 by_cases h2 : x.f0 = 2
 ·simp only [if_pos h2]
  exact tells_ask (l1In_tells _ _ _) (fun h => tells_yes h) (fun h => tells_no h)
 simp only [if_neg h2]
 exact tells_some (by simp)
theorem spec_GoodSaid_l0 (l : List S59) (hl : l.length ≤ 16) (d : Nat) : ∀ (j : Nat) (c : Int), 0 ≤ c → c ≤ j → j + d = l.length →
  Tells (fun k => spec_GoodSaid.l0 k c l (l.length : Int) (j : Int)) (gs (l.drop j) c) := by
 induction d with
 | zero =>
  intro j c h0 h1 hd
  refine tells_step (f := fun _ => some (c == 1)) (fun k => by simp only [spec_GoodSaid.l0]; rw [if_neg (by omega)]) (tells_some ?_)
  rw [List.drop_of_length_le (by omega)]; simp [gs]
 | succ d ih =>
  intro j c h0 h1 hd
  have hj : j < l.length := by omega
  have er : rd_T59 l (j : Int) = l.getD j z59 := by simp [rd_T59]
  refine tells_step (fun k => by simp only [spec_GoodSaid.l0]; rw [if_pos (by omega), if_pos (by omega), if_pos (by omega), wsucc (by omega), er]) ?_
  rw [drop_cons hj z59]
  generalize l.getD j z59 = x
  have hn := need_le x.f0
  refine tells_bind (l10Need_ev x.f0) (tells_if (fun h => tells_no (fun g => by have := g.1; omega)) (fun h => ?_))
  refine tells_ask (l10N_tells x) (fun hx => tells_pos rfl ?_) (fun hx => tells_neg (by simp) (tells_no (fun g => hx g.2.1)))
  refine tells_if (fun h2 => tells_no (fun g => by have := g.2.2.1; omega)) (fun h2 => ?_)
  rw [wid (x := 1 - needS x.f0) (by omega) (by omega), wid (by omega) (by omega)]
  exact tells_iff (ih (j + 1) _ (by omega) (by omega) (by omega)) ⟨fun g => ⟨by omega, hx, by omega, g⟩, fun g => g.2.2.2⟩
theorem spec_GoodSaid_tells (l : List S59) (hl : l.length ≤ 9223372036854775807) : Tells (fun k => spec_GoodSaid.f k l) (GoodS l) := by
 refine tells_ask (l1In_tells _ _ _) (fun h => tells_pos rfl ?_) (fun h => tells_neg (by simp) (tells_no (fun g => h ⟨by have := g.1; omega, by have := g.2.1; omega⟩)))
 exact tells_iff (spec_GoodSaid_l0 l (by omega) l.length 0 0 (by omega) (by omega) (by omega)) ⟨fun g => ⟨by omega, by omega, by simpa using g⟩, fun g => by simpa using g.2.2⟩
theorem operandsOfSaid_ev (op : Int) : Ev (fun k => impl_operandsOfSaid.f k op) (needS op) := by
 refine ev_from 2 (fun m => ?_)
 simp only [impl_operandsOfSaid.f, impl_operandsOfSaid.j0, impl_operandsOfSaid.j1]
 rcases need_cases op with ⟨e, h⟩ | ⟨e, h⟩ | ⟨e, h⟩ | ⟨e, h⟩ <;> rw [e]
 ·rcases h with rfl | rfl <;> simp
 ·rcases h with rfl | rfl <;> simp
 ·rcases h with rfl | rfl | rfl | rfl <;> simp
 ·simp [h]
theorem isSaid_tells (x : S59) : Tells (fun k => impl_isSaid.f k x.f0 x.f1) (0 ≤ needS x.f0 ∧ nOk x) := by
 simp only [impl_isSaid.f, nOk]
 rcases need_cases x.f0 with ⟨e, h⟩ | ⟨e, h⟩ | ⟨e, h⟩ | ⟨e, h⟩
 ·rcases h with h | h
  ·simp only [h, if_true]
   refine tells_if (fun h1 => tells_some ?_) (fun h1 => tells_no (fun g => by have := g.2.1; omega))
   simp [needS]; omega
  ·simp only [h, if_neg (show ¬ ((2 : Int) = 1) by decide), if_true]
   refine tells_if (fun h1 => tells_yes ⟨by simp [needS], by omega, by omega⟩) (fun h1 => tells_some ?_)
   simp [needS]; omega
 ·have h1 : ¬ (x.f0 = 1) := by omega
  have h2 : ¬ (x.f0 = 2) := by omega
  simp only [if_neg h1, if_neg h2]
  refine tells_bind (operandsOfSaid_ev x.f0) (tells_pos (by omega) (tells_some ?_))
  simp [e]
 ·have h1 : ¬ (x.f0 = 1) := by omega
  have h2 : ¬ (x.f0 = 2) := by omega
  simp only [if_neg h1, if_neg h2]
  refine tells_bind (operandsOfSaid_ev x.f0) (tells_pos (by omega) (tells_some ?_))
  simp [e]
 ·simp only [if_neg h.1, if_neg h.2.1]
  refine tells_bind (operandsOfSaid_ev x.f0) (tells_neg (by omega) (tells_no (fun g => by omega)))
theorem impl_GoodSaid_l0 (l : List S59) (hl : l.length ≤ 16) (d : Nat) : ∀ (j : Nat) (c : Int), 0 ≤ c → c ≤ j → j + d = l.length →
  Tells (fun k => impl_GoodSaid.l0 k c l (l.length : Int) (j : Int)) (gs (l.drop j) c) := by
 induction d with
 | zero =>
  intro j c h0 h1 hd
  refine tells_step (f := fun _ => some (c == 1)) (fun k => by simp only [impl_GoodSaid.l0]; rw [if_neg (by omega)]) (tells_some ?_)
  rw [List.drop_of_length_le (by omega)]; simp [gs]
 | succ d ih =>
  intro j c h0 h1 hd
  have hj : j < l.length := by omega
  have er : rd_T59 l (j : Int) = l.getD j z59 := by simp [rd_T59]
  refine tells_step (fun k => by simp only [impl_GoodSaid.l0]; rw [if_pos (by omega), if_pos (by omega), if_pos (by omega), wsucc (by omega), er]) ?_
  rw [drop_cons hj z59]
  generalize l.getD j z59 = x
  have hn := need_le x.f0
  refine tells_bind (operandsOfSaid_ev x.f0) ?_
  refine tells_ask (isSaid_tells x) (fun hx => tells_pos rfl ?_) (fun hx => tells_neg (by simp) (tells_no (fun g => hx ⟨g.1, g.2.1⟩)))
  refine tells_if (fun h2 => tells_no (fun g => by have := g.2.2.1; omega)) (fun h2 => ?_)
  rw [wid (x := 1 - needS x.f0) (by omega) (by omega), wid (by omega) (by omega)]
  exact tells_iff (ih (j + 1) _ (by omega) (by omega) (by omega)) ⟨fun g => ⟨hx.1, hx.2, by omega, g⟩, fun g => g.2.2.2⟩
theorem impl_GoodSaid_tells (l : List S59) (hl : l.length ≤ 9223372036854775807) : Tells (fun k => impl_GoodSaid.f k l) (GoodS l) := by
 refine tells_if (fun h => ?_) (fun h => ?_)
 ·exact tells_step (f := fun _ => some false) (fun k => by simp only [impl_GoodSaid.j0, if_true]) (tells_no (fun g => by have := g.1; omega))
 ·by_cases h2 : (l.length : Int) > 16
  ·exact tells_step (f := fun _ => some false) (fun k => by simp only [impl_GoodSaid.j0]; rw [if_pos (by simpa using h2)]) (tells_no (fun g => by have := g.2.1; omega))
  ·refine tells_step (f := fun k => impl_GoodSaid.l0 k 0 l (l.length : Int) 0) (fun k => by simp only [impl_GoodSaid.j0]; rw [if_neg (by simpa using h2)]) ?_
   exact tells_iff (impl_GoodSaid_l0 l (by omega) l.length 0 0 (by omega) (by omega) (by omega)) ⟨fun g => ⟨by omega, by omega, by simpa using g⟩, fun g => by simpa using g.2.2⟩
def chk (l : List S59) (r : List S59 × Bool) : Prop := (GoodS l ∧ r = (l, true)) ∨ (¬ GoodS l ∧ r = ([], false))
theorem checkedSaid_ev (l : List S59) (hl : l.length ≤ 9223372036854775807) {r : List S59 × Bool} (h : chk l r) : Ev (fun k => impl_checkedSaid.f k l) r := by
 rcases h with ⟨g, rfl⟩ | ⟨g, rfl⟩
 ·exact Ev.bind (tells_ev (impl_GoodSaid_tells l hl) g) (ev_pos rfl (Ev.now _))
 ·exact Ev.bind (tells_ev_not (impl_GoodSaid_tells l hl) g) (ev_neg (by simp) (Ev.now _))
theorem chk_ex (l : List S59) : ∃ r, chk l r ∧ r.1.length ≤ 16 := by
 by_cases h : GoodS l
 ·exact ⟨_, .inl ⟨h, rfl⟩, h.2.1⟩
 ·exact ⟨_, .inr ⟨h, rfl⟩, by simp⟩
theorem l10Made_ev (l : List S59) (hl : l.length ≤ 9223372036854775807) {r : List S59 × Bool} (h : chk l r) : Ev (fun k => spec_l10Made.f k l) r := by
 rcases h with ⟨g, rfl⟩ | ⟨g, rfl⟩
 ·exact Ev.bind (tells_ev (spec_GoodSaid_tells l hl) g) (ev_pos rfl (Ev.now _))
 ·exact Ev.bind (tells_ev_not (spec_GoodSaid_tells l hl) g) (ev_neg (by simp) (Ev.now _))
inductive Tr where
 | leaf (x : S59) : Tr
 | un (a : Tr) (x : S59) : Tr
 | bin (a b : Tr) (x : S59) : Tr
def post : Tr → List S59
 | .leaf x => [x]
 | .un a x => post a ++ [x]
 | .bin a b x => post a ++ (post b ++ [x])
def okT : Tr → Prop
 | .leaf x => needS x.f0 = 0 ∧ nOk x
 | .un a x => okT a ∧ needS x.f0 = 1 ∧ nOk x
 | .bin a b x => okT a ∧ okT b ∧ needS x.f0 = 2 ∧ nOk x
def posts (ts : List Tr) : List S59 := (ts.map post).flatten
theorem posts_append (a b : List Tr) : posts (a ++ b) = posts a ++ posts b := by simp [posts]
theorem posts_one (a : Tr) : posts [a] = post a := by simp [posts]
theorem posts_cons (a : Tr) (b : List Tr) : posts (a :: b) = post a ++ posts b := by simp [posts]
theorem post_pos (t : Tr) : 0 < (post t).length := by cases t <;> simp [post] <;> omega
theorem last_split {ts : List Tr} (h : 0 < ts.length) : ∃ a b, ts = a ++ [b] := by
 refine ⟨ts.dropLast, ts.getLast (by intro e; simp [e] at h), ?_⟩
 rw [List.dropLast_concat_getLast]
theorem trees_of : ∀ (l : List S59) (ts : List Tr), (∀ t ∈ ts, okT t) → gs l (ts.length : Int) → ∃ t, okT t ∧ posts ts ++ l = post t
 | [], ts, hts, h => by
  have h1 : ts.length = 1 := by have h2 : (ts.length : Int) = 1 := h; omega
  obtain ⟨t, rfl⟩ := List.length_eq_one_iff.1 h1
  exact ⟨t, hts t (by simp), by simp [posts]⟩
 | x :: l, ts, hts, h => by
  obtain ⟨h1, h2, h3, h4⟩ := h
  rcases need_cases x.f0 with ⟨e, _⟩ | ⟨e, _⟩ | ⟨e, _⟩ | ⟨e, _⟩
  ·obtain ⟨t, ht, hp⟩ := trees_of l (ts ++ [.leaf x]) (fun t ht => by
    rcases List.mem_append.1 ht with ht | ht
    ·exact hts t ht
    ·rw [List.mem_singleton.1 ht]; exact ⟨e, h2⟩) (by rw [e] at h4; simpa using h4)
   exact ⟨t, ht, by rw [← hp, posts_append, posts_one]; simp [post]⟩
  ·obtain ⟨a, b, rfl⟩ := last_split (ts := ts) (by omega)
   obtain ⟨t, ht, hp⟩ := trees_of l (a ++ [.un b x]) (fun t ht => by
    rcases List.mem_append.1 ht with ht | ht
    ·exact hts t (List.mem_append_left _ ht)
    ·rw [List.mem_singleton.1 ht]; exact ⟨hts b (by simp), e, h2⟩) (by rw [e] at h4; simpa using h4)
   exact ⟨t, ht, by rw [← hp, posts_append, posts_append, posts_one, posts_one]; simp [post]⟩
  ·obtain ⟨a0, c, rfl⟩ := last_split (ts := ts) (by omega)
   obtain ⟨a, b, rfl⟩ := last_split (ts := a0) (by simp at h3; omega)
   obtain ⟨t, ht, hp⟩ := trees_of l (a ++ [.bin b c x]) (fun t ht => by
    rcases List.mem_append.1 ht with ht | ht
    ·exact hts t (List.mem_append_left _ (List.mem_append_left _ ht))
    ·rw [List.mem_singleton.1 ht]; exact ⟨hts b (by simp), hts c (by simp), e, h2⟩) (by rw [e] at h4; simp at h4 ⊢; exact (by omega : ((a.length : Int) + 1 + 1 + -1) = (a.length : Int) + 1) ▸ h4)
   exact ⟨t, ht, by rw [← hp, posts_append, posts_append, posts_append, posts_one, posts_one, posts_one]; simp [post]⟩
  ·omega
theorem tree_of {l : List S59} (h : GoodS l) : ∃ t, okT t ∧ l = post t := by
 obtain ⟨t, ht, hp⟩ := trees_of l [] (fun t ht => by simp at ht) (by simpa using h.2.2)
 exact ⟨t, ht, by simpa [posts] using hp⟩
def At (l : List S59) (t : Tr) (i : Nat) : Prop := ∃ p s, l = p ++ (post t ++ s) ∧ p.length = i
theorem At.lt {l : List S59} {t : Tr} {i : Nat} (h : At l t i) : i + (post t).length ≤ l.length := by
 obtain ⟨p, s, rfl, rfl⟩ := h; simp <;> omega
theorem At.un {l : List S59} {a : Tr} {x : S59} {i : Nat} (h : At l (.un a x) i) : At l a i := by
 obtain ⟨p, s, rfl, rfl⟩ := h; exact ⟨p, [x] ++ s, by simp [post], rfl⟩
theorem At.left {l : List S59} {a b : Tr} {x : S59} {i : Nat} (h : At l (.bin a b x) i) : At l a i := by
 obtain ⟨p, s, rfl, rfl⟩ := h; exact ⟨p, post b ++ [x] ++ s, by simp [post], rfl⟩
theorem At.right {l : List S59} {a b : Tr} {x : S59} {i : Nat} (h : At l (.bin a b x) i) : At l b (i + (post a).length) := by
 obtain ⟨p, s, rfl, rfl⟩ := h; exact ⟨p ++ post a, [x] ++ s, by simp [post], by simp⟩
def root : Tr → S59
 | .leaf x => x
 | .un _ x => x
 | .bin _ _ x => x
theorem getD_mid {α : Type} (p m s : List α) (d : α) {j : Nat} (h : j < m.length) : (p ++ (m ++ s)).getD (p.length + j) d = m.getD j d := by
 rw [List.getD_eq_getElem?_getD, List.getElem?_append_right (by omega), List.getElem?_append_left (by omega), List.getD_eq_getElem?_getD]
 congr 2; omega
theorem post_last (t : Tr) (d : S59) : (post t).getD ((post t).length - 1) d = root t := by
 cases t <;> simp [post, root, List.getD_eq_getElem?_getD]
theorem At.root {l : List S59} {t : Tr} {i : Nat} (h : At l t i) (d : S59) : l.getD (i + (post t).length - 1) d = root t := by
 obtain ⟨p, s, rfl, rfl⟩ := h
 have hp := post_pos t
 rw [show p.length + (post t).length - 1 = p.length + ((post t).length - 1) from by omega, getD_mid _ _ _ _ (by omega), post_last]
theorem At.whole (t : Tr) : At (post t) t 0 := ⟨[], [], by simp, rfl⟩
theorem rdS (l : List S59) (i : Nat) : rd_T59 l (i : Int) = l.getD i z59 := by simp [rd_T59]
theorem At.un_root {l : List S59} {a : Tr} {x : S59} {i : Nat} (h : At l (.un a x) i) : i + (post a).length < l.length ∧ l.getD (i + (post a).length) z59 = x := by
 have h1 := h.lt
 have h2 := h.root z59
 simp only [post, List.length_append, List.length_singleton] at h1 h2
 rw [show i + ((post a).length + 1) - 1 = i + (post a).length from by omega] at h2
 exact ⟨by omega, h2⟩
theorem At.bin_root {l : List S59} {a b : Tr} {x : S59} {i : Nat} (h : At l (.bin a b x) i) : i + (post a).length + (post b).length < l.length ∧ l.getD (i + (post a).length + (post b).length) z59 = x := by
 have h1 := h.lt
 have h2 := h.root z59
 simp only [post, List.length_append, List.length_singleton] at h1 h2
 rw [show i + ((post a).length + ((post b).length + 1)) - 1 = i + (post a).length + (post b).length from by omega] at h2
 exact ⟨by omega, h2⟩
theorem At.leaf_root {l : List S59} {x : S59} {i : Nat} (h : At l (.leaf x) i) : i < l.length ∧ l.getD i z59 = x := by
 have h1 := h.lt
 have h2 := h.root z59
 simp only [post, List.length_singleton, Nat.add_sub_cancel] at h1 h2
 exact ⟨by omega, h2⟩
theorem last_un (a : Tr) (x : S59) (i : Nat) : i + (post (.un a x)).length - 1 = i + (post a).length := by simp [post]
theorem last_bin (a b : Tr) (x : S59) (i : Nat) : i + (post (.bin a b x)).length - 1 = i + (post a).length + (post b).length := by simp [post]; omega
theorem l10From_ev (l : List S59) (hl : l.length ≤ 1048576) : ∀ (t : Tr) (i : Nat), okT t → At l t i → Ev (fun k => spec_l10From.f k l ((i + (post t).length - 1 : Nat) : Int)) (i : Int)
 | .leaf x, i, ok, h => by
  obtain ⟨h1, h2⟩ := h.leaf_root
  rw [show i + (post (.leaf x)).length - 1 = i from by simp [post]]
  refine Ev.step (fun k => by simp only [spec_l10From.f]; rw [if_pos (by omega), if_pos (by omega), rdS, h2]) ?_
  refine Ev.bind (l10Need_ev _) ?_
  rw [show needS x.f0 = 0 from ok.1]
  exact Ev.step (f := fun _ => some (i : Int)) (fun k => by simp only [spec_l10From.l0]; rw [if_neg (by omega)]) (Ev.now _)
 | .un a x, i, ok, h => by
  obtain ⟨h1, h2⟩ := h.un_root
  have ha := post_pos a
  rw [last_un]
  refine Ev.step (fun k => by simp only [spec_l10From.f]; rw [if_pos (by omega), if_pos (by omega), rdS, h2]) ?_
  refine Ev.bind (l10Need_ev _) ?_
  rw [show needS x.f0 = 1 from ok.2.1]
  refine Ev.step (fun k => by simp only [spec_l10From.l0]; rw [if_pos (by omega), wpred (by omega) (by omega)]) ?_
  refine Ev.bind (l10From_ev l hl a i ok.1 h.un) ?_
  exact Ev.step (f := fun _ => some (i : Int)) (fun k => by simp only [spec_l10From.l0]; rw [if_neg (by unfold wrap64; omega)]) (Ev.now _)
 | .bin a b x, i, ok, h => by
  obtain ⟨h1, h2⟩ := h.bin_root
  have ha := post_pos a
  have hb := post_pos b
  rw [last_bin]
  refine Ev.step (fun k => by simp only [spec_l10From.f]; rw [if_pos (by omega), if_pos (by omega), rdS, h2]) ?_
  refine Ev.bind (l10Need_ev _) ?_
  rw [show needS x.f0 = 2 from ok.2.2.1]
  refine Ev.step (fun k => by simp only [spec_l10From.l0]; rw [if_pos (by omega), wpred (by omega) (by omega)]) ?_
  refine Ev.bind (l10From_ev l hl b (i + (post a).length) ok.2.1 h.right) ?_
  refine Ev.step (fun k => by simp only [spec_l10From.l0]; rw [if_pos (by unfold wrap64; omega), wpred (by omega) (by omega)]) ?_
  refine Ev.bind (l10From_ev l hl a i ok.1 h.left) ?_
  exact Ev.step (f := fun _ => some (i : Int)) (fun k => by simp only [spec_l10From.l0]; rw [if_neg (by unfold wrap64; omega)]) (Ev.now _)
def opp (n : Bool) (op : Int) : Int := if n = true then (if op = 5 then 6 else if op = 6 then 5 else if op = 7 then 8 else 7) else op
def pushT : Tr → Bool → List S59
 | .leaf x, n => if n = true then (if x.f0 = 1 then [x, ⟨3, 0⟩] else [⟨2, 1 - x.f1⟩]) else [x]
 | .un a x, n => if x.f0 = 3 then pushT a (!n) else pushT a n ++ [⟨4, 0⟩]
 | .bin a b x, n => pushT a n ++ (pushT b n ++ [⟨opp n x.f0, 0⟩])
theorem pushT_len : ∀ (t : Tr) (n : Bool), (pushT t n).length ≤ 2 * (post t).length
 | .leaf x, n => by
  simp only [pushT, post, List.length_singleton]
  split
  ·split <;> simp
  ·simp
 | .un a x, n => by
  have h1 := pushT_len a n
  have h2 := pushT_len a (!n)
  simp only [pushT, post, List.length_append, List.length_singleton]
  split
  ·omega
  ·rw [List.length_append, List.length_singleton]; omega
 | .bin a b x, n => by
  have h1 := pushT_len a n
  have h2 := pushT_len b n
  simp only [pushT, post, List.length_append, List.length_singleton]
  omega
theorem leaf_of {x : S59} (h : okT (.leaf x)) : (x.f0 = 1 ∨ x.f0 = 2) ∧ -1 ≤ x.f1 ∧ x.f1 ≤ 2 := by
 obtain ⟨h1, h2⟩ := h
 rcases need_cases x.f0 with ⟨_, e⟩ | ⟨e, _⟩ | ⟨e, _⟩ | ⟨e, _⟩
 ·refine ⟨e, ?_⟩
  unfold nOk at h2
  split at h2
  ·omega
  ·split at h2 <;> omega
 all_goals omega
theorem un_of {a : Tr} {x : S59} (h : okT (.un a x)) : (x.f0 = 3 ∨ x.f0 = 4) ∧ x.f1 = 0 := by
 obtain ⟨_, h1, h2⟩ := h
 rcases need_cases x.f0 with ⟨e, _⟩ | ⟨_, e⟩ | ⟨e, _⟩ | ⟨e, _⟩
 ·omega
 ·refine ⟨e, ?_⟩
  unfold nOk at h2
  rw [if_neg (by omega), if_neg (by omega)] at h2; exact h2
 all_goals omega
theorem bin_of {a b : Tr} {x : S59} (h : okT (.bin a b x)) : (x.f0 = 5 ∨ x.f0 = 6 ∨ x.f0 = 7 ∨ x.f0 = 8) ∧ x.f1 = 0 := by
 obtain ⟨_, _, h1, h2⟩ := h
 rcases need_cases x.f0 with ⟨e, _⟩ | ⟨e, _⟩ | ⟨_, e⟩ | ⟨e, _⟩
 ·omega
 ·omega
 ·refine ⟨e, ?_⟩
  unfold nOk at h2
  rw [if_neg (by omega), if_neg (by omega)] at h2; exact h2
 ·omega
theorem At.seg {l : List S59} {t : Tr} {i : Nat} (h : At l t i) : (l.take (i + (post t).length)).drop i = post t := by
 obtain ⟨p, s, rfl, rfl⟩ := h
 rw [← List.append_assoc, List.take_left' (by rw [List.length_append]), List.drop_left' rfl]
theorem l10Push_ev (l : List S59) (hl : l.length ≤ 1048576) : ∀ (t : Tr) (i : Nat) (n : Bool), okT t → At l t i → Ev (fun k => spec_l10Push.f k l ((i + (post t).length - 1 : Nat) : Int) n) (pushT t n)
 | .leaf x, i, n, ok, h => by
  obtain ⟨h1, h2⟩ := h.leaf_root
  obtain ⟨hx, hx1, hx2⟩ := leaf_of ok
  rw [show i + (post (.leaf x)).length - 1 = i from by simp [post]]
  refine Ev.step (fun k => by simp only [spec_l10Push.f]; rw [if_pos (by omega), if_pos (by omega), rdS, h2, if_neg (by omega)]) ?_
  by_cases h3 : x.f0 = 1
  ·refine ev_pos h3 ?_
   cases n with
   | true => exact ev_pos rfl (ev_eq (Ev.now _) (by simp only [pushT, if_true]; rw [if_pos h3]))
   | false => exact ev_neg (by simp) (ev_eq (Ev.now _) (by simp [pushT]))
  ·refine ev_neg h3 (ev_pos (by omega) ?_)
   cases n with
   | true => exact ev_pos rfl (ev_eq (Ev.now _) (by simp only [pushT, if_true]; rw [if_neg h3, wid (by omega) (by omega), show x.f0 = 2 by omega]))
   | false => exact ev_neg (by simp) (ev_eq (Ev.now _) (by simp [pushT]))
 | .un a x, i, n, ok, h => by
  obtain ⟨h1, h2⟩ := h.un_root
  obtain ⟨hx, hx1⟩ := un_of ok
  have ha := post_pos a
  have hb := pushT_len a n
  rw [last_un]
  refine Ev.step (fun k => by simp only [spec_l10Push.f]; rw [if_pos (by omega), if_pos (by omega), rdS, h2, wpred (by omega) (by omega)]) ?_
  by_cases h3 : x.f0 = 3
  ·refine ev_pos h3 ?_
   exact Ev.bind (l10Push_ev l hl a i (!n) ok.1 h.un) (ev_eq (Ev.now _) (by simp only [pushT]; rw [if_pos h3]))
  ·refine ev_neg h3 (ev_neg (by omega) (ev_neg (by omega) (ev_pos (by omega) ?_)))
   refine Ev.bind (l10Push_ev l hl a i n ok.1 h.un) (Ev.bind (Ev.now _) (ev_pos (by rw [List.length_singleton]; omega) (ev_eq (Ev.now _) ?_)))
   simp only [pushT]; rw [if_neg h3, hx1, show x.f0 = 4 by omega]
 | .bin a b x, i, n, ok, h => by
  obtain ⟨h1, h2⟩ := h.bin_root
  obtain ⟨hx, hx1⟩ := bin_of ok
  have ha := post_pos a
  have hb := post_pos b
  have la := pushT_len a n
  have lb := pushT_len b n
  rw [last_bin]
  refine Ev.step (fun k => by simp only [spec_l10Push.f]; rw [if_pos (by omega), if_pos (by omega), rdS, h2, wpred (by omega) (by omega)]) ?_
  refine ev_neg (by omega) (ev_neg (by omega) (ev_neg (by omega) (ev_neg (by omega) ?_)))
  have fB := l10From_ev l hl b (i + (post a).length) ok.2.1 h.right
  have pA := l10Push_ev l hl a i n ok.1 h.left
  have pB := l10Push_ev l hl b (i + (post a).length) n ok.2.1 h.right
  have w1 : wrap64 (((i + (post a).length : Nat) : Int) - 1) = ((i + (post a).length - 1 : Nat) : Int) := wpred (by omega) (by omega)
  have fin : ∀ op : Int, op = opp n x.f0 → Ev (fun k => (spec_l10Push.f k l (wrap64 (((i + (post a).length : Nat) : Int) - 1)) n).bind fun t626 => ((spec_l10Push.f k l ((i + (post a).length + (post b).length - 1 : Nat) : Int) n).bind fun t629 => (if t626.length + t629.length < 8796093022208 then ((some (t626 ++ t629 : List S59)).bind fun y632 => ((some (([(⟨op, 0⟩ : S59)] : List S59) : List S59)).bind fun y635 => (if y632.length + y635.length < 8796093022208 then (some (y632 ++ y635)) else (none)))) else (none)))) (pushT (.bin a b x) n) := fun op ho => by
   rw [w1]
   refine Ev.bind pA (Ev.bind pB (ev_pos (by omega) (Ev.bind (Ev.now _) (Ev.bind (Ev.now _) (ev_pos (by rw [List.length_append, List.length_singleton]; omega) (ev_eq (Ev.now _) ?_))))))
   rw [pushT, ho, List.append_assoc]
  cases n with
  | true =>
   refine ev_pos rfl (Ev.bind (a := opp true x.f0) (ev_const ?_) (Ev.bind fB (fin _ rfl)))
   simp only [spec_l10Other.f, opp, if_true]
   rcases hx with e | e | e | e <;> rw [e] <;> rfl
  | false => exact ev_neg (by simp) (Ev.bind fB (fin _ (by simp [opp])))
theorem scan_step {l : List S59} (hl : l.length ≤ 1048576) {q m c : Nat} (hq : q < l.length) (hm : m ≤ 1000) (hc : needS (l.getD q z59).f0 = (c : Int)) {p : List (List S59)} {e u v : Int} {r : List (List S59)}
  (h : Ev (fun k => impl_partsOf.l1 k l p e (q : Int) ((m + c : Nat) : Int) u v) r) : Ev (fun k => impl_partsOf.l1 k l p e ((q + 1 : Nat) : Int) ((m + 1 : Nat) : Int) u v) r := by
 have hn := need_le (l.getD q z59).f0
 have e1 : wrap64 (((q + 1 : Nat) : Int) - 1) = (q : Int) := by rw [wid (by omega) (by omega)]; omega
 refine Ev.step (fun k => by simp only [impl_partsOf.l1]; rw [if_pos (by omega), e1, if_pos (by omega), if_pos (by omega), rdS]) ?_
 refine Ev.bind (operandsOfSaid_ev _) ?_
 rw [hc]
 have e2 : wrap64 (((m + 1 : Nat) : Int) + wrap64 ((c : Int) - 1)) = ((m + c : Nat) : Int) := by rw [wid (x := (c : Int) - 1) (by omega) (by omega), wid (by omega) (by omega)]; omega
 rw [e2]
 exact h
theorem scan_tree {l : List S59} (hl : l.length ≤ 1048576) {p : List (List S59)} {e u v : Int} {r : List (List S59)} : ∀ (t : Tr) (i m : Nat), okT t → At l t i → m + (post t).length ≤ 1000 → Ev (fun k => impl_partsOf.l1 k l p e (i : Int) (m : Int) u v) r → Ev (fun k => impl_partsOf.l1 k l p e ((i + (post t).length : Nat) : Int) ((m + 1 : Nat) : Int) u v) r
 | .leaf x, i, m, ok, h, hm, hr => by
  obtain ⟨h1, h2⟩ := h.leaf_root
  rw [show i + (post (.leaf x)).length = i + 1 from by simp [post]]
  exact scan_step hl h1 (by omega) (c := 0) (by rw [h2]; exact ok.1) hr
 | .un a x, i, m, ok, h, hm, hr => by
  obtain ⟨h1, h2⟩ := h.un_root
  simp only [post, List.length_append, List.length_singleton] at hm
  rw [show i + (post (.un a x)).length = i + (post a).length + 1 from by simp [post]; omega]
  exact scan_step hl h1 (by omega) (c := 1) (by rw [h2]; exact ok.2.1) (scan_tree hl a i m ok.1 h.un (by omega) hr)
 | .bin a b x, i, m, ok, h, hm, hr => by
  obtain ⟨h1, h2⟩ := h.bin_root
  simp only [post, List.length_append, List.length_singleton] at hm
  have ha := post_pos a
  rw [show i + (post (.bin a b x)).length = i + (post a).length + (post b).length + 1 from by simp [post]; omega]
  exact scan_step hl h1 (by omega) (c := 2) (by rw [h2]; exact ok.2.2.1) (scan_tree hl b (i + (post a).length) (m + 1) ok.2.1 h.right (by omega) (scan_tree hl a i m ok.1 h.left (by omega) hr))
theorem part_round {l : List S59} (hl : l.length ≤ 1048576) {p : List (List S59)} (hp : p.length ≤ 10) {u : Int} (hu : u ≤ 2) {j : Nat} (hj : (j : Int) < u) {r : List (List S59)} (t : Tr) (i : Nat) (ok : okT t) (h : At l t i) (hm : (post t).length ≤ 900)
  (hr : Ev (fun k => impl_partsOf.l0 k l (post t :: p) (i : Int) u ((j + 1 : Nat) : Int)) r) : Ev (fun k => impl_partsOf.l0 k l p ((i + (post t).length : Nat) : Int) u (j : Int)) r := by
 have hlt := h.lt
 refine Ev.step (fun k => by simp only [impl_partsOf.l0]; rw [if_pos hj]) ?_
 refine scan_tree hl t i 0 ok h (by omega) ?_
 refine Ev.step (fun k => by simp only [impl_partsOf.l1]; rw [if_neg (by omega), if_pos (by omega), if_pos (by omega), if_pos (by omega), Int.toNat_natCast, Int.toNat_natCast, h.seg, wsucc (by omega)]) ?_
 exact Ev.bind (Ev.now _) (ev_pos (by simp only [List.length_singleton]; omega) hr)
def partsT : Tr → List Tr
 | .leaf _ => []
 | .un a _ => [a]
 | .bin a b _ => [a, b]
theorem partsOf_ev (t : Tr) (ok : okT t) (hm : (post t).length ≤ 16) : Ev (fun k => impl_partsOf.f k (post t)) ((partsT t).map post) := by
 have hp := post_pos t
 have hr := (At.whole t).root z59
 rw [Nat.zero_add] at hr
 have hend : ∀ (p : List (List S59)) (e : Int) (j : Nat), Ev (fun k => impl_partsOf.l0 k (post t) p e (j : Int) (j : Int)) p := fun p e j => Ev.step (f := fun _ => some p) (fun k => by simp only [impl_partsOf.l0]; rw [if_neg (by omega)]) (Ev.now _)
 have st : ∀ {c : Int} {r : List (List S59)}, needS (root t).f0 = c → Ev (fun k => impl_partsOf.l0 k (post t) [] (((post t).length - 1 : Nat) : Int) c ((0 : Nat) : Int)) r → Ev (fun k => impl_partsOf.f k (post t)) r := fun hc h => by
  refine ev_pos (by rw [wpred hp (by omega)]; omega) (ev_pos (by rw [wpred hp (by omega)]; omega) ?_)
  rw [wpred hp (by omega), rdS, hr]
  refine Ev.bind (operandsOfSaid_ev _) ?_
  rw [hc]; exact h
 cases t with
 | leaf x => exact st (c := ((0 : Nat) : Int)) ok.1 (hend _ _ 0)
 | un a x =>
  have e1 : (post (.un a x)).length - 1 = 0 + (post a).length := by simp [post]
  simp only [post, List.length_append, List.length_singleton] at hm
  refine st (c := ((1 : Nat) : Int)) ok.2.1 ?_
  rw [e1]
  exact part_round (by simp only [post, List.length_append, List.length_singleton]; omega) (by simp) (by omega) (by omega) a 0 ok.1 (At.whole _).un (by omega) (hend _ _ 1)
 | bin a b x =>
  have e1 : (post (.bin a b x)).length - 1 = (0 + (post a).length) + (post b).length := by simp [post]
  simp only [post, List.length_append, List.length_singleton] at hm
  have hl : (post (.bin a b x)).length ≤ 1048576 := by simp only [post, List.length_append, List.length_singleton]; omega
  refine st (c := ((2 : Nat) : Int)) ok.2.2.1 ?_
  rw [e1]
  refine part_round hl (by simp) (by omega) (by omega) b (0 + (post a).length) ok.2.1 (At.whole _).right (by omega) ?_
  exact part_round hl (by simp) (by omega) (by omega) a 0 ok.1 (At.whole _).left (by omega) (hend _ _ 2)
theorem push_end (n : Bool) (acc : List S59) (ha : acc.length ≤ 1000) (L : List (List S59)) (op N : Int) : Ev (fun k => impl_pushNot.l0 k n acc L (L.length : Int) (L.length : Int) op N) (acc ++ [⟨op, N⟩]) :=
 Ev.step (f := fun _ => some (acc ++ [⟨op, N⟩])) (fun k => by simp only [impl_pushNot.l0]; rw [if_neg (by omega), if_pos (by omega)]) (Ev.now _)
theorem push_step {n : Bool} {acc p : List S59} (ha : acc.length + p.length ≤ 1000) {L : List (List S59)} {op N : Int} {j : Nat} (hj : j < L.length) (hL : L.length ≤ 10) {r : List S59} (hp : Ev (fun k => impl_pushNot.f k (L.getD j []) n) p)
  (hr : Ev (fun k => impl_pushNot.l0 k n (acc ++ p) L (L.length : Int) ((j + 1 : Nat) : Int) op N) r) : Ev (fun k => impl_pushNot.l0 k n acc L (L.length : Int) (j : Int) op N) r := by
 have er : rd_L5 L (j : Int) = L.getD j [] := by simp [rd_L5]
 refine Ev.step (fun k => by simp only [impl_pushNot.l0]; rw [if_pos (by omega), if_pos (by omega), if_pos (by omega), er, wsucc (by omega)]) ?_
 exact Ev.bind hp (ev_pos (by omega) hr)
theorem pushNot_ev : ∀ (t : Tr) (n : Bool), okT t → (post t).length ≤ 16 → Ev (fun k => impl_pushNot.f k (post t) n) (pushT t n) := by
 have start : ∀ (t : Tr) (n : Bool) {r : List S59}, okT t → (post t).length ≤ 16 →
   Ev (fun k => if (root t).f0 = 3 then (if 0 < (((partsT t).map post).length : Int) then ((impl_pushNot.f k (rd_L5 ((partsT t).map post) 0) (!n)).bind fun t690 => (some t690)) else (none)) else (if (root t).f0 = 1 then (impl_pushNot.j0 k n ((partsT t).map post) n (root t).f0 (root t).f1) else (impl_pushNot.j0 k n ((partsT t).map post) false (root t).f0 (root t).f1))) r →
   Ev (fun k => impl_pushNot.f k (post t) n) r := fun t n r ok hm h => by
  have hp := post_pos t
  have hr := (At.whole t).root z59
  rw [Nat.zero_add] at hr
  refine Ev.step (fun k => by simp only [impl_pushNot.f]; rw [wpred hp (by omega), if_pos (by omega), if_pos (by omega), rdS, hr]) ?_
  exact Ev.bind (partsOf_ev t ok hm) h
 have j2 : ∀ (n : Bool) (L : List (List S59)) (op N : Int) {r : List S59}, Ev (fun k => impl_pushNot.l0 k n [] L (L.length : Int) ((0 : Nat) : Int) op N) r → Ev (fun k => impl_pushNot.j2 k n L op N) r := fun n L op N r h => Ev.step (fun k => by simp only [impl_pushNot.j2]; rfl) h
 have j1 : ∀ (n : Bool) (L : List (List S59)) (op N : Int) {r : List S59}, op ≠ 1 → op ≠ 2 → Ev (fun k => impl_pushNot.l0 k n [] L (L.length : Int) ((0 : Nat) : Int) (if n = true then (if op = 5 then 6 else if op = 6 then 5 else if op = 7 then 8 else if op = 8 then 7 else op) else op) N) r → Ev (fun k => impl_pushNot.j0 k n L false op N) r := fun n L op N r h1 h2 h => by
  refine Ev.step (fun k => by rw [impl_pushNot.j0, if_neg (by simp), if_neg h2]) (Ev.step (fun k => by rw [impl_pushNot.j1, if_neg (by simp)]) ?_)
  cases n with
  | true =>
   refine ev_pos rfl (Ev.bind (a := if op = 5 then 6 else if op = 6 then 5 else if op = 7 then 8 else if op = 8 then 7 else op) (ev_const ?_) (j2 _ _ _ _ (by simpa using h)))
   unfold impl_opposite.f
   repeat' split
   all_goals rfl
  | false => exact ev_neg (by simp) (j2 _ _ _ _ (by simpa using h))
 intro t
 induction t with
 | leaf x =>
  intro n ok hm
  obtain ⟨hx, hx1, hx2⟩ := leaf_of ok
  refine start _ n ok hm (ev_neg (by show ¬ x.f0 = 3; omega) ?_)
  have fin : ∀ m : Bool, Ev (fun k => impl_pushNot.j2 k m [] x.f0 x.f1) [x] := fun m => j2 m [] x.f0 x.f1 (push_end m [] (by simp) [] x.f0 x.f1)
  by_cases h1 : x.f0 = 1
  ·refine ev_pos h1 ?_
   cases n with
   | true => exact Ev.step (f := fun _ => some [x, ⟨3, 0⟩]) (fun k => by rw [impl_pushNot.j0, if_pos rfl]; rfl) (ev_eq (Ev.now _) (by simp only [pushT, if_true]; rw [if_pos h1]))
   | false =>
    refine Ev.step (fun k => by rw [impl_pushNot.j0, if_neg (by simp), if_neg (by show ¬ x.f0 = 2; omega)]) (Ev.step (fun k => by rw [impl_pushNot.j1, if_neg (by simp), if_neg (by simp)]) ?_)
    exact ev_eq (fin false) (by simp [pushT])
  ·refine ev_neg h1 (Ev.step (fun k => by rw [impl_pushNot.j0, if_neg (by simp), if_pos (by show x.f0 = 2; omega)]) ?_)
   cases n with
   | true => exact Ev.step (f := fun _ => some [⟨2, 1 - x.f1⟩]) (fun k => by rw [impl_pushNot.j1, if_pos rfl]; show some [(⟨2, wrap64 (1 - x.f1)⟩ : S59)] = _; rw [wid (by omega) (by omega)]) (ev_eq (Ev.now _) (by simp only [pushT, if_true]; rw [if_neg h1]))
   | false => exact Ev.step (fun k => by rw [impl_pushNot.j1, if_neg (by simp), if_neg (by simp)]; rfl) (ev_eq (fin false) (by simp [pushT]))
 | un a x ih =>
  intro n ok hm
  obtain ⟨hx, hx1⟩ := un_of ok
  have hm2 : (post a).length ≤ 16 := by simp only [post, List.length_append, List.length_singleton] at hm; omega
  have la := pushT_len a n
  refine start _ n ok hm ?_
  by_cases h3 : x.f0 = 3
  ·refine ev_pos h3 (ev_pos (by simp [partsT]) ?_)
   exact Ev.bind (ih (!n) ok.1 hm2) (ev_eq (Ev.now _) (by simp only [pushT]; rw [if_pos h3]))
  ·refine ev_neg h3 (ev_neg (by show ¬ x.f0 = 1; omega) (j1 n [post a] x.f0 x.f1 (by omega) (by omega) ?_))
   have e4 : (if n = true then (if x.f0 = 5 then 6 else if x.f0 = 6 then 5 else if x.f0 = 7 then 8 else if x.f0 = 8 then 7 else x.f0) else x.f0) = 4 := by
    have : x.f0 = 4 := by omega
    rw [this]; cases n <;> rfl
   rw [e4, hx1]
   refine push_step (j := 0) (L := [post a]) (p := pushT a n) (by simp; omega) (by simp) (by simp) (ih n ok.1 hm2) ?_
   exact ev_eq (push_end n ([] ++ pushT a n) (by simp; omega) [post a] 4 0) (by simp only [pushT]; rw [if_neg h3]; rfl)
 | bin a b x iha ihb =>
  intro n ok hm
  obtain ⟨hx, hx1⟩ := bin_of ok
  have hm2 : (post a).length + (post b).length ≤ 15 := by simp only [post, List.length_append, List.length_singleton] at hm; omega
  have la := pushT_len a n
  have lb := pushT_len b n
  refine start _ n ok hm (ev_neg (by show ¬ x.f0 = 3; omega) (ev_neg (by show ¬ x.f0 = 1; omega) (j1 n [post a, post b] x.f0 x.f1 (by omega) (by omega) ?_)))
  have e4 : (if n = true then (if x.f0 = 5 then 6 else if x.f0 = 6 then 5 else if x.f0 = 7 then 8 else if x.f0 = 8 then 7 else x.f0) else x.f0) = opp n x.f0 := by
   unfold opp
   rcases hx with e | e | e | e <;> rw [e] <;> cases n <;> rfl
  rw [e4, hx1]
  refine push_step (j := 0) (L := [post a, post b]) (p := pushT a n) (by simp; omega) (by simp) (by simp) (iha n ok.1 (by omega)) ?_
  refine push_step (j := 1) (L := [post a, post b]) (p := pushT b n) (by simp; omega) (by simp) (by simp) (ihb n ok.2.1 (by omega)) ?_
  exact ev_eq (push_end n ([] ++ pushT a n ++ pushT b n) (by simp; omega) [post a, post b] _ 0) (by simp [pushT])
theorem PushNot_both (l : List S59) (n : Bool) (hl : l.length ≤ 9223372036854775807) : ∃ r : List S59 × Bool, Ev (fun k => spec_PushNot.f k l n) r ∧ Ev (fun k => impl_PushNot.f k l n) r ∧ r.1.length ≤ 16 := by
 by_cases hg : GoodS l
 ·obtain ⟨t, ok, rfl⟩ := tree_of hg
  have h16 := hg.2.1
  have hp := post_pos t
  have hlp := pushT_len t n
  have h1 := l10Push_ev (post t) (by omega) t 0 n ok (At.whole t)
  rw [Nat.zero_add] at h1
  have h2 := pushNot_ev t n ok h16
  obtain ⟨r, hr, m3⟩ := chk_ex (pushT t n)
  have m1 := l10Made_ev (pushT t n) (by omega) hr
  have m2 := checkedSaid_ev (pushT t n) (by omega) hr
  refine ⟨r, Ev.bind (tells_ev (spec_GoodSaid_tells _ hl) hg) (ev_pos rfl ?_), Ev.bind (tells_ev (impl_GoodSaid_tells _ hl) hg) (ev_pos rfl (Ev.bind h2 (Ev.bind m2 (Ev.now _)))), m3⟩
  rw [wpred hp (by omega)]
  exact Ev.bind h1 (Ev.bind m1 (Ev.now _))
 ·exact ⟨([], false), Ev.bind (tells_ev_not (spec_GoodSaid_tells l hl) hg) (ev_neg (by simp) (Ev.now _)), Ev.bind (tells_ev_not (impl_GoodSaid_tells l hl) hg) (ev_neg (by simp) (Ev.now _)), by simp⟩
theorem heldSaidS_l0 (y : List S59) (hy : y.length ≤ 1048576) (d : Nat) : ∀ (j : Nat) (a : Int), j + d = y.length → y.drop j = cntS d a → 0 ≤ a → a + 2 * d ≤ 4611686018427387904 → Ev (fun k => laws_heldSaidS.l0 k y a (j : Int)) (a + 2 * d) := by
 induction d with
 | zero =>
  intro j a hd hc h0 h1
  exact ev_eq (Ev.step (f := fun _ => some a) (fun k => by simp only [laws_heldSaidS.l0]; rw [if_neg (by omega)]) (Ev.now _)) (by omega)
 | succ d ih =>
  intro j a hd hc h0 h1
  rw [drop_cons (by omega) z59, cntS] at hc
  obtain ⟨h2, h3⟩ := List.cons.inj hc
  have er : rd_T59 y (j : Int) = (⟨a, a + 1⟩ : S59) := by rw [← h2]; simp [rd_T59]
  refine Ev.step (fun k => by simp only [laws_heldSaidS.l0]; rw [if_pos (by omega), if_pos (by omega), er, if_pos rfl, wsucc (by omega), wid (x := a + 1) (by omega) (by omega), if_pos rfl, wid (x := a + 1 + 1) (by omega) (by omega)]) ?_
  exact ev_eq (ih (j + 1) (a + 1 + 1) (by omega) (by rw [h3]; congr 1; omega) (by omega) (by omega)) (by omega)
theorem heldSaidS_ev (n : Nat) (a : Int) (hn : n ≤ 1048576) (h0 : 0 ≤ a) (h1 : a ≤ 1152921504606846976) : Ev (fun k => laws_heldSaidS.f k (cntS n a) a) (a + 2 * n) :=
 heldSaidS_l0 (cntS n a) (by rw [cntS_length]; exact hn) n 0 a (by rw [cntS_length]; omega) (by simp) h0 (by omega)

theorem FnExactPushNot : ∀ (l0 : List (S62)) (a1 : Bool), (l0.length ≤ 9223372036854775807 ∧ ∀ x ∈ l0, (In64 x.f0) ∧ (In64 x.f1)) → ∃ k, laws_FnExactPushNot.f k l0 a1 = some true := by
  intro l n hl
  refine Ev.rounds ?_
  refine Ev.bind (ev_const (szSaidS_eq l hl.1)) ?_
  by_cases h : l.length ≤ 1048576
  · rw [if_pos h]
    refine ev_neg (by omega) ?_
    have hm : (l.map cSaid).length ≤ 9223372036854775807 := by simp; omega
    have ht := toSaidS_ev l h
    obtain ⟨⟨b, ok⟩, hb, hb', hlen⟩ := PushNot_both _ n hm
    have hlen : b.length ≤ 16 := hlen
    have he := eqSaidS_ev b (by omega)
    have hk := markSaidS_ev b 1 (by omega) (by omega) (by omega)
    have hh := heldSaidS_ev b.length 1 (by omega) (by omega) (by omega)
    refine Ev.bind ht (Ev.bind hb (Ev.bind ht (Ev.bind hb' (Ev.bind he (ev_pos rfl ?_)))))
    refine Ev.step (fun k => by simp only [laws_FnExactPushNot.j0]; rw [if_neg (by simp)]) ?_
    refine Ev.bind ht (Ev.bind (eqSaidS_ev _ hm) (ev_pos rfl ?_))
    refine Ev.bind (markSaidS_ev _ 1 (by simpa using h) (by omega) (by omega)) (ev_neg (by simp only; omega) (Ev.bind he (ev_pos rfl ?_)))
    refine Ev.step (fun k => by simp only [laws_FnExactPushNot.j1]; rw [if_neg (by simp)]) ?_
    refine Ev.bind hk (Ev.bind hh (ev_neg (by omega) (ev_pos rfl ?_)))
    refine Ev.bind ht (Ev.bind hb' (Ev.bind he (ev_pos rfl ?_)))
    refine Ev.step (fun k => by simp only [laws_FnExactPushNot.j2]; rw [if_neg (by simp)]) ?_
    exact Ev.bind hh (ev_neg (by omega) (ev_pos rfl (Ev.now _)))
  · rw [if_neg h]
    exact ev_pos (by omega) (Ev.now _)

end Go.Proofs.Ytaacldndbjmekaa.Pure
