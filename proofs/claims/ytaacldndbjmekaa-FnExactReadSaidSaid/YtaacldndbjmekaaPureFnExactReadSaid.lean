/- The pure statement of the law FnExactReadSaid: what the printed functions compute makes the law true, for every input. No condition. -/
import Derived.Test.YtaacldndbjmekaaOpen
import Derived.Test.YtaacldndbjmekaaAid
import Derived.Test.YtaacldndbjmekaaP115
set_option linter.unusedVariables false
set_option linter.unusedSimpArgs false
namespace Go.Proofs.Ytaacldndbjmekaa.Pure
open Go.RowKit Go.Proofs.YtaacldndbjmekaaW.PrintWords Go.Proofs.Ytaacldndbjmekaa.P Go.Proofs.Ytaacldndbjmekaa.Hof Go.Proofs.Ytaacldndbjmekaa.Open Go.Proofs.Ytaacldndbjmekaa.Aid
-- LEMMAS
theorem eqSaidS_l0 (l : List S59) (hl : l.length ≤ 9223372036854775807) (d : Nat) : ∀ (j : Nat), j + d = l.length → Ev (fun k => laws_eqSaidS.l0 k l l (j : Int)) true := by
 induction d with
 | zero => exact fun j hd => Ev.step (f := fun _ => some true) (fun k => by simp only [laws_eqSaidS.l0]; rw [if_neg (by omega)]) (Ev.now _)
 | succ d ih => exact fun j hd => Ev.step (fun k => by simp only [laws_eqSaidS.l0, laws_eqSaid.f, if_true, Option.bind_some]; rw [if_pos (by omega), if_pos (by omega), if_pos (by omega), wsucc (by omega)]) (ih (j + 1) (by omega))
theorem eqSaidS_ev (l : List S59) (hl : l.length ≤ 9223372036854775807) : Ev (fun k => laws_eqSaidS.f k l l) true :=
 Ev.congr (fun k => by simp only [laws_eqSaidS.f, if_true]; rfl) (eqSaidS_l0 l hl l.length 0 (by omega))
def cntS : Nat → Int → List S59
 | 0, _ => []
 | n + 1, a => ⟨a, a + 1⟩ :: cntS n (a + 2)
theorem cntS_length : ∀ n a, (cntS n a).length = n
 | 0, _ => rfl
 | n + 1, a => by simp [cntS, cntS_length n]
theorem markSaidS_l0 (d : Nat) : ∀ (j : Nat) (y : List S59) (a : Int), j + d = y.length → y.length ≤ 1048576 → 0 ≤ a → a + 2 * d ≤ 4611686018427387904 → Ev (fun k => laws_markSaidS.l0 k y a (j : Int)) (a + 2 * d, y.take j ++ cntS d a) := by
 induction d with
 | zero =>
  intro j y a hd hy h0 h1
  refine ev_eq (Ev.step (f := fun _ => some (a, y)) (fun k => by simp only [laws_markSaidS.l0]; rw [if_neg (by omega)]) (Ev.now _)) ?_
  rw [List.take_of_length_le (by omega)]; simp [cntS]
 | succ d ih =>
  intro j y a hd hy h0 h1
  have hj : j < y.length := by omega
  have e0 : (rd_T59 (y.set j (⟨a, (rd_T59 y (j : Int)).f1⟩ : S59)) (j : Int)).f0 = a := by
   simp [rd_T59, List.getD_eq_getElem?_getD, hj]
  refine Ev.step (f := fun k => laws_markSaidS.l0 k (y.set j ⟨a, a + 1⟩) (a + 2) ((j + 1 : Nat) : Int)) (fun k => by
   simp only [laws_markSaidS.l0, Option.bind_some, Int.toNat_natCast]
   rw [if_pos (by omega), if_pos (by omega), wsucc (by omega), wid (x := a + 1) (by omega) (by omega), wid (x := a + 1 + 1) (by omega) (by omega), e0, List.set_set, show a + 1 + 1 = a + 2 by omega]) ?_
  refine ev_eq (ih (j + 1) (y.set j ⟨a, a + 1⟩) (a + 2) (by simp; omega) (by simpa using hy) (by omega) (by omega)) ?_
  rw [List.take_succ_eq_append_getElem (by simp; omega), List.take_set_of_le (Nat.le_refl j)]
  simp [cntS]; omega
theorem markSaidS_ev (y : List S59) (a : Int) (hy : y.length ≤ 1048576) (h0 : 0 ≤ a) (h1 : a ≤ 1152921504606846976) : Ev (fun k => laws_markSaidS.f k y a) (a + 2 * y.length, cntS y.length a) :=
 ev_eq (markSaidS_l0 y.length 0 y a (by omega) hy h0 (by omega)) (by simp)
theorem heldSaidS_l0 (y : List S59) (hy : y.length ≤ 1048576) (d : Nat) : ∀ (j : Nat) (a : Int), j + d = y.length → y.drop j = cntS d a → 0 ≤ a → a + 2 * d ≤ 4611686018427387904 → Ev (fun k => laws_heldSaidS.l0 k y a (j : Int)) (a + 2 * d) := by
 induction d with
 | zero =>
  intro j a hd hc h0 h1
  exact ev_eq (Ev.step (f := fun _ => some a) (fun k => by simp only [laws_heldSaidS.l0]; rw [if_neg (by omega)]) (Ev.now _)) (by omega)
 | succ d ih =>
  intro j a hd hc h0 h1
  rw [drop_cons (by omega) z59, cntS] at hc
  obtain ⟨h2, h3⟩ := List.cons.inj hc
  have er : rd_T59 y (j : Int) = (⟨a, a + 1⟩ : S59) := by rw [← h2]; simp [rd_T59]
  refine Ev.step (fun k => by simp only [laws_heldSaidS.l0]; rw [if_pos (by omega), if_pos (by omega), er, if_pos rfl, wsucc (by omega), wid (x := a + 1) (by omega) (by omega), if_pos rfl, wid (x := a + 1 + 1) (by omega) (by omega)]) ?_
  exact ev_eq (ih (j + 1) (a + 1 + 1) (by omega) (by rw [h3]; congr 1; omega) (by omega) (by omega)) (by omega)
theorem heldSaidS_ev (n : Nat) (a : Int) (hn : n ≤ 1048576) (h0 : 0 ≤ a) (h1 : a ≤ 1152921504606846976) : Ev (fun k => laws_heldSaidS.f k (cntS n a) a) (a + 2 * n) :=
 heldSaidS_l0 (cntS n a) (by rw [cntS_length]; exact hn) n 0 a (by rw [cntS_length]; omega) (by simp) h0 (by omega)
theorem l1In_eq (n lo hi : Int) : spec_l1In.f n lo hi = some (decide (lo ≤ n ∧ n ≤ hi)) := by
 simp only [spec_l1In.f]
 by_cases h : n ≥ lo
 ·rw [if_pos h]; congr 1; simp; intro _; exact h
 ·rw [if_neg h]; congr 1; simp; intro h'; omega
theorem l1In_tells (n lo hi : Int) : Tells (fun _ => spec_l1In.f n lo hi) (lo ≤ n ∧ n ≤ hi) := by
 simp only [l1In_eq]; exact tells_some (by simp)
def needS (op : Int) : Int := if op = 1 ∨ op = 2 then 0 else if op = 3 ∨ op = 4 then 1 else if op = 5 ∨ op = 6 ∨ op = 7 ∨ op = 8 then 2 else -1
def nOk (x : S59) : Prop := if x.f0 = 1 then 0 ≤ x.f1 ∧ x.f1 ≤ 2 else if x.f0 = 2 then 0 ≤ x.f1 ∧ x.f1 ≤ 1 else x.f1 = 0
def gs : List S59 → Int → Prop
 | [], c => c = 1
 | x :: t, c => 0 ≤ needS x.f0 ∧ nOk x ∧ needS x.f0 ≤ c ∧ gs t (c + (1 - needS x.f0))
def GoodS (l : List S59) : Prop := 1 ≤ l.length ∧ l.length ≤ 16 ∧ gs l 0
theorem need_cases (op : Int) : (needS op = 0 ∧ (op = 1 ∨ op = 2)) ∨ (needS op = 1 ∧ (op = 3 ∨ op = 4)) ∨ (needS op = 2 ∧ (op = 5 ∨ op = 6 ∨ op = 7 ∨ op = 8)) ∨ (needS op = -1 ∧ op ≠ 1 ∧ op ≠ 2 ∧ op ≠ 3 ∧ op ≠ 4 ∧ op ≠ 5 ∧ op ≠ 6 ∧ op ≠ 7 ∧ op ≠ 8) := by
 unfold needS
 by_cases h1 : op = 1 ∨ op = 2
 ·rw [if_pos h1]; exact .inl ⟨rfl, h1⟩
 rw [if_neg h1]
 by_cases h2 : op = 3 ∨ op = 4
 ·rw [if_pos h2]; exact .inr (.inl ⟨rfl, h2⟩)
 rw [if_neg h2]
 by_cases h3 : op = 5 ∨ op = 6 ∨ op = 7 ∨ op = 8
 ·rw [if_pos h3]; exact .inr (.inr (.inl ⟨rfl, h3⟩))
 rw [if_neg h3]
 exact .inr (.inr (.inr ⟨rfl, by omega, by omega, by omega, by omega, by omega, by omega, by omega, by omega⟩))
theorem need_le (op : Int) : -1 ≤ needS op ∧ needS op ≤ 2 := by rcases need_cases op with ⟨h, _⟩ | ⟨h, _⟩ | ⟨h, _⟩ | ⟨h, _⟩ <;> omega
theorem l10Need_ev (op : Int) : Ev (fun k => spec_l10Need.f k op) (needS op) := by
 refine ev_from 2 (fun m => ?_)
 simp only [spec_l10Need.f, spec_l10Need.j0, spec_l10Need.j1]
 rcases need_cases op with ⟨e, h⟩ | ⟨e, h⟩ | ⟨e, h⟩ | ⟨e, h⟩ <;> rw [e]
 ·rcases h with rfl | rfl <;> simp
 ·rcases h with rfl | rfl <;> simp
 ·rcases h with rfl | rfl | rfl | rfl <;> simp
 ·simp [h]
theorem l10N_tells (x : S59) : Tells (fun _ => spec_l10N.f x.f0 x.f1) (nOk x) := by
 simp only [spec_l10N.f, nOk]
 by_cases h1 : x.f0 = 1
 ·simp only [if_pos h1]
  exact tells_ask (l1In_tells _ _ _) (fun h => tells_yes h) (fun h => tells_no h)
 simp only [if_neg h1]
 by_cases h2 : x.f0 = 2
 ·simp only [if_pos h2]
  exact tells_ask (l1In_tells _ _ _) (fun h => tells_yes h) (fun h => tells_no h)
 simp only [if_neg h2]
 exact tells_some (by simp)
theorem spec_GoodSaid_l0 (l : List S59) (hl : l.length ≤ 16) (d : Nat) : ∀ (j : Nat) (c : Int), 0 ≤ c → c ≤ j → j + d = l.length →
  Tells (fun k => spec_GoodSaid.l0 k c l (l.length : Int) (j : Int)) (gs (l.drop j) c) := by
 induction d with
 | zero =>
  intro j c h0 h1 hd
  refine tells_step (f := fun _ => some (c == 1)) (fun k => by simp only [spec_GoodSaid.l0]; rw [if_neg (by omega)]) (tells_some ?_)
  rw [List.drop_of_length_le (by omega)]; simp [gs]
 | succ d ih =>
  intro j c h0 h1 hd
  have hj : j < l.length := by omega
  have er : rd_T59 l (j : Int) = l.getD j z59 := by simp [rd_T59]
  refine tells_step (fun k => by simp only [spec_GoodSaid.l0]; rw [if_pos (by omega), if_pos (by omega), if_pos (by omega), wsucc (by omega), er]) ?_
  rw [drop_cons hj z59]
  generalize l.getD j z59 = x
  have hn := need_le x.f0
  refine tells_bind (l10Need_ev x.f0) (tells_if (fun h => tells_no (fun g => by have := g.1; omega)) (fun h => ?_))
  refine tells_ask (l10N_tells x) (fun hx => tells_pos rfl ?_) (fun hx => tells_neg (by simp) (tells_no (fun g => hx g.2.1)))
  refine tells_if (fun h2 => tells_no (fun g => by have := g.2.2.1; omega)) (fun h2 => ?_)
  rw [wid (x := 1 - needS x.f0) (by omega) (by omega), wid (by omega) (by omega)]
  exact tells_iff (ih (j + 1) _ (by omega) (by omega) (by omega)) ⟨fun g => ⟨by omega, hx, by omega, g⟩, fun g => g.2.2.2⟩
theorem spec_GoodSaid_tells (l : List S59) (hl : l.length ≤ 9223372036854775807) : Tells (fun k => spec_GoodSaid.f k l) (GoodS l) := by
 refine tells_ask (l1In_tells _ _ _) (fun h => tells_pos rfl ?_) (fun h => tells_neg (by simp) (tells_no (fun g => h ⟨by have := g.1; omega, by have := g.2.1; omega⟩)))
 exact tells_iff (spec_GoodSaid_l0 l (by omega) l.length 0 0 (by omega) (by omega) (by omega)) ⟨fun g => ⟨by omega, by omega, by simpa using g⟩, fun g => by simpa using g.2.2⟩
theorem growSaid_eq (x : Int) (h0 : 0 ≤ x) (h1 : x ≤ 1048576) : impl_Said_107.f x = some [] := by
 rw [impl_Said_107.f, if_pos h0, if_pos (by omega)]
theorem concatSaid_l1 (ls : List (List S59)) (hf : ls.flatten.length ≤ 1048576) (hl : ls.length ≤ 1048576) (d : Nat) : ∀ (j : Nat), j + d = ls.length → Ev (fun k => impl_Said_92.l1 k (ls.take j).flatten ls (ls.length : Int) (j : Int)) ls.flatten := by
 induction d with
 | zero =>
  intro j hd
  refine ev_eq (Ev.step (f := fun _ => some (ls.take j).flatten) (fun k => by simp only [impl_Said_92.l1]; rw [if_neg (by omega)]) (Ev.now _)) ?_
  rw [List.take_of_length_le (by omega)]
 | succ d ih =>
  intro j hd
  have hj : j < ls.length := by omega
  have er : rd_L5 ls (j : Int) = ls[j] := by simp [rd_L5, List.getElem?_eq_getElem hj]
  have et : (ls.take (j + 1)).flatten = (ls.take j).flatten ++ ls[j] := by rw [List.take_succ_eq_append_getElem hj, List.flatten_append]; simp
  have eL : (ls.take (j + 1)).flatten.length ≤ ls.flatten.length := by
   conv => rhs; rw [← List.take_append_drop (j + 1) ls, List.flatten_append, List.length_append]
   omega
  have e3 := congrArg List.length et
  rw [List.length_append] at e3
  refine Ev.step (fun k => by simp only [impl_Said_92.l1]; rw [if_pos (by omega), if_pos (by omega), if_pos (by omega), er, if_pos (by omega), wsucc (by omega), ← et]) (ih (j + 1) (by omega))
theorem concatSaid_l0 (ls : List (List S59)) (hf : ls.flatten.length ≤ 1048576) (hl : ls.length ≤ 1048576) (d : Nat) : ∀ (j : Nat), j + d = ls.length → Ev (fun k => impl_Said_92.l0 k ls ((ls.take j).flatten.length : Int) ls (ls.length : Int) (j : Int)) ls.flatten := by
 induction d with
 | zero =>
  intro j hd
  have e1 : ls.take j = ls := List.take_of_length_le (by omega)
  rw [e1]
  refine Ev.step (fun k => by simp only [impl_Said_92.l0]; rw [if_neg (by omega), growSaid_eq _ (by omega) (by omega), Option.bind_some]) ?_
  exact concatSaid_l1 ls hf hl ls.length 0 (by omega)
 | succ d ih =>
  intro j hd
  have hj : j < ls.length := by omega
  have er : rd_L5 ls (j : Int) = ls[j] := by simp [rd_L5, List.getElem?_eq_getElem hj]
  have et : (ls.take (j + 1)).flatten = (ls.take j).flatten ++ ls[j] := by rw [List.take_succ_eq_append_getElem hj, List.flatten_append]; simp
  have eL : (ls.take (j + 1)).flatten.length ≤ ls.flatten.length := by
   conv => rhs; rw [← List.take_append_drop (j + 1) ls, List.flatten_append, List.length_append]
   omega
  have e3 := congrArg List.length et
  rw [List.length_append] at e3
  have e4 : wrap64 (((ls.take j).flatten.length : Int) + (ls[j].length : Int)) = ((ls.take (j + 1)).flatten.length : Int) := by rw [wid (by omega) (by omega)]; omega
  refine Ev.step (fun k => by simp only [impl_Said_92.l0]; rw [if_pos (by omega), if_pos (by omega), if_pos (by omega), er, e4, if_neg (by omega), wsucc (by omega)]) (ih (j + 1) (by omega))
theorem concatSaid_ev (ls : List (List S59)) (hf : ls.flatten.length ≤ 1048576) (hl : ls.length ≤ 1048576) : Ev (fun k => impl_Said_92.f k ls) ls.flatten :=
 concatSaid_l0 ls hf hl ls.length 0 (by omega)
inductive Tr where
 | leaf (x : S59) : Tr
 | un (a : Tr) (x : S59) : Tr
 | bin (a b : Tr) (x : S59) : Tr
def post : Tr → List S59
 | .leaf x => [x]
 | .un a x => post a ++ [x]
 | .bin a b x => post a ++ (post b ++ [x])
def okT : Tr → Prop
 | .leaf x => needS x.f0 = 0 ∧ nOk x
 | .un a x => okT a ∧ needS x.f0 = 1 ∧ nOk x
 | .bin a b x => okT a ∧ okT b ∧ needS x.f0 = 2 ∧ nOk x
def posts (ts : List Tr) : List S59 := (ts.map post).flatten
theorem posts_append (a b : List Tr) : posts (a ++ b) = posts a ++ posts b := by simp [posts]
theorem posts_one (a : Tr) : posts [a] = post a := by simp [posts]
theorem posts_cons (a : Tr) (b : List Tr) : posts (a :: b) = post a ++ posts b := by simp [posts]
theorem post_pos (t : Tr) : 0 < (post t).length := by cases t <;> simp [post] <;> omega
theorem last_split {ts : List Tr} (h : 0 < ts.length) : ∃ a b, ts = a ++ [b] := by
 refine ⟨ts.dropLast, ts.getLast (by intro e; simp [e] at h), ?_⟩
 rw [List.dropLast_concat_getLast]
theorem trees_of : ∀ (l : List S59) (ts : List Tr), (∀ t ∈ ts, okT t) → gs l (ts.length : Int) → ∃ t, okT t ∧ posts ts ++ l = post t
 | [], ts, hts, h => by
  have h1 : ts.length = 1 := by have h2 : (ts.length : Int) = 1 := h; omega
  obtain ⟨t, rfl⟩ := List.length_eq_one_iff.1 h1
  exact ⟨t, hts t (by simp), by simp [posts]⟩
 | x :: l, ts, hts, h => by
  obtain ⟨h1, h2, h3, h4⟩ := h
  rcases need_cases x.f0 with ⟨e, _⟩ | ⟨e, _⟩ | ⟨e, _⟩ | ⟨e, _⟩
  ·obtain ⟨t, ht, hp⟩ := trees_of l (ts ++ [.leaf x]) (fun t ht => by
    rcases List.mem_append.1 ht with ht | ht
    ·exact hts t ht
    ·rw [List.mem_singleton.1 ht]; exact ⟨e, h2⟩) (by rw [e] at h4; simpa using h4)
   exact ⟨t, ht, by rw [← hp, posts_append, posts_one]; simp [post]⟩
  ·obtain ⟨a, b, rfl⟩ := last_split (ts := ts) (by omega)
   obtain ⟨t, ht, hp⟩ := trees_of l (a ++ [.un b x]) (fun t ht => by
    rcases List.mem_append.1 ht with ht | ht
    ·exact hts t (List.mem_append_left _ ht)
    ·rw [List.mem_singleton.1 ht]; exact ⟨hts b (by simp), e, h2⟩) (by rw [e] at h4; simpa using h4)
   exact ⟨t, ht, by rw [← hp, posts_append, posts_append, posts_one, posts_one]; simp [post]⟩
  ·obtain ⟨a0, c, rfl⟩ := last_split (ts := ts) (by omega)
   obtain ⟨a, b, rfl⟩ := last_split (ts := a0) (by simp at h3; omega)
   obtain ⟨t, ht, hp⟩ := trees_of l (a ++ [.bin b c x]) (fun t ht => by
    rcases List.mem_append.1 ht with ht | ht
    ·exact hts t (List.mem_append_left _ (List.mem_append_left _ ht))
    ·rw [List.mem_singleton.1 ht]; exact ⟨hts b (by simp), hts c (by simp), e, h2⟩) (by rw [e] at h4; simp at h4 ⊢; exact (by omega : ((a.length : Int) + 1 + 1 + -1) = (a.length : Int) + 1) ▸ h4)
   exact ⟨t, ht, by rw [← hp, posts_append, posts_append, posts_append, posts_one, posts_one, posts_one]; simp [post]⟩
  ·omega
theorem tree_of {l : List S59} (h : GoodS l) : ∃ t, okT t ∧ l = post t := by
 obtain ⟨t, ht, hp⟩ := trees_of l [] (fun t ht => by simp at ht) (by simpa using h.2.2)
 exact ⟨t, ht, by simpa [posts] using hp⟩
def At (l : List S59) (t : Tr) (i : Nat) : Prop := ∃ p s, l = p ++ (post t ++ s) ∧ p.length = i
theorem At.lt {l : List S59} {t : Tr} {i : Nat} (h : At l t i) : i + (post t).length ≤ l.length := by
 obtain ⟨p, s, rfl, rfl⟩ := h; simp <;> omega
theorem At.un {l : List S59} {a : Tr} {x : S59} {i : Nat} (h : At l (.un a x) i) : At l a i := by
 obtain ⟨p, s, rfl, rfl⟩ := h; exact ⟨p, [x] ++ s, by simp [post], rfl⟩
theorem At.left {l : List S59} {a b : Tr} {x : S59} {i : Nat} (h : At l (.bin a b x) i) : At l a i := by
 obtain ⟨p, s, rfl, rfl⟩ := h; exact ⟨p, post b ++ [x] ++ s, by simp [post], rfl⟩
theorem At.right {l : List S59} {a b : Tr} {x : S59} {i : Nat} (h : At l (.bin a b x) i) : At l b (i + (post a).length) := by
 obtain ⟨p, s, rfl, rfl⟩ := h; exact ⟨p ++ post a, [x] ++ s, by simp [post], by simp⟩
def root : Tr → S59
 | .leaf x => x
 | .un _ x => x
 | .bin _ _ x => x
theorem getD_mid {α : Type} (p m s : List α) (d : α) {j : Nat} (h : j < m.length) : (p ++ (m ++ s)).getD (p.length + j) d = m.getD j d := by
 rw [List.getD_eq_getElem?_getD, List.getElem?_append_right (by omega), List.getElem?_append_left (by omega), List.getD_eq_getElem?_getD]
 congr 2; omega
theorem post_last (t : Tr) (d : S59) : (post t).getD ((post t).length - 1) d = root t := by
 cases t <;> simp [post, root, List.getD_eq_getElem?_getD]
theorem At.root {l : List S59} {t : Tr} {i : Nat} (h : At l t i) (d : S59) : l.getD (i + (post t).length - 1) d = root t := by
 obtain ⟨p, s, rfl, rfl⟩ := h
 have hp := post_pos t
 rw [show p.length + (post t).length - 1 = p.length + ((post t).length - 1) from by omega, getD_mid _ _ _ _ (by omega), post_last]
theorem At.whole (t : Tr) : At (post t) t 0 := ⟨[], [], by simp, rfl⟩
def ixA (c : Int) : Int := Go.Lib.indexByte [112, 113, 114, 48, 49, 33, 88, 40] c.toNat.toUInt8
def ixO (c : Int) : Int := Go.Lib.indexByte [38, 124, 85, 82] c.toNat.toUInt8
def ixC (c : Int) : Int := Go.Lib.indexByte [41] c.toNat.toUInt8
def opOf (c : Int) : Int := if 82 = c then 8 else if 85 = c then 7 else if 124 = c then 6 else if 38 = c then 5 else 0
theorem ixA_nat : ∀ n : Nat, n < 256 → ixA n = if n = 112 then 0 else if n = 113 then 1 else if n = 114 then 2 else if n = 48 then 3 else if n = 49 then 4 else if n = 33 then 5 else if n = 88 then 6 else if n = 40 then 7 else -1 := by decide +kernel
theorem ixO_nat : ∀ n : Nat, n < 256 → (ixO n = -1 ∧ opOf n = 0) ∨ (0 ≤ ixO n ∧ ixO n ≤ 3 ∧ opOf n = 5 + ixO n) := by decide +kernel
theorem ixC_nat : ∀ n : Nat, n < 256 → ixC n = if n = 41 then 0 else -1 := by decide +kernel
theorem gs_post : ∀ (t : Tr) (l : List S59) (c : Int), okT t → 0 ≤ c → gs l (c + 1) → gs (post t ++ l) c
 | .leaf x, l, c, ok, hc, h => by
  rw [post]
  exact ⟨by rw [ok.1]; omega, ok.2, by rw [ok.1]; omega, by rw [ok.1]; exact h⟩
 | .un a x, l, c, ok, hc, h => by
  rw [post, List.append_assoc]
  refine gs_post a _ c ok.1 hc ?_
  have e := ok.2.1
  exact ⟨by rw [e]; omega, ok.2.2, by rw [e]; omega, by rw [e, show c + 1 + (1 - 1) = c + 1 by omega]; exact h⟩
 | .bin a b x, l, c, ok, hc, h => by
  rw [post, List.append_assoc, List.append_assoc]
  refine gs_post a _ c ok.1 hc ?_
  refine gs_post b _ (c + 1) ok.2.1 (by omega) ?_
  have e := ok.2.2.1
  exact ⟨by rw [e]; omega, ok.2.2.2, by rw [e]; omega, by rw [e, show c + 1 + 1 + (1 - 2) = c + 1 by omega]; exact h⟩
theorem post_good {t : Tr} (h : okT t) (hl : (post t).length ≤ 16) : GoodS (post t) := by
 have h1 := post_pos t
 have h2 := gs_post t [] 0 h (by omega) (by show (0 : Int) + 1 = 1; omega)
 rw [List.append_nil] at h2
 exact ⟨h1, hl, h2⟩
abbrev bsA : ByteArray := ⟨#[112, 113, 114, 48, 49, 33, 88, 40]⟩
abbrev bsO : ByteArray := ⟨#[38, 124, 85, 82]⟩
abbrev bsC : ByteArray := ⟨#[41]⟩
section
variable {x : ByteArray}
theorem take_wrong (bs : ByteArray) (a : Int) : Ev (fun k => impl_saidReader_take.f k x a true bs) (-1, x, a, true) :=
 Ev.congr (fun k => by rw [impl_saidReader_take.f, if_pos rfl]) (Ev.step (f := fun _ => some (-1, x, a, true)) (fun k => by simp only [impl_saidReader_take.j0]; rw [if_pos trivial]) (Ev.now _))
theorem take_end (bs : ByteArray) : Ev (fun k => impl_saidReader_take.f k x (x.size : Int) false bs) (-1, x, (x.size : Int), true) :=
 Ev.congr (fun k => by rw [impl_saidReader_take.f, if_neg (by simp)]) (Ev.step (f := fun _ => some (-1, x, (x.size : Int), true)) (fun k => by simp only [impl_saidReader_take.j0]; rw [if_pos (beq_self_eq_true _)]) (Ev.now _))
theorem take_no {bs : ByteArray} {a : Nat} (ha : a < x.size) {i : Int} (hi : Go.Lib.indexByte bs.data.toList (bt x (a : Int)).toNat.toUInt8 = i) (h : i < 0) : Ev (fun k => impl_saidReader_take.f k x (a : Int) false bs) (-1, x, (a : Int), true) := by
 have e : ((a : Int) == (x.size : Int)) = false := by simp; omega
 refine Ev.congr (fun k => by rw [impl_saidReader_take.f, if_neg (by simp), e]) (Ev.step (f := fun _ => some (-1, x, (a : Int), true)) (fun k => ?_) (Ev.now _))
 simp only [impl_saidReader_take.j0, strings_IndexByte.f, Option.bind_some, hi]
 rw [if_neg (by simp), if_pos (by omega), if_pos (by omega), if_pos h]
theorem take_yes {bs : ByteArray} {a : Nat} (ha : a < x.size) (hs : x.size ≤ 1000) {i : Int} (hi : Go.Lib.indexByte bs.data.toList (bt x (a : Int)).toNat.toUInt8 = i) (h : 0 ≤ i) : Ev (fun k => impl_saidReader_take.f k x (a : Int) false bs) (i, x, ((a + 1 : Nat) : Int), false) := by
 have e : ((a : Int) == (x.size : Int)) = false := by simp; omega
 refine Ev.congr (fun k => by rw [impl_saidReader_take.f, if_neg (by simp), e]) (Ev.step (f := fun _ => some (i, x, ((a + 1 : Nat) : Int), false)) (fun k => ?_) (Ev.now _))
 simp only [impl_saidReader_take.j0, strings_IndexByte.f, Option.bind_some, hi]
 rw [if_neg (by simp), if_pos (by omega), if_pos (by omega), if_neg (by omega), wsucc (by omega)]
theorem said_wrong (a : Int) : Ev (fun k => impl_saidReader_said.f k x a true) ([], x, a, true) := by
 refine Ev.step (fun k => by rw [impl_saidReader_said.f]) ?_
 exact Ev.bind (take_wrong bsA a) (ev_pos (by show (-1 : Int) < 0; decide) (Ev.now _))
theorem said_in {a : Nat} (ha : a < x.size) (hs : x.size ≤ 1000) (hc : ixA (bt x (a : Int)) = 7) {f g : List S59} {e1 e2 e3 e4 i j : Int} {w1 w2 w3 w4 : Bool} (h1 : Ev (fun k => impl_saidReader_said.f k x ((a + 1 : Nat) : Int) false) (f, x, e1, w1))
  (h2 : Ev (fun k => impl_saidReader_take.f k x e1 w1 bsO) (i, x, e2, w2)) (h3 : Ev (fun k => impl_saidReader_said.f k x e2 w2) (g, x, e3, w3)) (h4 : Ev (fun k => impl_saidReader_take.f k x e3 w3 bsC) (j, x, e4, w4)) (hl : f.length + g.length ≤ 1000) :
  Ev (fun k => impl_saidReader_said.f k x (a : Int) false) (f ++ (g ++ [⟨wrap64 (5 + i), 0⟩]), x, e4, w4) := by
 refine Ev.step (fun k => by rw [impl_saidReader_said.f]) ?_
 refine Ev.bind (take_yes (bs := bsA) ha hs hc (by omega)) (ev_neg (by omega) (ev_neg (by omega) (ev_neg (by omega) (ev_neg (by omega) ?_))))
 refine Ev.bind h1 (Ev.bind h2 (Ev.bind h3 (Ev.bind h4 ?_)))
 have h5 := concatSaid_ev [f, g, [⟨wrap64 (5 + i), 0⟩]] (by simp; omega) (by simp)
 refine Ev.bind h5 (ev_eq (Ev.now _) ?_)
 simp
theorem op_step {e : Nat} (he : e < x.size) (f : List S59) (o : Int) {j : Nat} (hj : j < 4) {v : Int} (hv : bt bsO (j : Int) = v) {r : List S59 × Int × Bool}
  (h : Ev (fun k => spec_l10Read.l0 k x f (e : Int) (if v = bt x (e : Int) then 5 + (j : Int) else o) (5 + (j : Int) + 1)) r) : Ev (fun k => spec_l10Read.l0 k x f (e : Int) o (5 + (j : Int))) r := by
 have e1 : wrap64 (5 + (j : Int) - 5) = (j : Int) := by rw [wid (by omega) (by omega)]; omega
 have e2 : wrap64 (5 + (j : Int) + 1) = 5 + (j : Int) + 1 := wid (by omega) (by omega)
 by_cases c : v = bt x (e : Int)
 ·rw [if_pos c] at h
  exact Ev.step (fun k => by simp only [spec_l10Read.l0]; rw [if_pos (by omega), e1, if_pos (by omega), if_pos (by omega), if_pos (by omega), if_pos (by omega), hv, if_pos c, e2]) h
 ·rw [if_neg c] at h
  exact Ev.step (fun k => by simp only [spec_l10Read.l0]; rw [if_pos (by omega), e1, if_pos (by omega), if_pos (by omega), if_pos (by omega), if_pos (by omega), hv, if_neg c, e2]) h
theorem op_loop {e : Nat} (he : e < x.size) (f : List S59) {r : List S59 × Int × Bool} (h : Ev (fun k => spec_l10Read.l0 k x f (e : Int) (opOf (bt x (e : Int))) 9) r) : Ev (fun k => spec_l10Read.l0 k x f (e : Int) 0 5) r := by
 refine op_step he f 0 (j := 0) (by omega) (v := 38) (by decide +kernel) ?_
 refine op_step he f _ (j := 1) (by omega) (v := 124) (by decide +kernel) ?_
 refine op_step he f _ (j := 2) (by omega) (v := 85) (by decide +kernel) ?_
 refine op_step he f _ (j := 3) (by omega) (v := 82) (by decide +kernel) ?_
 exact h
theorem read_on {a : Nat} (ha : a < x.size) {c : Int} (hc : bt x (a : Int) = c) (h1 : c ≠ 112) (h2 : c ≠ 113) (h3 : c ≠ 114) (h4 : c ≠ 48) (h5 : c ≠ 49) {r : List S59 × Int × Bool}
  (h : Ev (fun k => if c = 33 then spec_l10Read.j2 k x (a : Int) c c (c == 33) else spec_l10Read.j2 k x (a : Int) c c (c == 88)) r) : Ev (fun k => spec_l10Read.f k x (a : Int)) r := by
 refine Ev.step (fun k => by rw [spec_l10Read.f, if_neg (by omega), if_pos (by omega), if_pos (by omega), hc, if_neg h1, if_neg h2]) ?_
 refine Ev.step (fun k => by rw [spec_l10Read.j0, if_neg (by simpa using h3), if_neg h4]) ?_
 exact Ev.step (fun k => by rw [spec_l10Read.j1, if_neg (by simpa using h5)]) h
def RdOk (x : ByteArray) (n a : Nat) : Prop := ∃ (f g : List S59) (e : Nat) (ok : Bool), a ≤ e ∧ e ≤ x.size ∧ f.length ≤ n + 1 ∧ g.length ≤ n + 1 ∧ (ok = true → f = g ∧ f.length + a ≤ e ∧ ∃ t, okT t ∧ f = post t) ∧
  Ev (fun k => spec_l10Read.f k x (a : Int)) (f, (e : Int), ok) ∧ Ev (fun k => impl_saidReader_said.f k x (a : Int) false) (g, x, (e : Int), !ok)
theorem l0_skip {e : Nat} {f : List S59} : Ev (fun k => spec_l10Read.l0 k x f (e : Int) 0 9) ([], (e : Int), false) := Ev.step (f := fun _ => some ([], (e : Int), false)) (fun k => by simp only [spec_l10Read.l0]; rw [if_neg (by omega)]; rfl) (Ev.now _)
theorem l0_bad {e : Nat} (he : e < 1000) {f f2 : List S59} {o e2 : Int} (ho : o ≠ 0) (h : Ev (fun k => spec_l10Read.f k x ((e + 1 : Nat) : Int)) (f2, e2, false)) : Ev (fun k => spec_l10Read.l0 k x f (e : Int) o 9) ([], e2, false) := by
 refine Ev.step (fun k => by simp only [spec_l10Read.l0]; rw [if_neg (by omega), if_neg ho, wsucc (by omega)]) ?_
 exact Ev.bind h (ev_neg (by simp) (Ev.now _))
theorem l0_end {e : Nat} (he : e < 1000) {f f2 : List S59} {o : Int} (ho : o ≠ 0) (h : Ev (fun k => spec_l10Read.f k x ((e + 1 : Nat) : Int)) (f2, (x.size : Int), true)) : Ev (fun k => spec_l10Read.l0 k x f (e : Int) o 9) ([], (x.size : Int), false) := by
 refine Ev.step (fun k => by simp only [spec_l10Read.l0]; rw [if_neg (by omega), if_neg ho, wsucc (by omega)]) ?_
 exact Ev.bind h (ev_pos rfl (ev_pos rfl (Ev.now _)))
theorem l0_no {e e2 : Nat} (he : e < 1000) {f f2 : List S59} {o : Int} (ho : o ≠ 0) (h : Ev (fun k => spec_l10Read.f k x ((e + 1 : Nat) : Int)) (f2, (e2 : Int), true)) (h2 : e2 < x.size) (h3 : bt x (e2 : Int) ≠ 41) : Ev (fun k => spec_l10Read.l0 k x f (e : Int) o 9) ([], (e2 : Int), false) := by
 refine Ev.step (fun k => by simp only [spec_l10Read.l0]; rw [if_neg (by omega), if_neg ho, wsucc (by omega)]) ?_
 exact Ev.bind h (ev_pos rfl (ev_neg (by show ¬ (e2 : Int) = (x.size : Int); omega) (ev_pos (by show 0 ≤ (e2 : Int); omega) (ev_pos (by show (e2 : Int) < (x.size : Int); omega) (ev_neg h3 (Ev.now _))))))
theorem l0_yes {e e2 : Nat} (he : e < 1000) {f f2 : List S59} (hl : f.length + f2.length ≤ 1000) {o : Int} (ho : o ≠ 0) (h : Ev (fun k => spec_l10Read.f k x ((e + 1 : Nat) : Int)) (f2, (e2 : Int), true)) (h2 : e2 < x.size) (hs : x.size ≤ 1000) (h3 : bt x (e2 : Int) = 41) : Ev (fun k => spec_l10Read.l0 k x f (e : Int) o 9) (f ++ (f2 ++ [⟨o, 0⟩]), ((e2 + 1 : Nat) : Int), true) := by
 refine Ev.step (fun k => by simp only [spec_l10Read.l0]; rw [if_neg (by omega), if_neg ho, wsucc (by omega)]) ?_
 refine Ev.bind h (ev_pos rfl (ev_neg (by show ¬ (e2 : Int) = (x.size : Int); omega) (ev_pos (by show 0 ≤ (e2 : Int); omega) (ev_pos (by show (e2 : Int) < (x.size : Int); omega) (ev_pos h3 (ev_pos (by show f.length + f2.length < 8796093022208; omega) ?_))))))
 refine Ev.bind (Ev.now _) (ev_pos (by show (f ++ f2).length < 8796093022208; rw [List.length_append]; omega) (ev_eq (Ev.now _) ?_))
 show (f ++ f2 ++ [⟨o, 0⟩], wrap64 ((e2 : Int) + 1), true) = _
 rw [wsucc (by omega), List.append_assoc]
theorem read_paren (hs : x.size ≤ 200) (n : Nat) (ih : ∀ m, m < n → ∀ a, a + m = x.size → RdOk x m a) {a : Nat} (ha : a + n = x.size) (hz : a < x.size) (hc : bt x (a : Int) = 40) (hx' : ixA (bt x (a : Int)) = 7) : RdOk x n a := by
 have hw : wrap64 ((a : Int) + 1) = ((a + 1 : Nat) : Int) := wsucc (by omega)
 obtain ⟨f, g, e, ok, h1, h2, h3, h4, h5, h6, h7⟩ := ih (n - 1) (by omega) (a + 1) (by omega)
 have sp : ∀ {r : List S59 × Int × Bool}, Ev (fun k => if ok = true then spec_l10Read.j3 k x f (e : Int) ((e : Int) == (x.size : Int)) else spec_l10Read.j3 k x f (e : Int) true) r → Ev (fun k => spec_l10Read.f k x (a : Int)) r := fun hr => by
  refine read_on hz hc (by omega) (by omega) (by omega) (by omega) (by omega) ?_
  refine ev_neg (by decide) (Ev.step (fun k => by rw [spec_l10Read.j2, if_neg (by decide), if_pos rfl, hw]) ?_)
  exact Ev.bind h6 hr
 have j3t : ∀ q : Nat, Ev (fun k => spec_l10Read.j3 k x f (q : Int) true) ([], (q : Int), false) := fun q => Ev.step (f := fun _ => some ([], (q : Int), false)) (fun k => by rw [spec_l10Read.j3, if_pos rfl]) (Ev.now _)
 have bad : ∀ (g2 : List S59) (q : Nat), e ≤ q → q ≤ x.size → g2.length ≤ n + 1 → Ev (fun k => spec_l10Read.f k x (a : Int)) ([], (q : Int), false) → Ev (fun k => impl_saidReader_said.f k x (a : Int) false) (g2, x, (q : Int), true) → RdOk x n a := fun g2 q q1 q2 q3 q4 q5 =>
  ⟨[], g2, q, false, by omega, q2, by simp, q3, fun h => (Bool.false_ne_true h).elim, q4, q5⟩
 cases ok with
 | false => exact bad _ e (Nat.le_refl _) h2 (by simp; omega) (sp (ev_neg (by simp) (j3t e))) (said_in hz (by omega) hx' h7 (take_wrong _ _) (said_wrong _) (take_wrong _ _) (by simp; omega))
 | true =>
  obtain ⟨q1, q2, t, q3, q4⟩ := h5 rfl
  subst q1
  rcases Nat.eq_or_lt_of_le h2 with he1 | he1
  ·subst he1
   have hb : ((x.size : Int) == (x.size : Int)) = true := beq_self_eq_true _
   rw [hb] at sp
   exact bad _ _ (Nat.le_refl _) h2 (by simp; omega) (sp (ev_pos rfl (j3t x.size))) (said_in hz (by omega) hx' h7 (take_end _) (said_wrong _) (take_wrong _ _) (by simp; omega))
  ·obtain ⟨d, hd⟩ := Int.eq_ofNat_of_zero_le (bt_range x (e : Int)).1
   have hd2 := (bt_range x (e : Int)).2
   rw [hd] at hd2
   have sp2 : ∀ {r : List S59 × Int × Bool}, Ev (fun k => spec_l10Read.l0 k x f (e : Int) (opOf (d : Int)) 9) r → Ev (fun k => spec_l10Read.f k x (a : Int)) r := fun hr => by
    have hb : ((e : Int) == (x.size : Int)) = false := by simp; omega
    rw [hb] at sp
    refine sp (ev_pos rfl ?_)
    refine Ev.step (fun k => by rw [spec_l10Read.j3, if_neg (by simp)]) (op_loop he1 f ?_)
    rw [hd]; exact hr
   rcases ixO_nat d (by omega) with ⟨o1, o2⟩ | ⟨o1, o2, o3⟩
   ·rw [o2] at sp2
    exact bad _ e (Nat.le_refl _) h2 (by simp; omega) (sp2 l0_skip) (said_in hz (by omega) hx' h7 (take_no (bs := bsO) (i := -1) he1 (by rw [hd]; exact o1) (by decide)) (said_wrong _) (take_wrong _ _) (by simp; omega))
   ·have tO := take_yes (bs := bsO) (i := ixO (d : Int)) he1 (by omega) (by rw [hd]; rfl) o1
    obtain ⟨f2, g2, e2, ok2, k1, k2, k3, k4, k5, k6, k7⟩ := ih (x.size - (e + 1)) (by omega) (e + 1) (by omega)
    have o4 : wrap64 (5 + ixO (d : Int)) = opOf (d : Int) := by rw [wid (by omega) (by omega)]; omega
    have o5 : opOf (d : Int) ≠ 0 := by omega
    have he3 : e < 1000 := by omega
    cases ok2 with
    | false => exact bad _ e2 (by omega) k2 (by simp; omega) (sp2 (l0_bad he3 o5 k6)) (said_in hz (by omega) hx' h7 tO k7 (take_wrong _ _) (by omega))
    | true =>
     obtain ⟨p1, p2, t2, p3, p4⟩ := k5 rfl
     subst p1
     rcases Nat.eq_or_lt_of_le k2 with he2 | he2
     ·subst he2
      exact bad _ _ (by omega) (Nat.le_refl _) (by simp; omega) (sp2 (l0_end he3 o5 k6)) (said_in hz (by omega) hx' h7 tO k7 (take_end _) (by omega))
     ·obtain ⟨z, hz3⟩ := Int.eq_ofNat_of_zero_le (bt_range x (e2 : Int)).1
      have hz2 := (bt_range x (e2 : Int)).2
      rw [hz3] at hz2
      have hC := ixC_nat z (by omega)
      by_cases h41 : z = 41
      ·rw [if_pos h41] at hC
       refine ⟨f ++ (f2 ++ [⟨opOf (d : Int), 0⟩]), f ++ (f2 ++ [⟨opOf (d : Int), 0⟩]), e2 + 1, true, by omega, by omega, by simp; omega, by simp; omega, fun _ => ⟨rfl, by simp; omega, .bin t t2 ⟨opOf (d : Int), 0⟩, ⟨q3, p3, ?_, ?_⟩, by rw [q4, p4]; rfl⟩, ?_, ?_⟩
       ·have : opOf (d : Int) = 5 ∨ opOf (d : Int) = 6 ∨ opOf (d : Int) = 7 ∨ opOf (d : Int) = 8 := by omega
        rcases this with q | q | q | q <;> simp [needS, q]
       ·have : opOf (d : Int) = 5 ∨ opOf (d : Int) = 6 ∨ opOf (d : Int) = 7 ∨ opOf (d : Int) = 8 := by omega
        rcases this with q | q | q | q <;> simp [nOk, q]
       ·exact sp2 (l0_yes he3 (by omega) o5 k6 he2 (by omega) (by rw [hz3]; omega))
       ·have := said_in hz (by omega) hx' h7 tO k7 (take_yes (bs := bsC) (i := 0) he2 (by omega) (by rw [hz3]; exact hC) (by decide)) (by omega)
        rw [o4] at this
        exact this
      ·rw [if_neg h41] at hC
       exact bad _ e2 (by omega) k2 (by simp; omega) (sp2 (l0_no he3 o5 k6 he2 (by rw [hz3]; omega))) (said_in hz (by omega) hx' h7 tO k7 (take_no (bs := bsC) (i := -1) he2 (by rw [hz3]; exact hC) (by decide)) (by omega))
theorem read_both (hs : x.size ≤ 200) (n : Nat) : ∀ (a : Nat), a + n = x.size → RdOk x n a := by
 induction n using Nat.strongRecOn with
 | _ n ih =>
 intro a ha
 rcases Nat.eq_or_lt_of_le (show a ≤ x.size by omega) with hz | hz
 ·subst hz
  refine ⟨[], [], x.size, false, Nat.le_refl _, Nat.le_refl _, by simp, by simp, fun h => (Bool.false_ne_true h).elim, Ev.step (f := fun _ => some ([], (x.size : Int), false)) (fun k => by rw [spec_l10Read.f, if_pos rfl]) (Ev.now _), ?_⟩
  refine Ev.step (fun k => by rw [impl_saidReader_said.f]) ?_
  exact Ev.bind (take_end bsA) (ev_pos (by show (-1 : Int) < 0; decide) (Ev.now _))
 obtain ⟨c, hc⟩ := Int.eq_ofNat_of_zero_le (bt_range x (a : Int)).1
 have hc2 := (bt_range x (a : Int)).2
 rw [hc] at hc2
 have hA := ixA_nat c (by omega)
 have hw : wrap64 ((a : Int) + 1) = ((a + 1 : Nat) : Int) := wsucc (by omega)
 have tk : ∀ i : Int, ixA c = i → 0 ≤ i → Ev (fun k => impl_saidReader_take.f k x (a : Int) false bsA) (i, x, ((a + 1 : Nat) : Int), false) := fun i h h0 => take_yes (bs := bsA) hz (by omega) (by rw [hc]; exact h) h0
 have st : ∀ {r : List S59 × ByteArray × Int × Bool} {g : Nat → Option (List S59 × ByteArray × Int × Bool)}, (∀ k, impl_saidReader_said.f (k + 1) x (a : Int) false = g k) → Ev g r → Ev (fun k => impl_saidReader_said.f k x (a : Int) false) r := fun h h' => Ev.step h h'
 have leafA : ∀ i : Int, 0 ≤ i → i ≤ 2 → okT (.leaf ⟨1, i⟩) := fun i h0 h2 => ⟨by simp [needS], by show (if (1 : Int) = 1 then 0 ≤ i ∧ i ≤ 2 else _); rw [if_pos rfl]; exact ⟨h0, h2⟩⟩
 have leafY : ∀ i : Int, 0 ≤ i → i ≤ 1 → okT (.leaf ⟨2, i⟩) := fun i h0 h2 => ⟨by simp [needS], by show (if (2 : Int) = 1 then _ else if (2 : Int) = 2 then 0 ≤ i ∧ i ≤ 1 else _); rw [if_neg (by decide), if_pos rfl]; exact ⟨h0, h2⟩⟩
 have atom : ∀ i : Nat, i ≤ 2 → c = 112 + i → ixA c = (i : Int) → _ := fun i hi he hx => (show RdOk x n a from by
   refine ⟨[⟨1, (i : Int)⟩], [⟨1, (i : Int)⟩], a + 1, true, by omega, by omega, by simp, by simp, fun _ => ⟨rfl, by simp; omega, .leaf ⟨1, (i : Int)⟩, leafA _ (by omega) (by omega), rfl⟩, ?_, ?_⟩
   ·have e1 : ((c : Int) - 112) % 256 = (i : Int) := by omega
    have hf : Ev (fun k => spec_l10Read.j0 k x (a : Int) (c : Int) (c : Int) true) ([⟨1, (i : Int)⟩], ((a + 1 : Nat) : Int), true) := Ev.step (f := fun _ => some ([⟨1, (i : Int)⟩], ((a + 1 : Nat) : Int), true)) (fun k => by rw [spec_l10Read.j0, if_pos rfl, e1, hw]) (Ev.now _)
    by_cases c1 : (c : Int) = 112
    ·exact Ev.step (fun k => by rw [spec_l10Read.f, if_neg (by omega), if_pos (by omega), if_pos (by omega), hc, if_pos c1, show ((c : Int) == 112) = true from beq_iff_eq.2 c1]) hf
    ·by_cases c2 : (c : Int) = 113
     ·exact Ev.step (fun k => by rw [spec_l10Read.f, if_neg (by omega), if_pos (by omega), if_pos (by omega), hc, if_neg c1, if_pos c2, show ((c : Int) == 113) = true from beq_iff_eq.2 c2]) hf
     ·exact Ev.step (fun k => by rw [spec_l10Read.f, if_neg (by omega), if_pos (by omega), if_pos (by omega), hc, if_neg c1, if_neg c2, show ((c : Int) == 114) = true from beq_iff_eq.2 (by omega)]) hf
   ·refine st (fun k => by rw [impl_saidReader_said.f]) ?_
    exact Ev.bind (tk _ hx (by omega)) (ev_neg (by omega) (ev_pos (by omega) (Ev.now _))))
 have yes : ∀ i : Nat, i ≤ 1 → c = 48 + i → ixA c = ((3 + i : Nat) : Int) → _ := fun i hi he hx => (show RdOk x n a from by
   refine ⟨[⟨2, (i : Int)⟩], [⟨2, (i : Int)⟩], a + 1, true, by omega, by omega, by simp, by simp, fun _ => ⟨rfl, by simp; omega, .leaf ⟨2, (i : Int)⟩, leafY _ (by omega) (by omega), rfl⟩, ?_, ?_⟩
   ·have e1 : ((c : Int) - 48) % 256 = (i : Int) := by omega
    have hf : Ev (fun k => spec_l10Read.j1 k x (a : Int) (c : Int) (c : Int) true) ([⟨2, (i : Int)⟩], ((a + 1 : Nat) : Int), true) := Ev.step (f := fun _ => some ([⟨2, (i : Int)⟩], ((a + 1 : Nat) : Int), true)) (fun k => by rw [spec_l10Read.j1, if_pos rfl, e1, hw]) (Ev.now _)
    refine Ev.step (fun k => by rw [spec_l10Read.f, if_neg (by omega), if_pos (by omega), if_pos (by omega), hc, if_neg (by omega), if_neg (by omega)]) ?_
    by_cases c1 : (c : Int) = 48
    ·exact Ev.step (fun k => by rw [spec_l10Read.j0, if_neg (by simp; omega), if_pos c1, show ((c : Int) == 48) = true from beq_iff_eq.2 c1]) hf
    ·exact Ev.step (fun k => by rw [spec_l10Read.j0, if_neg (by simp; omega), if_neg c1, show ((c : Int) == 49) = true from beq_iff_eq.2 (by omega)]) hf
   ·refine st (fun k => by rw [impl_saidReader_said.f]) ?_
    refine Ev.bind (tk _ hx (by omega)) (ev_neg (by omega) (ev_neg (by omega) (ev_pos (by omega) (ev_eq (Ev.now _) ?_))))
    rw [show wrap64 (((3 + i : Nat) : Int) - 3) = (i : Int) by rw [wid (by omega) (by omega)]; omega]; rfl)
 have unary : ∀ i : Nat, i ≤ 1 → (c = 33 ∧ i = 0 ∨ c = 88 ∧ i = 1) → ixA c = ((5 + i : Nat) : Int) → _ := fun i hi he hx => (show RdOk x n a from by
   obtain ⟨f, g, e, ok, h1, h2, h3, h4, h5, h6, h7⟩ := ih (n - 1) (by omega) (a + 1) (by omega)
   refine ⟨f ++ [⟨3 + (i : Int), 0⟩], g ++ [⟨3 + (i : Int), 0⟩], e, ok, by omega, h2, by simp; omega, by simp; omega, fun h => ?_, ?_, ?_⟩
   ·obtain ⟨q1, q2, t, q3, q4⟩ := h5 h
    subst q1
    refine ⟨rfl, by simp; omega, .un t ⟨3 + (i : Int), 0⟩, ⟨q3, ?_, ?_⟩, by rw [q4]; rfl⟩
    ·rcases he with ⟨_, rfl⟩ | ⟨_, rfl⟩ <;> simp [needS]
    ·rcases he with ⟨_, rfl⟩ | ⟨_, rfl⟩ <;> simp [nOk]
   ·refine read_on hz hc (by omega) (by omega) (by omega) (by omega) (by omega) ?_
    rcases he with ⟨rfl, rfl⟩ | ⟨rfl, rfl⟩
    ·refine ev_pos rfl (Ev.step (fun k => by rw [spec_l10Read.j2, if_pos (by decide), hw]) ?_)
     exact Ev.bind h6 (ev_neg (by decide) (ev_pos (by show f.length < 8796093022208; omega) (Ev.now _)))
    ·refine ev_neg (by decide) (Ev.step (fun k => by rw [spec_l10Read.j2, if_pos (by decide), hw]) ?_)
     exact Ev.bind h6 (ev_pos rfl (ev_pos (by show f.length < 8796093022208; omega) (Ev.now _)))
   ·refine st (fun k => by rw [impl_saidReader_said.f]) ?_
    refine Ev.bind (tk _ hx (by omega)) (ev_neg (by omega) (ev_neg (by omega) (ev_neg (by omega) (ev_pos (by omega) ?_))))
    refine Ev.bind h7 (ev_pos (by show g.length < 8796093022208; omega) (ev_eq (Ev.now _) ?_))
    rw [show wrap64 (wrap64 (3 + ((5 + i : Nat) : Int)) - 5) = 3 + (i : Int) by rw [wid (x := 3 + ((5 + i : Nat) : Int)) (by omega) (by omega), wid (by omega) (by omega)]; omega])
 by_cases c1 : c = 112
 ·exact atom 0 (by omega) c1 (by rw [hA, if_pos c1]; rfl)
 by_cases c2 : c = 113
 ·exact atom 1 (by omega) c2 (by rw [hA, if_neg c1, if_pos c2]; rfl)
 by_cases c3 : c = 114
 ·exact atom 2 (by omega) c3 (by rw [hA, if_neg c1, if_neg c2, if_pos c3]; rfl)
 by_cases c4 : c = 48
 ·exact yes 0 (by omega) c4 (by rw [hA, if_neg c1, if_neg c2, if_neg c3, if_pos c4]; rfl)
 by_cases c5 : c = 49
 ·exact yes 1 (by omega) c5 (by rw [hA, if_neg c1, if_neg c2, if_neg c3, if_neg c4, if_pos c5]; rfl)
 by_cases c6 : c = 33
 ·exact unary 0 (by omega) (.inl ⟨c6, rfl⟩) (by rw [hA, if_neg c1, if_neg c2, if_neg c3, if_neg c4, if_neg c5, if_pos c6]; rfl)
 by_cases c7 : c = 88
 ·exact unary 1 (by omega) (.inr ⟨c7, rfl⟩) (by rw [hA, if_neg c1, if_neg c2, if_neg c3, if_neg c4, if_neg c5, if_neg c6, if_pos c7]; rfl)
 by_cases c8 : c = 40
 ·exact read_paren hs n ih ha hz (by rw [hc, c8]; rfl) (by rw [hc, hA, if_neg c1, if_neg c2, if_neg c3, if_neg c4, if_neg c5, if_neg c6, if_neg c7, if_pos c8])
 ·rw [if_neg c1, if_neg c2, if_neg c3, if_neg c4, if_neg c5, if_neg c6, if_neg c7, if_neg c8] at hA
  refine ⟨[], [], a, false, Nat.le_refl _, by omega, by simp, by simp, fun h => (Bool.false_ne_true h).elim, ?_, ?_⟩
  ·refine read_on hz hc (by omega) (by omega) (by omega) (by omega) (by omega) (ev_neg (by omega) ?_)
   exact Ev.step (f := fun _ => some ([], (a : Int), false)) (fun k => by rw [spec_l10Read.j2, if_neg (by simp; omega), if_neg (by omega)]) (Ev.now _)
  ·refine st (fun k => by rw [impl_saidReader_said.f]) ?_
   exact Ev.bind (take_no (bs := bsA) (i := -1) hz (by rw [hc]; exact hA) (by decide)) (ev_pos (by show (-1 : Int) < 0; decide) (Ev.now _))
end
theorem ReadSaid_both (x : ByteArray) : ∃ r : List S59 × Int × Bool, r.1.length ≤ 16 ∧ Ev (fun k => spec_ReadSaid.f k x) r ∧ Ev (fun k => impl_ReadSaid.f k x) r := by
 by_cases hs : (x.size : Int) > 200
 ·exact ⟨([], 0, false), by simp, ev_pos hs (Ev.now _), ev_pos hs (Ev.now _)⟩
 obtain ⟨f, g, e, ok, h1, h2, h3, h4, h5, h6, h7⟩ := read_both (x := x) (by omega) x.size 0 (Nat.zero_add _)
 have sp : ∀ {r : List S59 × Int × Bool}, Ev (fun k => if ok = true then spec_ReadSaid.j0 k f (e : Int) (decide ((e : Int) < (x.size : Int))) else spec_ReadSaid.j0 k f (e : Int) true) r → Ev (fun k => spec_ReadSaid.f k x) r := fun hr =>
  ev_neg hs (Ev.bind h6 hr)
 have im : ∀ {r : List S59 × Int × Bool}, Ev (fun k => if (!ok) = true then impl_ReadSaid.j0 k x g true x (e : Int) (!ok) else impl_ReadSaid.j0 k x g (decide ((e : Int) < (x.size : Int))) x (e : Int) (!ok)) r → Ev (fun k => impl_ReadSaid.f k x) r := fun hr =>
  ev_neg hs (Ev.bind h7 hr)
 have s1 : Ev (fun k => spec_ReadSaid.j0 k f (e : Int) true) ([], (e : Int), false) := Ev.step (f := fun _ => some ([], (e : Int), false)) (fun k => by rw [spec_ReadSaid.j0, if_pos rfl]) (Ev.now _)
 have i1 : ∀ b, Ev (fun k => impl_ReadSaid.j0 k x g true x (e : Int) b) ([], (e : Int), false) := fun b => Ev.step (f := fun _ => some ([], (e : Int), false)) (fun k => by rw [impl_ReadSaid.j0, if_pos rfl]) (Ev.now _)
 cases ok with
 | false => exact ⟨([], (e : Int), false), by simp, sp (ev_neg (by simp) s1), im (ev_pos rfl (i1 _))⟩
 | true =>
  obtain ⟨q1, q2, t, q3, q4⟩ := h5 rfl
  subst q1
  by_cases he : (e : Int) < (x.size : Int)
  ·exact ⟨([], (e : Int), false), by simp, sp (ev_pos rfl (by rw [decide_eq_true he]; exact s1)), im (ev_neg (by simp) (by rw [decide_eq_true he]; exact i1 _))⟩
  ·obtain rfl : e = x.size := by omega
   have hl : f.length ≤ 9223372036854775807 := by omega
   have hT := spec_GoodSaid_tells f hl
   by_cases h16 : f.length ≤ 16
   ·have hg : GoodS f := by rw [q4]; exact post_good q3 (by rw [← q4]; exact h16)
    refine ⟨(f, (x.size : Int), true), h16, sp (ev_pos rfl ?_), im (ev_neg (by simp) ?_)⟩
    ·rw [decide_eq_false he]
     refine Ev.step (fun k => by rw [spec_ReadSaid.j0, if_neg (by simp)]) ?_
     exact Ev.bind (tells_ev hT hg) (ev_pos rfl (Ev.now _))
    ·rw [decide_eq_false he]
     exact Ev.step (f := fun _ => some (f, (x.size : Int), true)) (fun k => by rw [impl_ReadSaid.j0, if_neg (by simp), if_neg (by omega)]) (Ev.now _)
   ·refine ⟨([], 0, false), by simp, sp (ev_pos rfl ?_), im (ev_neg (by simp) ?_)⟩
    ·rw [decide_eq_false he]
     refine Ev.step (fun k => by rw [spec_ReadSaid.j0, if_neg (by simp)]) ?_
     exact Ev.bind (tells_ev_not hT (fun g => h16 g.2.1)) (ev_neg (by simp) (Ev.now _))
    ·rw [decide_eq_false he]
     exact Ev.step (f := fun _ => some ([], 0, false)) (fun k => by rw [impl_ReadSaid.j0, if_neg (by simp), if_pos (by omega)]) (Ev.now _)

theorem FnExactReadSaid : ∀ (a0 : ByteArray), (a0.size ≤ maxLen) → ∃ k, laws_FnExactReadSaid.f k a0 = some true := by
  intro x hx
  refine Ev.rounds ?_
  by_cases h : (x.size : Int) > 1048576
  · exact ev_pos h (Ev.now _)
  refine ev_neg h ?_
  obtain ⟨⟨b, n, ok⟩, hlen, hb, hb'⟩ := ReadSaid_both x
  have hlen : b.length ≤ 16 := hlen
  have he := eqSaidS_ev b (by omega)
  have hk := markSaidS_ev b 1 (by omega) (by omega) (by omega)
  have hh := heldSaidS_ev b.length 1 (by omega) (by omega) (by omega)
  refine Ev.bind hb (Ev.bind hb' (Ev.bind he (ev_pos rfl (ev_pos rfl ?_))))
  refine Ev.step (fun k => by simp only [laws_FnExactReadSaid.j0]; rw [if_neg (by simp)]) ?_
  refine Ev.bind hk (Ev.bind hh (ev_neg (by omega) (ev_pos rfl ?_)))
  refine Ev.bind hb' (Ev.bind he (ev_pos rfl (ev_pos rfl ?_)))
  refine Ev.step (fun k => by simp only [laws_FnExactReadSaid.j1]; rw [if_neg (by simp)]) ?_
  exact Ev.bind hh (ev_neg (by omega) (ev_pos rfl (Ev.now _)))

end Go.Proofs.Ytaacldndbjmekaa.Pure
