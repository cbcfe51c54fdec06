/- The pure statement of the law FnExactHoldsAt: what the printed functions compute makes the law true, for every input. No condition. -/
import Derived.Test.YtgcglmkkfkjhhaaOpen
import Derived.Test.YtgcglmkkfkjhhaaAid
import Derived.Test.YtgcglmkkfkjhhaaMFnExactHoldsAt6
set_option linter.unusedVariables false
set_option linter.unusedSimpArgs false
namespace Go.Proofs.Ytgcglmkkfkjhhaa.Pure
open Go.RowKit Go.Proofs.YtgcglmkkfkjhhaaW.PrintWords Go.Proofs.Ytgcglmkkfkjhhaa.P Go.Proofs.Ytgcglmkkfkjhhaa.Hof Go.Proofs.Ytgcglmkkfkjhhaa.Open Go.Proofs.Ytgcglmkkfkjhhaa.Aid
-- LEMMAS
theorem szSaidS_eq (l : List S45) (hl : l.length ≤ 9223372036854775807) : laws_szSaidS.f l 1048576 = some (if l.length ≤ 1048576 then 1048576 - (l.length : Int) else -1) := by
 have e : wrap64 (1048576 - (l.length : Int)) = 1048576 - l.length := wid (by omega) (by omega)
 simp only [laws_szSaidS.f]
 rw [e]
 by_cases h : l.length ≤ 1048576
 ·rw [if_neg (by omega), if_pos h]
 ·rw [if_pos (by omega), if_neg h]
theorem szSaidS_eq2 (l : List S45) (n : Int) (hl : l.length ≤ 9223372036854775807) (h0 : 0 ≤ n) (h1 : n ≤ 1048576) : laws_szSaidS.f l n = some (if (l.length : Int) ≤ n then n - (l.length : Int) else -1) := by
 have e : wrap64 (n - (l.length : Int)) = n - l.length := wid (by omega) (by omega)
 simp only [laws_szSaidS.f]
 rw [e]
 by_cases h : (l.length : Int) ≤ n
 ·rw [if_neg (by omega), if_pos h]
 ·rw [if_pos (by omega), if_neg h]
theorem szIntS_eq (l : List Int) (a : Int) (ha : 0 ≤ a ∧ a ≤ 1048576) (hl : l.length ≤ 9223372036854775807) : laws_szIntS.f l a = some (if (l.length : Int) ≤ a then a - l.length else -1) := by
 have e : wrap64 (a - (l.length : Int)) = a - l.length := wid (by omega) (by omega)
 simp only [laws_szIntS.f]
 rw [e]
 by_cases h : (l.length : Int) ≤ a
 ·rw [if_neg (by omega), if_pos h]
 ·rw [if_pos (by omega), if_neg h]
theorem szLasso_eq (l m : List Int) (a : Int) (ha : 0 ≤ a ∧ a ≤ 1048576) (hl : l.length ≤ 9223372036854775807) (hm : m.length ≤ 9223372036854775807) :
  ∃ t, laws_szLasso.f l m a = some t ∧ (0 ≤ t → t ≤ a ∧ (l.length : Int) ≤ a ∧ (m.length : Int) ≤ a) := by
 simp only [laws_szLasso.f]
 rw [szIntS_eq l a ha hl]
 simp only [Option.bind_some]
 by_cases h : (l.length : Int) ≤ a
 ·rw [if_pos h, if_neg (by omega), szIntS_eq m _ (by omega) hm]
  simp only [Option.bind_some]
  by_cases h2 : (m.length : Int) ≤ a - l.length
  ·rw [if_pos h2, if_neg (by omega)]; exact ⟨_, rfl, fun _ => by omega⟩
  ·rw [if_neg h2, if_pos (by omega)]; exact ⟨-1, rfl, fun h => by omega⟩
 ·rw [if_neg h, if_pos (by omega)]; exact ⟨-1, rfl, fun h => by omega⟩
theorem l1In_eq (n lo hi : Int) : spec_l1In.f n lo hi = some (decide (lo ≤ n ∧ n ≤ hi)) := by
 simp only [spec_l1In.f]
 by_cases h : n ≥ lo
 ·rw [if_pos h]; congr 1; simp; intro _; exact h
 ·rw [if_neg h]; congr 1; simp; intro h'; omega
theorem l1In_tells (n lo hi : Int) : Tells (fun _ => spec_l1In.f n lo hi) (lo ≤ n ∧ n ≤ hi) := by
 simp only [l1In_eq]; exact tells_some (by simp)
def needS (op : Int) : Int := if op = 1 ∨ op = 2 then 0 else if op = 3 ∨ op = 4 then 1 else if op = 5 ∨ op = 6 ∨ op = 7 ∨ op = 8 then 2 else -1
def nOk (x : S43) : Prop := if x.f0 = 1 then 0 ≤ x.f1 ∧ x.f1 ≤ 2 else if x.f0 = 2 then 0 ≤ x.f1 ∧ x.f1 ≤ 1 else x.f1 = 0
def gs : List S43 → Int → Prop
 | [], c => c = 1
 | x :: t, c => 0 ≤ needS x.f0 ∧ nOk x ∧ needS x.f0 ≤ c ∧ gs t (c + (1 - needS x.f0))
def GoodS (l : List S43) : Prop := 1 ≤ l.length ∧ l.length ≤ 16 ∧ gs l 0
theorem need_cases (op : Int) : (needS op = 0 ∧ (op = 1 ∨ op = 2)) ∨ (needS op = 1 ∧ (op = 3 ∨ op = 4)) ∨ (needS op = 2 ∧ (op = 5 ∨ op = 6 ∨ op = 7 ∨ op = 8)) ∨ (needS op = -1 ∧ op ≠ 1 ∧ op ≠ 2 ∧ op ≠ 3 ∧ op ≠ 4 ∧ op ≠ 5 ∧ op ≠ 6 ∧ op ≠ 7 ∧ op ≠ 8) := by
 unfold needS
 by_cases h1 : op = 1 ∨ op = 2
 ·rw [if_pos h1]; exact .inl ⟨rfl, h1⟩
 rw [if_neg h1]
 by_cases h2 : op = 3 ∨ op = 4
 ·rw [if_pos h2]; exact .inr (.inl ⟨rfl, h2⟩)
 rw [if_neg h2]
 by_cases h3 : op = 5 ∨ op = 6 ∨ op = 7 ∨ op = 8
 ·rw [if_pos h3]; exact .inr (.inr (.inl ⟨rfl, h3⟩))
 rw [if_neg h3]
 exact .inr (.inr (.inr ⟨rfl, by omega, by omega, by omega, by omega, by omega, by omega, by omega, by omega⟩))
theorem need_le (op : Int) : -1 ≤ needS op ∧ needS op ≤ 2 := by rcases need_cases op with ⟨h, _⟩ | ⟨h, _⟩ | ⟨h, _⟩ | ⟨h, _⟩ <;> omega
theorem l10Need_ev (op : Int) : Ev (fun k => spec_l10Need.f k op) (needS op) := by
 refine ev_from 2 (fun m => ?_)
 simp only [spec_l10Need.f, spec_l10Need.j0, spec_l10Need.j1]
 rcases need_cases op with ⟨e, h⟩ | ⟨e, h⟩ | ⟨e, h⟩ | ⟨e, h⟩ <;> rw [e]
 ·rcases h with rfl | rfl <;> simp
 ·rcases h with rfl | rfl <;> simp
 ·rcases h with rfl | rfl | rfl | rfl <;> simp
 ·simp [h]
theorem l10N_tells (x : S43) : Tells (fun _ => spec_l10N.f x.f0 x.f1) (nOk x) := by
 simp only [spec_l10N.f, nOk]
 by_cases h1 : x.f0 = 1
 ·simp only [if_pos h1]
  exact tells_ask (l1In_tells _ _ _) (fun h => tells_yes h) (fun h => tells_no h)
 simp only [if_neg h1]
 by_cases h2 : x.f0 = 2
 ·simp only [if_pos h2]
  exact tells_ask (l1In_tells _ _ _) (fun h => tells_yes h) (fun h => tells_no h)
 simp only [if_neg h2]
 exact tells_some (by simp)
theorem spec_GoodSaid_l0 (l : List S43) (hl : l.length ≤ 16) (d : Nat) : ∀ (j : Nat) (c : Int), 0 ≤ c → c ≤ j → j + d = l.length →
  Tells (fun k => spec_GoodSaid.l0 k c l (l.length : Int) (j : Int)) (gs (l.drop j) c) := by
 induction d with
 | zero =>
  intro j c h0 h1 hd
  refine tells_step (f := fun _ => some (c == 1)) (fun k => by simp only [spec_GoodSaid.l0]; rw [if_neg (by omega)]) (tells_some ?_)
  rw [List.drop_of_length_le (by omega)]; simp [gs]
 | succ d ih =>
  intro j c h0 h1 hd
  have hj : j < l.length := by omega
  have er : rd_T43 l (j : Int) = l.getD j z43 := by simp [rd_T43]
  refine tells_step (fun k => by simp only [spec_GoodSaid.l0]; rw [if_pos (by omega), if_pos (by omega), if_pos (by omega), wsucc (by omega), er]) ?_
  rw [drop_cons hj z43]
  generalize l.getD j z43 = x
  have hn := need_le x.f0
  refine tells_bind (l10Need_ev x.f0) (tells_if (fun h => tells_no (fun g => by have := g.1; omega)) (fun h => ?_))
  refine tells_ask (l10N_tells x) (fun hx => tells_pos rfl ?_) (fun hx => tells_neg (by simp) (tells_no (fun g => hx g.2.1)))
  refine tells_if (fun h2 => tells_no (fun g => by have := g.2.2.1; omega)) (fun h2 => ?_)
  rw [wid (x := 1 - needS x.f0) (by omega) (by omega), wid (by omega) (by omega)]
  exact tells_iff (ih (j + 1) _ (by omega) (by omega) (by omega)) ⟨fun g => ⟨by omega, hx, by omega, g⟩, fun g => g.2.2.2⟩
theorem spec_GoodSaid_tells (l : List S43) (hl : l.length ≤ 9223372036854775807) : Tells (fun k => spec_GoodSaid.f k l) (GoodS l) := by
 refine tells_ask (l1In_tells _ _ _) (fun h => tells_pos rfl ?_) (fun h => tells_neg (by simp) (tells_no (fun g => h ⟨by have := g.1; omega, by have := g.2.1; omega⟩)))
 exact tells_iff (spec_GoodSaid_l0 l (by omega) l.length 0 0 (by omega) (by omega) (by omega)) ⟨fun g => ⟨by omega, by omega, by simpa using g⟩, fun g => by simpa using g.2.2⟩
theorem l1All_l0 (l : List Int) (lo hi : Int) (hl : l.length ≤ 9223372036854775807) (d : Nat) : ∀ (j : Nat), j + d = l.length →
  Tells (fun k => spec_l1All.l0 k lo hi l (l.length : Int) (j : Int)) (∀ x ∈ l.drop j, lo ≤ x ∧ x ≤ hi) := by
 induction d with
 | zero => exact fun j hd => tells_step (f := fun _ => some true) (fun k => by simp only [spec_l1All.l0]; rw [if_neg (by omega)]) (tells_yes (by rw [List.drop_of_length_le (by omega)]; simp))
 | succ d ih =>
  intro j hd
  have hj : j < l.length := by omega
  refine tells_step (fun k => by simp only [spec_l1All.l0]; rw [if_pos (by omega), if_pos (by omega), if_pos (by omega), wsucc (by omega), rd_nat]) ?_
  rw [drop_cons hj 0]
  refine tells_ask (l1In_tells _ lo hi) (fun hin => tells_pos rfl ?_) (fun hin => tells_neg (by simp) (tells_no (fun h => hin (h _ (by simp)))))
  exact tells_iff (ih (j + 1) (by omega)) ⟨fun h x hx => by
   rcases List.mem_cons.1 hx with rfl | hx
   ·exact hin
   ·exact h x hx, fun h x hx => h x (by simp [hx])⟩
theorem l1All_tells (l : List Int) (lo hi : Int) (hl : l.length ≤ 9223372036854775807) : Tells (fun k => spec_l1All.f k l lo hi) (∀ x ∈ l, lo ≤ x ∧ x ≤ hi) := by
 have := l1All_l0 l lo hi hl l.length 0 (by omega)
 rwa [List.drop_zero] at this
def Letters (l : List Int) : Prop := ∀ x ∈ l, 0 ≤ x ∧ x ≤ 7
def GL (s l : List Int) : Prop := s.length ≤ 24 ∧ 1 ≤ l.length ∧ l.length ≤ 24 ∧ Letters s ∧ Letters l
theorem spec_GoodLasso_tells (s l : List Int) (hs : s.length ≤ 9223372036854775807) (hl : l.length ≤ 9223372036854775807) : Tells (fun k => spec_GoodLasso.f k s l) (GL s l) := by
 refine tells_if (fun h => ?_) (fun h => tells_no (fun g => by have := g.1; omega))
 refine tells_ask (l1In_tells _ _ _) (fun h2 => tells_pos rfl ?_) (fun h2 => tells_neg (by simp) (tells_no (fun g => h2 ⟨by have := g.2.1; omega, by have := g.2.2.1; omega⟩)))
 refine tells_ask (l1All_tells s 0 7 hs) (fun h3 => tells_pos rfl ?_) (fun h3 => tells_neg (by simp) (tells_no (fun g => h3 g.2.2.2.1)))
 exact tells_ask (l1All_tells l 0 7 hl) (fun h4 => tells_yes ⟨by omega, by omega, by omega, h3, h4⟩) (fun h4 => tells_no (fun g => h4 g.2.2.2.2))
inductive Tr where
 | leaf (x : S43) : Tr
 | un (a : Tr) (x : S43) : Tr
 | bin (a b : Tr) (x : S43) : Tr
def post : Tr → List S43
 | .leaf x => [x]
 | .un a x => post a ++ [x]
 | .bin a b x => post a ++ (post b ++ [x])
def okT : Tr → Prop
 | .leaf x => needS x.f0 = 0 ∧ nOk x
 | .un a x => okT a ∧ needS x.f0 = 1 ∧ nOk x
 | .bin a b x => okT a ∧ okT b ∧ needS x.f0 = 2 ∧ nOk x
def posts (ts : List Tr) : List S43 := (ts.map post).flatten
theorem posts_append (a b : List Tr) : posts (a ++ b) = posts a ++ posts b := by simp [posts]
theorem posts_one (a : Tr) : posts [a] = post a := by simp [posts]
theorem posts_cons (a : Tr) (b : List Tr) : posts (a :: b) = post a ++ posts b := by simp [posts]
theorem post_pos (t : Tr) : 0 < (post t).length := by cases t <;> simp [post] <;> omega
theorem last_split {ts : List Tr} (h : 0 < ts.length) : ∃ a b, ts = a ++ [b] := by
 refine ⟨ts.dropLast, ts.getLast (by intro e; simp [e] at h), ?_⟩
 rw [List.dropLast_concat_getLast]
theorem trees_of : ∀ (l : List S43) (ts : List Tr), (∀ t ∈ ts, okT t) → gs l (ts.length : Int) → ∃ t, okT t ∧ posts ts ++ l = post t
 | [], ts, hts, h => by
  have h1 : ts.length = 1 := by have h2 : (ts.length : Int) = 1 := h; omega
  obtain ⟨t, rfl⟩ := List.length_eq_one_iff.1 h1
  exact ⟨t, hts t (by simp), by simp [posts]⟩
 | x :: l, ts, hts, h => by
  obtain ⟨h1, h2, h3, h4⟩ := h
  rcases need_cases x.f0 with ⟨e, _⟩ | ⟨e, _⟩ | ⟨e, _⟩ | ⟨e, _⟩
  ·obtain ⟨t, ht, hp⟩ := trees_of l (ts ++ [.leaf x]) (fun t ht => by
    rcases List.mem_append.1 ht with ht | ht
    ·exact hts t ht
    ·rw [List.mem_singleton.1 ht]; exact ⟨e, h2⟩) (by rw [e] at h4; simpa using h4)
   exact ⟨t, ht, by rw [← hp, posts_append, posts_one]; simp [post]⟩
  ·obtain ⟨a, b, rfl⟩ := last_split (ts := ts) (by omega)
   obtain ⟨t, ht, hp⟩ := trees_of l (a ++ [.un b x]) (fun t ht => by
    rcases List.mem_append.1 ht with ht | ht
    ·exact hts t (List.mem_append_left _ ht)
    ·rw [List.mem_singleton.1 ht]; exact ⟨hts b (by simp), e, h2⟩) (by rw [e] at h4; simpa using h4)
   exact ⟨t, ht, by rw [← hp, posts_append, posts_append, posts_one, posts_one]; simp [post]⟩
  ·obtain ⟨a0, c, rfl⟩ := last_split (ts := ts) (by omega)
   obtain ⟨a, b, rfl⟩ := last_split (ts := a0) (by simp at h3; omega)
   obtain ⟨t, ht, hp⟩ := trees_of l (a ++ [.bin b c x]) (fun t ht => by
    rcases List.mem_append.1 ht with ht | ht
    ·exact hts t (List.mem_append_left _ (List.mem_append_left _ ht))
    ·rw [List.mem_singleton.1 ht]; exact ⟨hts b (by simp), hts c (by simp), e, h2⟩) (by rw [e] at h4; simp at h4 ⊢; exact (by omega : ((a.length : Int) + 1 + 1 + -1) = (a.length : Int) + 1) ▸ h4)
   exact ⟨t, ht, by rw [← hp, posts_append, posts_append, posts_append, posts_one, posts_one, posts_one]; simp [post]⟩
  ·omega
theorem tree_of {l : List S43} (h : GoodS l) : ∃ t, okT t ∧ l = post t := by
 obtain ⟨t, ht, hp⟩ := trees_of l [] (fun t ht => by simp at ht) (by simpa using h.2.2)
 exact ⟨t, ht, by simpa [posts] using hp⟩
def At (l : List S43) (t : Tr) (i : Nat) : Prop := ∃ p s, l = p ++ (post t ++ s) ∧ p.length = i
theorem At.lt {l : List S43} {t : Tr} {i : Nat} (h : At l t i) : i + (post t).length ≤ l.length := by
 obtain ⟨p, s, rfl, rfl⟩ := h; simp <;> omega
theorem At.un {l : List S43} {a : Tr} {x : S43} {i : Nat} (h : At l (.un a x) i) : At l a i := by
 obtain ⟨p, s, rfl, rfl⟩ := h; exact ⟨p, [x] ++ s, by simp [post], rfl⟩
theorem At.left {l : List S43} {a b : Tr} {x : S43} {i : Nat} (h : At l (.bin a b x) i) : At l a i := by
 obtain ⟨p, s, rfl, rfl⟩ := h; exact ⟨p, post b ++ [x] ++ s, by simp [post], rfl⟩
theorem At.right {l : List S43} {a b : Tr} {x : S43} {i : Nat} (h : At l (.bin a b x) i) : At l b (i + (post a).length) := by
 obtain ⟨p, s, rfl, rfl⟩ := h; exact ⟨p ++ post a, [x] ++ s, by simp [post], by simp⟩
def root : Tr → S43
 | .leaf x => x
 | .un _ x => x
 | .bin _ _ x => x
theorem getD_mid {α : Type} (p m s : List α) (d : α) {j : Nat} (h : j < m.length) : (p ++ (m ++ s)).getD (p.length + j) d = m.getD j d := by
 rw [List.getD_eq_getElem?_getD, List.getElem?_append_right (by omega), List.getElem?_append_left (by omega), List.getD_eq_getElem?_getD]
 congr 2; omega
theorem post_last (t : Tr) (d : S43) : (post t).getD ((post t).length - 1) d = root t := by
 cases t <;> simp [post, root, List.getD_eq_getElem?_getD]
theorem At.root {l : List S43} {t : Tr} {i : Nat} (h : At l t i) (d : S43) : l.getD (i + (post t).length - 1) d = root t := by
 obtain ⟨p, s, rfl, rfl⟩ := h
 have hp := post_pos t
 rw [show p.length + (post t).length - 1 = p.length + ((post t).length - 1) from by omega, getD_mid _ _ _ _ (by omega), post_last]
theorem At.whole (t : Tr) : At (post t) t 0 := ⟨[], [], by simp, rfl⟩
theorem rdS (l : List S43) (i : Nat) : rd_T43 l (i : Int) = l.getD i z43 := by simp [rd_T43]
theorem At.un_root {l : List S43} {a : Tr} {x : S43} {i : Nat} (h : At l (.un a x) i) : i + (post a).length < l.length ∧ l.getD (i + (post a).length) z43 = x := by
 have h1 := h.lt
 have h2 := h.root z43
 simp only [post, List.length_append, List.length_singleton] at h1 h2
 rw [show i + ((post a).length + 1) - 1 = i + (post a).length from by omega] at h2
 exact ⟨by omega, h2⟩
theorem At.bin_root {l : List S43} {a b : Tr} {x : S43} {i : Nat} (h : At l (.bin a b x) i) : i + (post a).length + (post b).length < l.length ∧ l.getD (i + (post a).length + (post b).length) z43 = x := by
 have h1 := h.lt
 have h2 := h.root z43
 simp only [post, List.length_append, List.length_singleton] at h1 h2
 rw [show i + ((post a).length + ((post b).length + 1)) - 1 = i + (post a).length + (post b).length from by omega] at h2
 exact ⟨by omega, h2⟩
theorem At.leaf_root {l : List S43} {x : S43} {i : Nat} (h : At l (.leaf x) i) : i < l.length ∧ l.getD i z43 = x := by
 have h1 := h.lt
 have h2 := h.root z43
 simp only [post, List.length_singleton, Nat.add_sub_cancel] at h1 h2
 exact ⟨by omega, h2⟩
theorem last_un (a : Tr) (x : S43) (i : Nat) : i + (post (.un a x)).length - 1 = i + (post a).length := by simp [post]
theorem last_bin (a b : Tr) (x : S43) (i : Nat) : i + (post (.bin a b x)).length - 1 = i + (post a).length + (post b).length := by simp [post]; omega
theorem l10From_ev (l : List S43) (hl : l.length ≤ 1048576) : ∀ (t : Tr) (i : Nat), okT t → At l t i → Ev (fun k => spec_l10From.f k l ((i + (post t).length - 1 : Nat) : Int)) (i : Int)
 | .leaf x, i, ok, h => by
  obtain ⟨h1, h2⟩ := h.leaf_root
  rw [show i + (post (.leaf x)).length - 1 = i from by simp [post]]
  refine Ev.step (fun k => by simp only [spec_l10From.f]; rw [if_pos (by omega), if_pos (by omega), rdS, h2]) ?_
  refine Ev.bind (l10Need_ev _) ?_
  rw [show needS x.f0 = 0 from ok.1]
  exact Ev.step (f := fun _ => some (i : Int)) (fun k => by simp only [spec_l10From.l0]; rw [if_neg (by omega)]) (Ev.now _)
 | .un a x, i, ok, h => by
  obtain ⟨h1, h2⟩ := h.un_root
  have ha := post_pos a
  rw [last_un]
  refine Ev.step (fun k => by simp only [spec_l10From.f]; rw [if_pos (by omega), if_pos (by omega), rdS, h2]) ?_
  refine Ev.bind (l10Need_ev _) ?_
  rw [show needS x.f0 = 1 from ok.2.1]
  refine Ev.step (fun k => by simp only [spec_l10From.l0]; rw [if_pos (by omega), wpred (by omega) (by omega)]) ?_
  refine Ev.bind (l10From_ev l hl a i ok.1 h.un) ?_
  exact Ev.step (f := fun _ => some (i : Int)) (fun k => by simp only [spec_l10From.l0]; rw [if_neg (by unfold wrap64; omega)]) (Ev.now _)
 | .bin a b x, i, ok, h => by
  obtain ⟨h1, h2⟩ := h.bin_root
  have ha := post_pos a
  have hb := post_pos b
  rw [last_bin]
  refine Ev.step (fun k => by simp only [spec_l10From.f]; rw [if_pos (by omega), if_pos (by omega), rdS, h2]) ?_
  refine Ev.bind (l10Need_ev _) ?_
  rw [show needS x.f0 = 2 from ok.2.2.1]
  refine Ev.step (fun k => by simp only [spec_l10From.l0]; rw [if_pos (by omega), wpred (by omega) (by omega)]) ?_
  refine Ev.bind (l10From_ev l hl b (i + (post a).length) ok.2.1 h.right) ?_
  refine Ev.step (fun k => by simp only [spec_l10From.l0]; rw [if_pos (by unfold wrap64; omega), wpred (by omega) (by omega)]) ?_
  refine Ev.bind (l10From_ev l hl a i ok.1 h.left) ?_
  exact Ev.step (f := fun _ => some (i : Int)) (fun k => by simp only [spec_l10From.l0]; rw [if_neg (by unfold wrap64; omega)]) (Ev.now _)
def letter (s l : List Int) (k : Nat) : Int := if k < s.length then s.getD k 0 else l.getD ((k - s.length) % l.length) 0
theorem letter_at_body (s l : List Int) (h : GL s l) (k : Nat) (hk : k ≤ 1048576) : (if (k : Int) < (s.length : Int) then (if 0 ≤ (k : Int) then (some (rd s (k : Int))) else (none)) else (if (l.length : Int) = 0 then (none) else (if 0 ≤ (Int.tmod (wrap64 ((k : Int) - (s.length : Int))) (l.length : Int)) then (if (Int.tmod (wrap64 ((k : Int) - (s.length : Int))) (l.length : Int)) < (l.length : Int) then (some (rd l (Int.tmod (wrap64 ((k : Int) - (s.length : Int))) (l.length : Int)))) else (none)) else (none)))) = some (letter s l k) := by
 have h1 := h.1
 have h2 := h.2.1
 by_cases hs : k < s.length
 ·rw [if_pos (by omega), if_pos (by omega), rd_nat]
  simp only [letter, if_pos hs]
 ·rw [if_neg (by omega), if_neg (by omega), wid (by omega) (by omega)]
  have e1 : (k : Int) - (s.length : Int) = ((k - s.length : Nat) : Int) := by omega
  have e2 : Int.tmod ((k - s.length : Nat) : Int) (l.length : Int) = (((k - s.length) % l.length : Nat) : Int) := by
   rw [Int.tmod_eq_emod_of_nonneg (by omega)]; rfl
  have h3 : (k - s.length) % l.length < l.length := Nat.mod_lt _ (by omega)
  rw [e1, e2, if_pos (by omega), if_pos (by omega), rd_nat]
  simp only [letter, if_neg hs]
theorem l9At_eq (s l : List Int) (h : GL s l) (k : Nat) (hk : k ≤ 1048576) : spec_l9At.f s l (k : Int) = some (letter s l k) := letter_at_body s l h k hk
theorem letterAt_eq (s l : List Int) (h : GL s l) (k : Nat) (hk : k ≤ 1048576) : impl_Lasso_letterAt.f s l (k : Int) = some (letter s l k) := letter_at_body s l h k hk
theorem oper_100 (op : Int) : impl_operandsOfSaid.f 100 op = some (needS op) := by
 show impl_operandsOfSaid.f (98 + 2) op = some (needS op)
 simp only [impl_operandsOfSaid.f, impl_operandsOfSaid.j0, impl_operandsOfSaid.j1]
 rcases need_cases op with ⟨e, h⟩ | ⟨e, h⟩ | ⟨e, h⟩ | ⟨e, h⟩ <;> rw [e]
 ·rcases h with rfl | rfl <;> simp
 ·rcases h with rfl | rfl <;> simp
 ·rcases h with rfl | rfl | rfl | rfl <;> simp
 ·simp [h]
theorem ha_fixed_length (s l : Nat) (b : Bool) (R : Nat → Bool → Bool) : (ha_fixed s l b R).length = s + l := by
 unfold ha_fixed ha_turn
 rw [ha_fold_length, ha_fold_length, List.length_replicate]
theorem ha_row_length (s lo : List Int) (op N : Int) (ops : List (List Bool)) : (ha_row s lo op N ops).length = s.length + lo.length := by
 unfold ha_row
 split
 ·exact ha_fixed_length _ _ _ _
 ·split
  ·exact ha_fixed_length _ _ _ _
  ·rw [List.length_map, List.length_range]
def hv (s lo : List Int) : Tr → List Bool
 | .leaf x => ha_row s lo x.f0 x.f1 []
 | .un a x => ha_row s lo x.f0 x.f1 [hv s lo a]
 | .bin a b x => ha_row s lo x.f0 x.f1 [hv s lo a, hv s lo b]
theorem hv_length (s lo : List Int) (t : Tr) : (hv s lo t).length = s.length + lo.length := by cases t <;> exact ha_row_length _ _ _ _ _
theorem ha_ok {s lo : List Int} (h : GL s lo) (x : S43) (hx : nOk x) (ops : List (List Bool)) (hn : needS x.f0 = (ops.length : Int)) (hr : ∀ r ∈ ops, r.length = s.length + lo.length) : HaOk s lo x.f0 x.f1 ops := by
 have h1 := h.1
 have h2 := h.2.1
 have h3 := h.2.2.1
 refine ⟨by omega, by omega, by omega, fun e => ⟨?_, fun k hk => ?_⟩, fun e => ?_, fun e => ?_, hr⟩
 ·unfold nOk at hx; rw [if_pos e] at hx; exact hx.1
 ·rw [letterAt_eq s lo h k (by have := List.mem_range.1 hk; omega)]; rfl
 ·have : needS x.f0 = 1 := by rcases e with e | e <;> rw [e] <;> rfl
  omega
 ·have : needS x.f0 = 2 := by rcases e with e | e | e | e <;> rw [e] <;> rfl
  omega
theorem run_step {s lo : List Int} (h : GL s lo) (x : S43) (hx : nOk x) (rest : List S43) (st ops : List (List Bool)) (hn : needS x.f0 = (ops.length : Int)) (hr : ∀ r ∈ ops, r.length = s.length + lo.length) :
  ha_run s lo (x :: rest) (st ++ ops) = ha_run s lo rest (st ++ [ha_row s lo x.f0 x.f1 ops]) := by
 have e : (st ++ ops).length - ((ops.length : Int)).toNat = st.length := by rw [List.length_append]; omega
 simp only [ha_run]
 rw [oper_100, Option.bind_some, hn, e, List.drop_left, List.take_left, if_pos ⟨by omega, by rw [List.length_append]; omega, ha_ok h x hx ops hn hr⟩]
theorem run_tree {s lo : List Int} (h : GL s lo) : ∀ (t : Tr) (rest : List S43) (st : List (List Bool)), okT t → ha_run s lo (post t ++ rest) st = ha_run s lo rest (st ++ [hv s lo t])
 | .leaf x, rest, st, ok => by
  have := run_step h x ok.2 rest st [] (by rw [ok.1]; rfl) (by simp)
  rw [List.append_nil] at this
  exact this
 | .un a x, rest, st, ok => by
  show ha_run s lo (post a ++ [x] ++ rest) st = _
  rw [List.append_assoc, run_tree h a _ _ ok.1]
  exact run_step h x ok.2.2 rest st [hv s lo a] (by rw [ok.2.1]; rfl) (by intro r hr; rw [List.mem_singleton.1 hr]; exact hv_length _ _ _)
 | .bin a b x, rest, st, ok => by
  show ha_run s lo (post a ++ (post b ++ [x]) ++ rest) st = _
  rw [List.append_assoc, List.append_assoc, run_tree h a _ _ ok.1, run_tree h b _ _ ok.2.1, List.append_assoc]
  refine run_step h x ok.2.2.2 rest st [hv s lo a, hv s lo b] (by rw [ok.2.2.1]; rfl) (fun r hr => ?_)
  rcases List.mem_cons.1 hr with hr | hr
  ·rw [hr]; exact hv_length _ _ _
  ·rw [List.mem_singleton.1 hr]; exact hv_length _ _ _
theorem along_eq {s lo : List Int} (h : GL s lo) (t : Tr) (ok : okT t) (h16 : (post t).length ≤ 16) : impl_Lasso_along.f s lo (post t) = some (hv s lo t) := by
 have hr := run_tree h t [] [] ok
 rw [List.append_nil, List.nil_append] at hr
 unfold impl_Lasso_along.f
 rw [if_pos (by omega), hr]
 rfl
def ha_R (s lo : List Int) (op N : Int) (ops : List (List Bool)) (k : Nat) (later : Bool) : Bool :=
 if op = 7 then ha_at ops 1 k || (ha_at ops 0 k && later) else if op = 8 then ha_at ops 1 k && (ha_at ops 0 k || later) else ha_cell s lo op N ops k
theorem ha_step_get (n s : Nat) (R : Nat → Bool → Bool) (g : Nat → Bool) (hR : ∀ k x, k < n → R k x = g k) (xs : List Bool) (m : Nat) (hm : m < n) (hl : xs.length = n) (j : Nat) : (ha_step n s R xs m).getD j false = if j = m then g j else xs.getD j false := by
 unfold ha_step
 rw [hR m _ hm, List.getD_eq_getElem?_getD, List.getElem?_set]
 by_cases h : m = j
 ·subst h
  rw [if_pos rfl, if_pos rfl, if_pos (by omega)]; rfl
 ·rw [if_neg h, if_neg (fun e => h e.symm), List.getD_eq_getElem?_getD]
theorem ha_fold_get (n s : Nat) (R : Nat → Bool → Bool) (g : Nat → Bool) (hR : ∀ k x, k < n → R k x = g k) : ∀ (m : Nat) (xs : List Bool), m ≤ n → xs.length = n → ∀ j, (((List.range m).reverse).foldl (ha_step n s R) xs).getD j false = if j < m then g j else xs.getD j false
 | 0, xs, _, _, j => by rw [if_neg (Nat.not_lt_zero j)]; rfl
 | m + 1, xs, hm, hl, j => by
  rw [List.range_succ, List.reverse_append, List.reverse_singleton, List.singleton_append, List.foldl_cons, ha_fold_get n s R g hR m _ (by omega) (by rw [ha_step_length, hl]) j, ha_step_get n s R g hR xs m (by omega) hl j]
  by_cases h : j < m
  ·rw [if_pos h, if_pos (by omega)]
  ·rw [if_neg h]
   by_cases h2 : j = m
   ·rw [if_pos h2, if_pos (by omega)]
   ·rw [if_neg h2, if_neg (by omega)]
theorem ha_turn_plain (n s : Nat) (R : Nat → Bool → Bool) (g : Nat → Bool) (hR : ∀ k x, k < n → R k x = g k) (xs : List Bool) (hl : xs.length = n) : ha_turn n s R xs = (List.range n).map g := by
 apply List.ext_getElem
 ·unfold ha_turn; rw [ha_fold_length, hl, List.length_map, List.length_range]
 ·intro j h1 h2
  have hj : j < n := by simpa using h2
  have := ha_fold_get n s R g hR n xs (Nat.le_refl _) hl j
  rw [if_pos hj] at this
  have e : (ha_turn n s R xs)[j] = (ha_turn n s R xs).getD j false := by rw [List.getD_eq_getElem?_getD, List.getElem?_eq_getElem h1]; rfl
  rw [e, show ha_turn n s R xs = ((List.range n).reverse).foldl (ha_step n s R) xs from rfl, this]
  simp
theorem ha_row_eq (s lo : List Int) (op N : Int) (ops : List (List Bool)) : ha_row s lo op N ops = ha_fixed s.length lo.length (op == 8) (ha_R s lo op N ops) := by
 unfold ha_row
 by_cases h7 : op = 7
 ·rw [if_pos h7]
  subst h7
  rfl
 rw [if_neg h7]
 by_cases h8 : op = 8
 ·rw [if_pos h8]
  subst h8
  rfl
 rw [if_neg h8]
 have hR : ∀ k x, k < s.length + lo.length → ha_R s lo op N ops k x = ha_cell s lo op N ops k := fun k x _ => by unfold ha_R; rw [if_neg h7, if_neg h8]
 unfold ha_fixed
 rw [ha_turn_plain _ _ _ _ hR _ (by unfold ha_turn; rw [ha_fold_length, List.length_replicate])]
def hops (s lo : List Int) : Tr → List (List Bool)
 | .leaf _ => []
 | .un a _ => [hv s lo a]
 | .bin a b _ => [hv s lo a, hv s lo b]
theorem hv_row (s lo : List Int) (t : Tr) : hv s lo t = ha_row s lo (root t).f0 (root t).f1 (hops s lo t) := by cases t <;> rfl
def TabOk (s lo : List Int) (l : List S43) (T : List (List Bool)) : Prop := ∀ (t : Tr) (i : Nat), okT t → At l t i → i + (post t).length ≤ T.length → T.getD (i + (post t).length - 1) [] = hv s lo t
theorem rdL4n (T : List (List Bool)) (j : Nat) : rd_L4 T (j : Int) = T.getD j [] := by simp [rd_L4, rdOf]
theorem rdBn (T : List Bool) (j : Nat) : rdOf false T (j : Int) = T.getD j false := by simp [rdOf]
theorem cell_ev {s lo : List Int} (hg : GL s lo) (l : List S43) (hl : l.length ≤ 1048576) (T : List (List Bool)) (hT : TabOk s lo l T) (hTl : T.length ≤ 1048576) (kk nx : Nat) (hk : kk < s.length + lo.length) (hn : nx < s.length + lo.length) (hnx : nx = ha_next (s.length + lo.length) s.length kk) (later : Bool) :
  ∀ (t : Tr) (i : Nat), okT t → At l t i → i + (post t).length - 1 ≤ T.length → Ev (fun k => spec_l10Cell.f k l T ((i + (post t).length - 1 : Nat) : Int) (letter s lo kk) (kk : Int) (nx : Int) later) (ha_R s lo (root t).f0 (root t).f1 (hops s lo t) kk later)
 | .leaf x, i, ok, h, hm => by
  obtain ⟨h1, h2⟩ := h.leaf_root
  rw [show i + (post (.leaf x)).length - 1 = i from by simp [post]]
  refine Ev.step (fun k => by simp only [spec_l10Cell.f]; rw [if_pos (by omega), if_pos (by omega), rdS, h2]) ?_
  have hop : x.f0 = 1 ∨ x.f0 = 2 := by
   rcases need_cases x.f0 with ⟨e, h_⟩ | ⟨e, h_⟩ | ⟨e, h_⟩ | ⟨e, h_⟩
   ·exact h_
   all_goals (have := ok.1; omega)
  have hx := ok.2
  unfold nOk at hx
  show Ev _ (ha_R s lo x.f0 x.f1 [] kk later)
  rcases hop with e | e
  ·rw [if_pos e] at hx
   have ew : IntKind.u64.wrap x.f1 = x.f1 := by rw [IntKind.wrap_u64]; omega
   rw [ew]
   refine ev_pos e (ev_pos hx.1 (ev_eq (Ev.now _) ?_))
   simp only [ha_R, ha_cell, e]
   rw [if_neg (by omega), if_neg (by omega), if_pos trivial, letterAt_eq s lo hg kk (by have := hg.1; have := hg.2.2.1; omega)]
   rfl
  ·refine ev_neg (by omega) (ev_pos e (ev_eq (Ev.now _) ?_))
   simp only [ha_R, ha_cell, e]
   rw [if_neg (by omega), if_neg (by omega), if_neg (by omega), if_neg (by omega), if_neg (by omega), if_neg (by omega), if_neg (by omega)]
 | .un a x, i, ok, h, hm => by
  obtain ⟨h1, h2⟩ := h.un_root
  have ha := post_pos a
  rw [last_un] at hm ⊢
  have hTa := hT a i ok.1 h.un hm
  have hla := hv_length s lo a
  refine Ev.step (fun k => by simp only [spec_l10Cell.f]; rw [if_pos (by omega), if_pos (by omega), rdS, h2, wpred (by omega) (by omega)]) ?_
  have hop : x.f0 = 3 ∨ x.f0 = 4 := by
   rcases need_cases x.f0 with ⟨e, h_⟩ | ⟨e, h_⟩ | ⟨e, h_⟩ | ⟨e, h_⟩
   ·have := ok.2.1; omega
   ·exact h_
   all_goals (have := ok.2.1; omega)
  rw [rdL4n, hTa, rdBn, rdBn]
  show Ev _ (ha_R s lo x.f0 x.f1 [hv s lo a] kk later)
  rcases hop with e | e
  ·refine ev_neg (by omega) (ev_neg (by omega) (ev_pos e (ev_pos (by omega) (ev_pos (by omega) (ev_pos (by omega) (ev_pos (by omega) (ev_eq (Ev.now _) ?_)))))))
   simp only [ha_R, ha_cell, e]
   rw [if_neg (by omega), if_neg (by omega), if_neg (by omega), if_pos trivial]
   rfl
  ·refine ev_neg (by omega) (ev_neg (by omega) (ev_neg (by omega) (ev_pos e (ev_pos (by omega) (ev_pos (by omega) (ev_pos (by omega) (ev_pos (by omega) (ev_eq (Ev.now _) ?_))))))))
   simp only [ha_R, ha_cell, e]
   rw [if_neg (by omega), if_neg (by omega), if_neg (by omega), if_neg (by omega), if_pos trivial, ← hnx]
   rfl
 | .bin a b x, i, ok, h, hm => by
  obtain ⟨h1, h2⟩ := h.bin_root
  have ha := post_pos a
  have hb := post_pos b
  rw [last_bin] at hm ⊢
  have hTa := hT a i ok.1 h.left (by omega)
  have hTb := hT b (i + (post a).length) ok.2.1 h.right hm
  have hla := hv_length s lo a
  have hlb := hv_length s lo b
  refine Ev.step (fun k => by simp only [spec_l10Cell.f]; rw [if_pos (by omega), if_pos (by omega), rdS, h2, wpred (by omega) (by omega)]) ?_
  have hop : x.f0 = 5 ∨ x.f0 = 6 ∨ x.f0 = 7 ∨ x.f0 = 8 := by
   rcases need_cases x.f0 with ⟨e, h_⟩ | ⟨e, h_⟩ | ⟨e, h_⟩ | ⟨e, h_⟩
   ·have := ok.2.2.1; omega
   ·have := ok.2.2.1; omega
   ·exact h_
   ·have := ok.2.2.1; omega
  refine ev_neg (by omega) (ev_neg (by omega) (ev_neg (by omega) (ev_neg (by omega) ?_)))
  refine Ev.bind (let ⟨K, hK⟩ := l10From_ev l hl b (i + (post a).length) ok.2.1 h.right; ⟨K, fun k hk => hK (k + 1) (Nat.le_succ_of_le hk)⟩) ?_
  rw [wpred (by omega) (by omega), rdL4n, rdL4n, hTa, hTb, rdBn, rdBn]
  refine ev_pos (by omega) (ev_pos (by omega) (ev_pos (by omega) (ev_pos (by omega) (ev_pos (by omega) (ev_pos (by omega) (ev_pos (by omega) ?_))))))
  show Ev _ (ha_R s lo x.f0 x.f1 [hv s lo a, hv s lo b] kk later)
  rw [show ha_R s lo x.f0 x.f1 [hv s lo a, hv s lo b] kk later = (if x.f0 = 7 then (hv s lo b).getD kk false || ((hv s lo a).getD kk false && later) else if x.f0 = 8 then (hv s lo b).getD kk false && ((hv s lo a).getD kk false || later) else if x.f0 = 5 then (hv s lo a).getD kk false && (hv s lo b).getD kk false else (hv s lo a).getD kk false || (hv s lo b).getD kk false) from by
   unfold ha_R ha_cell
   rcases hop with e | e | e | e <;> rw [e] <;> rfl]
  generalize (hv s lo a).getD kk false = ya
  generalize (hv s lo b).getD kk false = yb
  rcases hop with e | e | e | e
  ·rw [show (if x.f0 = 7 then yb || (ya && later) else if x.f0 = 8 then yb && (ya || later) else if x.f0 = 5 then ya && yb else ya || yb) = (ya && yb) from by rw [if_neg (by omega), if_neg (by omega), if_pos e]]
   refine ev_pos e ?_
   cases ya
   ·exact ev_neg (by simp) (Ev.now _)
   ·exact ev_pos rfl (Ev.now _)
  ·rw [show (if x.f0 = 7 then yb || (ya && later) else if x.f0 = 8 then yb && (ya || later) else if x.f0 = 5 then ya && yb else ya || yb) = (ya || yb) from by rw [if_neg (by omega), if_neg (by omega), if_neg (by omega)]]
   refine ev_neg (by omega) (ev_pos e ?_)
   cases ya
   ·exact ev_neg (by simp) (Ev.now _)
   ·exact ev_pos rfl (Ev.now _)
  ·rw [show (if x.f0 = 7 then yb || (ya && later) else if x.f0 = 8 then yb && (ya || later) else if x.f0 = 5 then ya && yb else ya || yb) = (yb || (ya && later)) from by rw [if_pos e]]
   refine ev_neg (by omega) (ev_neg (by omega) (ev_pos e ?_))
   cases yb
   ·refine ev_neg (by simp) ?_
    cases ya
    ·exact ev_neg (by simp) (Ev.now _)
    ·exact ev_pos rfl (Ev.now _)
   ·exact ev_pos rfl (Ev.now _)
  ·rw [show (if x.f0 = 7 then yb || (ya && later) else if x.f0 = 8 then yb && (ya || later) else if x.f0 = 5 then ya && yb else ya || yb) = (yb && (ya || later)) from by rw [if_neg (by omega), if_pos e]]
   refine ev_neg (by omega) (ev_neg (by omega) (ev_neg (by omega) ?_))
   cases yb
   ·exact ev_neg (by simp) (Ev.now _)
   ·refine ev_pos rfl ?_
    cases ya
    ·exact ev_neg (by simp) (Ev.now _)
    ·exact ev_pos rfl (Ev.now _)
theorem at_pos (l : List S43) : ∀ (t : Tr) (i m : Nat), okT t → At l t i → m < (post t).length → ∃ t' i', okT t' ∧ At l t' i' ∧ i' + (post t').length = i + m + 1
 | .leaf x, i, m, ok, h, hm => ⟨.leaf x, i, ok, h, by simp [post] at hm ⊢; omega⟩
 | .un a x, i, m, ok, h, hm => by
  by_cases c : m < (post a).length
  ·exact at_pos l a i m ok.1 h.un c
  ·exact ⟨.un a x, i, ok, h, by simp [post] at hm ⊢; omega⟩
 | .bin a b x, i, m, ok, h, hm => by
  by_cases c : m < (post a).length
  ·exact at_pos l a i m ok.1 h.left c
  by_cases c2 : m < (post a).length + (post b).length
  ·obtain ⟨t', i', h1, h2, h3⟩ := at_pos l b (i + (post a).length) (m - (post a).length) ok.2.1 h.right (by omega)
   exact ⟨t', i', h1, h2, by omega⟩
  ·exact ⟨.bin a b x, i, ok, h, by simp [post] at hm ⊢; omega⟩
theorem root_at {l : List S43} {t : Tr} {i m : Nat} (h : At l t i) (e : i + (post t).length = m + 1) : l.getD m z43 = root t := by
 have := h.root z43
 rw [show i + (post t).length - 1 = m from by omega] at this
 exact this
section
variable {s lo : List Int} (hg : GL s lo) (l : List S43) (hl : l.length ≤ 16)
include hg hl
theorem sweep_ev (T : List (List Bool)) (hT : TabOk s lo l T) (hTl : T.length < l.length) (t : Tr) (i : Nat) (ok : okT t) (hat : At l t i) (hti : i + (post t).length = T.length + 1) (turn : Int) {r : List (List Bool)} : ∀ (k : Nat) (xs : List Bool), k ≤ s.length + lo.length → xs.length = s.length + lo.length →
  Ev (fun n => spec_l10Table.l2 n l ((s.length + lo.length : Nat) : Int) T (T.length : Int) (((List.range k).reverse).foldl (ha_step (s.length + lo.length) s.length (ha_R s lo (root t).f0 (root t).f1 (hops s lo t))) xs) (wrap64 (turn + 1)) l (l.length : Int) (T.length : Int) s lo) r →
  Ev (fun n => spec_l10Table.l3 n l ((s.length + lo.length : Nat) : Int) T (T.length : Int) xs turn ((k : Int) - 1) l (l.length : Int) (T.length : Int) s lo) r
 | 0, xs, _, _, h => by
  rw [List.range_zero, List.reverse_nil, List.foldl_nil] at h
  exact Ev.step (fun n => by simp only [spec_l10Table.l3]; rw [if_neg (by omega)]) h
 | k + 1, xs, hk, hx, h => by
  have g1 := hg.1
  have g2 := hg.2.1
  have g3 := hg.2.2.1
  have hc := cell_ev hg l (by omega) T hT (by omega) k (ha_next (s.length + lo.length) s.length k) (by omega) (ha_next_lt (by omega)) rfl (xs.getD (ha_next (s.length + lo.length) s.length k) false) t i ok hat (by omega)
  rw [show i + (post t).length - 1 = T.length from by omega] at hc
  have h9 := l9At_eq s lo hg k (by omega)
  have hstep : xs.set k (ha_R s lo (root t).f0 (root t).f1 (hops s lo t) k (xs.getD (ha_next (s.length + lo.length) s.length k) false)) = ha_step (s.length + lo.length) s.length (ha_R s lo (root t).f0 (root t).f1 (hops s lo t)) xs k := rfl
  have ih := sweep_ev T hT hTl t i ok hat hti turn (r := r) k (ha_step (s.length + lo.length) s.length (ha_R s lo (root t).f0 (root t).f1 (hops s lo t)) xs k) (by omega) (by rw [ha_step_length, hx]) (by rw [List.range_succ, List.reverse_append, List.reverse_singleton, List.singleton_append, List.foldl_cons] at h; exact h)
  have ek : ((k + 1 : Nat) : Int) - 1 = (k : Int) := by omega
  rw [ek]
  refine Ev.step (fun n => by simp only [spec_l10Table.l3]; rw [if_pos (by omega)]) ?_
  rw [show wrap64 ((k : Int) + 1) = ((k + 1 : Nat) : Int) from by unfold wrap64; omega, show wrap64 ((k : Int) - 1) = (k : Int) - 1 from by unfold wrap64; omega, h9]
  by_cases c : k + 1 = s.length + lo.length
  ·have en : ha_next (s.length + lo.length) s.length k = s.length := by unfold ha_next; rw [if_neg (by omega)]
   rw [en] at hc hstep
   refine ev_pos (by omega) (ev_pos (by omega) ?_)
   rw [rdBn]
   refine Ev.bind hc (ev_pos (by omega) (ev_pos (by omega) ?_))
   rw [Int.toNat_natCast, hstep]
   exact ih
  ·have en : ha_next (s.length + lo.length) s.length k = k + 1 := by unfold ha_next; rw [if_pos (by omega)]
   rw [en] at hc hstep
   refine ev_neg (by omega) (ev_pos (by omega) ?_)
   rw [rdBn]
   refine Ev.bind hc (ev_pos (by omega) (ev_pos (by omega) ?_))
   rw [Int.toNat_natCast, hstep]
   exact ih
omit hg hl in
theorem fill_ev {n : Nat} (hn : n ≤ 48) (T : List (List Bool)) (x7 f0 f1 : Int) {r : List (List Bool)} : ∀ (m j : Nat) (xs : List Bool), j + m = n → xs.length = n →
  Ev (fun k => spec_l10Table.l2 k l (n : Int) T x7 (xs.take j ++ List.replicate m (f0 == 8)) 0 l (l.length : Int) x7 s lo) r →
  Ev (fun k => spec_l10Table.l1 k l (n : Int) T x7 xs l (l.length : Int) x7 (n : Int) (j : Int) s lo f0 f1) r
 | 0, j, xs, hj, hx, h => by
  refine Ev.step (fun k => by simp only [spec_l10Table.l1]; rw [if_neg (by omega)]) ?_
  rw [List.replicate_zero, List.append_nil, List.take_of_length_le (by omega)] at h
  exact h
 | m + 1, j, xs, hj, hx, h => by
  refine Ev.step (fun k => by simp only [spec_l10Table.l1]; rw [if_pos (by omega)]) ?_
  refine ev_pos (by omega) (ev_pos (by omega) ?_)
  rw [Int.toNat_natCast, show wrap64 ((j : Int) + 1) = ((j + 1 : Nat) : Int) from by unfold wrap64; omega]
  refine fill_ev hn T x7 f0 f1 m (j + 1) _ (by omega) (by rw [List.length_set, hx]) ?_
  have e : (xs.set j (f0 == 8)).take (j + 1) = xs.take j ++ [f0 == 8] := by
   rw [List.take_add_one, List.take_set_of_le (Nat.le_refl j), List.getElem?_set_self (by omega)]; rfl
  rw [e, List.append_assoc, List.singleton_append]
  exact h
omit hg hl in
theorem tree_uniq : ∀ (t t' : Tr) (i i' : Nat), okT t → okT t' → At l t i → At l t' i' → i + (post t).length = i' + (post t').length → t = t'
 | .leaf x, t', i, i', ok, ok', h, h', e => by
  have hr := root_at h (m := i) (by simp [post])
  have hr' := root_at h' (m := i) (by simp [post] at e; omega)
  have hx : x = root t' := hr.symm.trans hr'
  cases t' with
  | leaf y => exact congrArg Tr.leaf hx
  | un a y => have h1 := ok.1; have h2 := ok'.2.1; rw [show x = y from hx] at h1; omega
  | bin a b y => have h1 := ok.1; have h2 := ok'.2.2.1; rw [show x = y from hx] at h1; omega
 | .un a x, t', i, i', ok, ok', h, h', e => by
  have hr := root_at h (m := i + (post a).length) (by simp [post]; omega)
  have hr' := root_at h' (m := i + (post a).length) (by simp [post] at e; omega)
  have hx : x = root t' := hr.symm.trans hr'
  cases t' with
  | leaf y => have h1 := ok.2.1; have h2 := ok'.1; rw [show x = y from hx] at h1; omega
  | un a' y =>
   have := tree_uniq a a' i i' ok.1 ok'.1 h.un h'.un (by simp [post] at e; omega)
   subst this
   rw [show x = y from hx]
  | bin a' b' y => have h1 := ok.2.1; have h2 := ok'.2.2.1; rw [show x = y from hx] at h1; omega
 | .bin a b x, t', i, i', ok, ok', h, h', e => by
  have hr := root_at h (m := i + (post a).length + (post b).length) (by simp [post]; omega)
  have hr' := root_at h' (m := i + (post a).length + (post b).length) (by simp [post] at e; omega)
  have hx : x = root t' := hr.symm.trans hr'
  cases t' with
  | leaf y => have h1 := ok.2.2.1; have h2 := ok'.1; rw [show x = y from hx] at h1; omega
  | un a' y => have h1 := ok.2.2.1; have h2 := ok'.2.1; rw [show x = y from hx] at h1; omega
  | bin a' b' y =>
   have hb := tree_uniq b b' (i + (post a).length) (i' + (post a').length) ok.2.1 ok'.2.1 h.right h'.right (by simp [post] at e; omega)
   subst hb
   have ha := tree_uniq a a' i i' ok.1 ok'.1 h.left h'.left (by simp [post] at e; omega)
   subst ha
   rw [show x = y from hx]
theorem table_ev {t0 : Tr} (ok0 : okT t0) (h0 : At l t0 0) (hw : (post t0).length = l.length) : ∀ (m : Nat) (T : List (List Bool)), TabOk s lo l T → T.length + m = l.length → ∃ T', TabOk s lo l T' ∧ T'.length = l.length ∧ Ev (fun n => spec_l10Table.l0 n l ((s.length + lo.length : Nat) : Int) T l (l.length : Int) (T.length : Int) s lo) T'
 | 0, T, hT, hm => ⟨T, hT, by omega, Ev.step (f := fun _ => some T) (fun n => by simp only [spec_l10Table.l0]; rw [if_neg (by omega)]) (Ev.now _)⟩
 | m + 1, T, hT, hm => by
  have g1 := hg.1
  have g2 := hg.2.1
  have g3 := hg.2.2.1
  obtain ⟨t', i', ok', hat, hti⟩ := at_pos l t0 0 T.length ok0 h0 (by omega)
  rw [Nat.zero_add] at hti
  have hroot := root_at hat hti
  have hT2 : TabOk s lo l (T ++ [hv s lo t']) := by
   intro t i ok h hle
   rw [List.length_append, List.length_singleton] at hle
   by_cases c : i + (post t).length ≤ T.length
   ·have := hT t i ok h c
    have hp := post_pos t
    rw [List.getD_eq_getElem?_getD, List.getElem?_append_left (by omega), ← List.getD_eq_getElem?_getD]
    exact this
   ·have e : i + (post t).length = i' + (post t').length := by omega
    have := tree_uniq l t t' i i' ok ok' h hat e
    subst this
    rw [show i + (post t).length - 1 = T.length from by omega, List.getD_eq_getElem?_getD, List.getElem?_append_right (Nat.le_refl _), Nat.sub_self]
    rfl
  obtain ⟨T', h1, h2, h3⟩ := table_ev ok0 h0 hw m (T ++ [hv s lo t']) hT2 (by rw [List.length_append, List.length_singleton]; omega)
  refine ⟨T', h1, h2, ?_⟩
  refine Ev.step (fun n => by simp only [spec_l10Table.l0]; rw [if_pos (by omega)]) ?_
  refine ev_pos (by omega) (ev_pos (by omega) (ev_pos (by omega) (ev_pos (by omega) ?_)))
  refine Ev.bind (Ev.now _) ?_
  rw [Int.toNat_natCast, List.length_replicate, rdS, hroot]
  refine fill_ev (s := s) (lo := lo) l (n := s.length + lo.length) (by omega) T (T.length : Int) (root t').f0 (root t').f1 (s.length + lo.length) 0 _ (by omega) (by rw [List.length_replicate]) ?_
  rw [List.take_zero, List.nil_append]
  refine Ev.step (fun n => by simp only [spec_l10Table.l2]; rw [if_pos (by omega), show wrap64 (((s.length + lo.length : Nat) : Int) - 1) = ((s.length + lo.length : Nat) : Int) - 1 from by unfold wrap64; omega]) ?_
  refine sweep_ev hg l hl T hT (by omega) t' i' ok' hat hti 0 (s.length + lo.length) _ (Nat.le_refl _) (by rw [List.length_replicate]) ?_
  rw [show wrap64 ((0 : Int) + 1) = 1 from by unfold wrap64; omega]
  refine Ev.step (fun n => by simp only [spec_l10Table.l2]; rw [if_pos (by omega), show wrap64 (((s.length + lo.length : Nat) : Int) - 1) = ((s.length + lo.length : Nat) : Int) - 1 from by unfold wrap64; omega]) ?_
  refine sweep_ev hg l hl T hT (by omega) t' i' ok' hat hti 1 (s.length + lo.length) _ (Nat.le_refl _) (by rw [ha_fold_length, List.length_replicate]) ?_
  rw [show wrap64 ((1 : Int) + 1) = 2 from by unfold wrap64; omega]
  refine Ev.step (fun n => by simp only [spec_l10Table.l2]; rw [if_neg (by omega), if_pos (by omega), show wrap64 ((T.length : Int) + 1) = (((T ++ [hv s lo t']).length : Nat) : Int) from by rw [List.length_append, List.length_singleton]; unfold wrap64; omega]) ?_
  have er : hv s lo t' = ((List.range (s.length + lo.length)).reverse).foldl (ha_step (s.length + lo.length) s.length (ha_R s lo (root t').f0 (root t').f1 (hops s lo t'))) (((List.range (s.length + lo.length)).reverse).foldl (ha_step (s.length + lo.length) s.length (ha_R s lo (root t').f0 (root t').f1 (hops s lo t'))) (List.replicate (s.length + lo.length) ((root t').f0 == 8))) := by
   rw [hv_row, ha_row_eq]; rfl
  rw [← er]
  exact h3
end
def cSaid (x : S45) : S43 := ⟨x.f0, x.f1⟩
theorem toSaidS_l0 (l : List S45) (hl : l.length ≤ 1048576) (d : Nat) : ∀ (j : Nat) (y : List S43), y.length = l.length → j + d = l.length → Ev (fun k => laws_toSaidS.l0 k l y (j : Int)) (y.take j ++ (l.map cSaid).drop j) := by
 induction d with
 | zero =>
  intro j y hy hd
  rw [take_all_drop (xs := y) (ys := l.map cSaid) (by simpa using hy) (by simp; omega)]
  exact Ev.step (f := fun _ => some y) (fun k => by simp only [laws_toSaidS.l0]; rw [if_neg (by omega)]) (Ev.now y)
 | succ d ih =>
  intro j y hy hd
  have er : rd_T45 l (j : Int) = l.getD j z45 := by simp [rd_T45]
  refine Ev.step (f := fun k => laws_toSaidS.l0 k l (y.set j (cSaid (l.getD j z45))) ((j + 1 : Nat) : Int)) (fun k => by simp only [laws_toSaidS.l0, laws_toSaid.f, Option.bind_some]; rw [if_pos (by omega), if_pos (by omega), if_pos (by omega), wsucc (by omega), er]; rfl) ?_
  refine ev_eq (ih (j + 1) _ (by simpa using hy) (by omega)) (copy_step (by omega) (by simp; omega) ?_)
  rw [getD_eq (l := l.map cSaid) (by simp; omega), getD_eq (l := l) (by omega)]; simp
theorem toSaidS_ev (l : List S45) (hl : l.length ≤ 1048576) : Ev (fun k => laws_toSaidS.f k l) (l.map cSaid) := by
 refine Ev.congr (f := fun k => laws_toSaidS.l0 k l (List.replicate l.length z43) ((0 : Nat) : Int)) (fun k => by simp only [laws_toSaidS.f]; rw [if_pos (by omega), if_pos (by simp only [Int.toNat_natCast]; omega)]; rfl) ?_
 exact ev_eq (toSaidS_l0 l hl l.length 0 _ (by simp) (by omega)) (by simp)
theorem toIntS_l0 (l : List Int) (hl : l.length ≤ 1048576) (d : Nat) : ∀ (j : Nat) (y : List Int), y.length = l.length → j + d = l.length → Ev (fun k => laws_toIntS.l0 k l y (j : Int)) (y.take j ++ l.drop j) := by
 induction d with
 | zero =>
  intro j y hy hd
  rw [take_all_drop hy (by omega)]
  exact Ev.step (f := fun _ => some y) (fun k => by simp only [laws_toIntS.l0]; rw [if_neg (by omega)]) (Ev.now y)
 | succ d ih =>
  intro j y hy hd
  refine Ev.step (f := fun k => laws_toIntS.l0 k l (y.set j (rd l (j : Int))) ((j + 1 : Nat) : Int)) (fun k => by simp only [laws_toIntS.l0]; rw [if_pos (by omega), if_pos (by omega), if_pos (by omega), wsucc (by omega)]; rfl) ?_
  refine ev_eq (ih (j + 1) _ (by simpa using hy) (by omega)) (copy_step (by omega) (by omega) ?_)
  rw [rd_nat, getD_eq (by omega), getD_eq (by omega)]
theorem toIntS_ev (l : List Int) (hl : l.length ≤ 1048576) : Ev (fun k => laws_toIntS.f k l) l := by
 refine Ev.congr (f := fun k => laws_toIntS.l0 k l (List.replicate l.length 0) ((0 : Nat) : Int)) (fun k => by simp only [laws_toIntS.f]; rw [if_pos (by omega), if_pos (by simp only [Int.toNat_natCast]; omega)]; rfl) ?_
 exact ev_eq (toIntS_l0 l hl l.length 0 _ (by simp) (by omega)) (by simp)
theorem toLasso_ev (l m : List Int) (hl : l.length ≤ 1048576) (hm : m.length ≤ 1048576) : Ev (fun k => laws_toLasso.f k l m) (l, m) :=
 Ev.bind (toIntS_ev l hl) (Ev.bind (toIntS_ev m hm) (Ev.now _))
theorem operandsOfSaid_ev (op : Int) : Ev (fun k => impl_operandsOfSaid.f k op) (needS op) := by
 refine ev_from 2 (fun m => ?_)
 simp only [impl_operandsOfSaid.f, impl_operandsOfSaid.j0, impl_operandsOfSaid.j1]
 rcases need_cases op with ⟨e, h⟩ | ⟨e, h⟩ | ⟨e, h⟩ | ⟨e, h⟩ <;> rw [e]
 ·rcases h with rfl | rfl <;> simp
 ·rcases h with rfl | rfl <;> simp
 ·rcases h with rfl | rfl | rfl | rfl <;> simp
 ·simp [h]
theorem isSaid_tells (x : S43) : Tells (fun k => impl_isSaid.f k x.f0 x.f1) (0 ≤ needS x.f0 ∧ nOk x) := by
 simp only [impl_isSaid.f, nOk]
 rcases need_cases x.f0 with ⟨e, h⟩ | ⟨e, h⟩ | ⟨e, h⟩ | ⟨e, h⟩
 ·rcases h with h | h
  ·simp only [h, if_true]
   refine tells_if (fun h1 => tells_some ?_) (fun h1 => tells_no (fun g => by have := g.2.1; omega))
   simp [needS]; omega
  ·simp only [h, if_neg (show ¬ ((2 : Int) = 1) by decide), if_true]
   refine tells_if (fun h1 => tells_yes ⟨by simp [needS], by omega, by omega⟩) (fun h1 => tells_some ?_)
   simp [needS]; omega
 ·have h1 : ¬ (x.f0 = 1) := by omega
  have h2 : ¬ (x.f0 = 2) := by omega
  simp only [if_neg h1, if_neg h2]
  refine tells_bind (operandsOfSaid_ev x.f0) (tells_pos (by omega) (tells_some ?_))
  simp [e]
 ·have h1 : ¬ (x.f0 = 1) := by omega
  have h2 : ¬ (x.f0 = 2) := by omega
  simp only [if_neg h1, if_neg h2]
  refine tells_bind (operandsOfSaid_ev x.f0) (tells_pos (by omega) (tells_some ?_))
  simp [e]
 ·simp only [if_neg h.1, if_neg h.2.1]
  refine tells_bind (operandsOfSaid_ev x.f0) (tells_neg (by omega) (tells_no (fun g => by omega)))
theorem impl_GoodSaid_l0 (l : List S43) (hl : l.length ≤ 16) (d : Nat) : ∀ (j : Nat) (c : Int), 0 ≤ c → c ≤ j → j + d = l.length →
  Tells (fun k => impl_GoodSaid.l0 k c l (l.length : Int) (j : Int)) (gs (l.drop j) c) := by
 induction d with
 | zero =>
  intro j c h0 h1 hd
  refine tells_step (f := fun _ => some (c == 1)) (fun k => by simp only [impl_GoodSaid.l0]; rw [if_neg (by omega)]) (tells_some ?_)
  rw [List.drop_of_length_le (by omega)]; simp [gs]
 | succ d ih =>
  intro j c h0 h1 hd
  have hj : j < l.length := by omega
  have er : rd_T43 l (j : Int) = l.getD j z43 := by simp [rd_T43]
  refine tells_step (fun k => by simp only [impl_GoodSaid.l0]; rw [if_pos (by omega), if_pos (by omega), if_pos (by omega), wsucc (by omega), er]) ?_
  rw [drop_cons hj z43]
  generalize l.getD j z43 = x
  have hn := need_le x.f0
  refine tells_bind (operandsOfSaid_ev x.f0) ?_
  refine tells_ask (isSaid_tells x) (fun hx => tells_pos rfl ?_) (fun hx => tells_neg (by simp) (tells_no (fun g => hx ⟨g.1, g.2.1⟩)))
  refine tells_if (fun h2 => tells_no (fun g => by have := g.2.2.1; omega)) (fun h2 => ?_)
  rw [wid (x := 1 - needS x.f0) (by omega) (by omega), wid (by omega) (by omega)]
  exact tells_iff (ih (j + 1) _ (by omega) (by omega) (by omega)) ⟨fun g => ⟨hx.1, hx.2, by omega, g⟩, fun g => g.2.2.2⟩
theorem impl_GoodSaid_tells (l : List S43) (hl : l.length ≤ 9223372036854775807) : Tells (fun k => impl_GoodSaid.f k l) (GoodS l) := by
 refine tells_if (fun h => ?_) (fun h => ?_)
 ·exact tells_step (f := fun _ => some false) (fun k => by simp only [impl_GoodSaid.j0, if_true]) (tells_no (fun g => by have := g.1; omega))
 ·by_cases h2 : (l.length : Int) > 16
  ·exact tells_step (f := fun _ => some false) (fun k => by simp only [impl_GoodSaid.j0]; rw [if_pos (by simpa using h2)]) (tells_no (fun g => by have := g.2.1; omega))
  ·refine tells_step (f := fun k => impl_GoodSaid.l0 k 0 l (l.length : Int) 0) (fun k => by simp only [impl_GoodSaid.j0]; rw [if_neg (by simpa using h2)]) ?_
   exact tells_iff (impl_GoodSaid_l0 l (by omega) l.length 0 0 (by omega) (by omega) (by omega)) ⟨fun g => ⟨by omega, by omega, by simpa using g⟩, fun g => by simpa using g.2.2⟩
theorem areLetters_tells (l : List Int) : Tells (fun _ => impl_areLetters.f l) (Letters l) := by
 have h1 : Tells (fun _ => anyO (fun x_ => impl_areLetters_1.f x_) l) (∃ x ∈ l, x < 0 ∨ 8 ≤ x) := by
  refine anyO_tells (q := fun _ x => impl_areLetters_1.f x) l (fun x _ => ?_)
  exact tells_if (fun h => tells_yes (.inl h)) (fun h => tells_some (by simp; omega))
 refine tells_ask h1 (fun ⟨x, hx, hp⟩ => tells_no (fun g => by have := g x hx; omega)) (fun h => tells_yes (fun x hx => ?_))
 rcases Int.lt_or_le x 0 with h2 | h2
 ·exact absurd ⟨x, hx, .inl h2⟩ h
 ·rcases Int.lt_or_le x 8 with h3 | h3
  ·omega
  ·exact absurd ⟨x, hx, .inr h3⟩ h
theorem impl_GoodLasso_tells (s l : List Int) : Tells (fun _ => impl_GoodLasso.f s l) (GL s l) := by
 refine tells_if (fun h => ?_) (fun h => tells_no (fun g => by have := g.1; omega))
 refine tells_if (fun h2 => ?_) (fun h2 => tells_no (fun g => by have := g.2.1; omega))
 refine tells_if (fun h3 => ?_) (fun h3 => tells_no (fun g => by have := g.2.2.1; omega))
 refine tells_ask (areLetters_tells s) (fun h4 => tells_pos rfl ?_) (fun h4 => tells_neg (by simp) (tells_no (fun g => h4 g.2.2.2.1)))
 exact tells_ask (areLetters_tells l) (fun h5 => tells_yes ⟨by omega, by omega, by omega, h4, h5⟩) (fun h5 => tells_no (fun g => h5 g.2.2.2.2))
theorem isIndex_tells (n : Int) : Tells (fun _ => impl_isIndex.f n) (0 ≤ n ∧ n ≤ 1000) :=
 tells_if (fun h => tells_some (by simp; omega)) (fun h => tells_no (fun g => by omega))
theorem gs_post_ : ∀ (t : Tr) (l : List S43) (c : Int), okT t → 0 ≤ c → gs l (c + 1) → gs (post t ++ l) c
 | .leaf x, l, c, ok, hc, h => by
  rw [post]
  exact ⟨by rw [ok.1]; omega, ok.2, by rw [ok.1]; omega, by rw [ok.1]; exact h⟩
 | .un a x, l, c, ok, hc, h => by
  rw [post, List.append_assoc]
  refine gs_post_ a _ c ok.1 hc ?_
  have e := ok.2.1
  exact ⟨by rw [e]; omega, ok.2.2, by rw [e]; omega, by rw [e, show c + 1 + (1 - 1) = c + 1 by omega]; exact h⟩
 | .bin a b x, l, c, ok, hc, h => by
  rw [post, List.append_assoc, List.append_assoc]
  refine gs_post_ a _ c ok.1 hc ?_
  refine gs_post_ b _ (c + 1) ok.2.1 (by omega) ?_
  have e := ok.2.2.1
  exact ⟨by rw [e]; omega, ok.2.2.2, by rw [e]; omega, by rw [e, show c + 1 + 1 + (1 - 2) = c + 1 by omega]; exact h⟩
theorem post_good_ {t : Tr} (h : okT t) (hl : (post t).length ≤ 16) : GoodS (post t) := by
 have h1 := post_pos t
 have h2 := gs_post_ t [] 0 h (by omega) (by show (0 : Int) + 1 = 1; omega)
 rw [List.append_nil] at h2
 exact ⟨h1, hl, h2⟩
def foldAt (s lo : List Int) (n : Nat) : Nat := if n < s.length then n else s.length + (n - s.length) % lo.length
theorem foldAt_lt {s lo : List Int} (h : 1 ≤ lo.length) (n : Nat) : foldAt s lo n < s.length + lo.length := by
 unfold foldAt
 split
 ·omega
 ·have := Nat.mod_lt (n - s.length) (show 0 < lo.length by omega); omega
theorem HoldsAt_tree (t : Tr) (ok : okT t) (h16 : (post t).length ≤ 16) (s lo : List Int) (h : GL s lo) (n : Nat) (hn : n ≤ 1000) : Ev (fun k => spec_HoldsAt.f k (post t) s lo (n : Int)) ((hv s lo t).getD (foldAt s lo n) false, true) ∧ Ev (fun k => impl_HoldsAt.f k (post t) s lo (n : Int)) ((hv s lo t).getD (foldAt s lo n) false, true) := by
 have hg := post_good_ ok h16
 have hp := post_pos t
 have g1 := h.1
 have g2 := h.2.1
 have g3 := h.2.2.1
 have hlen := hv_length s lo t
 have hf := foldAt_lt (s := s) g2 n
 refine ⟨?_, ?_⟩
 ·refine Ev.bind (tells_ev (spec_GoodSaid_tells _ (by omega)) hg) (ev_pos rfl (Ev.bind (tells_ev (spec_GoodLasso_tells s lo (by omega) (by omega)) h) (ev_pos rfl (Ev.bind (tells_ev (l1In_tells _ _ _) ⟨by omega, by omega⟩) (ev_pos rfl (Ev.bind (a := (hv s lo t).getD (foldAt s lo n) false) ?_ (Ev.now _)))))))
  obtain ⟨T', h1, h2, h3⟩ := table_ev h (post t) h16 ok (At.whole t) rfl (post t).length [] (fun t i ok _ hle => absurd hle (by have := post_pos t; show ¬ (i + (post t).length ≤ 0); omega)) (by simp)
  have ht := h1 t 0 ok (At.whole t) (by omega)
  rw [Nat.zero_add] at ht
  refine Ev.bind (a := T') (by
   unfold spec_l10Table.f
   rw [show wrap64 ((s.length : Int) + (lo.length : Int)) = ((s.length + lo.length : Nat) : Int) from by unfold wrap64; omega]
   exact h3) ?_
  rw [wpred hp (by omega)]
  refine ev_pos (by omega) (ev_pos (by omega) ?_)
  rw [rdL4n, ht]
  have hfd : spec_l10Fold.f s lo (n : Int) = some ((foldAt s lo n : Nat) : Int) := by
   unfold spec_l10Fold.f foldAt
   by_cases c : n < s.length
   ·rw [if_pos (by omega), if_pos c]
   ·rw [if_neg (by omega), if_neg (by omega), if_neg c, wid (x := (n : Int) - (s.length : Int)) (by omega) (by omega)]
    have e1 : (n : Int) - (s.length : Int) = ((n - s.length : Nat) : Int) := by omega
    have e2 : Int.tmod ((n - s.length : Nat) : Int) (lo.length : Int) = (((n - s.length) % lo.length : Nat) : Int) := by
     rw [Int.tmod_eq_emod_of_nonneg (by omega)]; rfl
    have h3 : (n - s.length) % lo.length < lo.length := Nat.mod_lt _ (by omega)
    rw [e1, e2, wid (by omega) (by omega)]
    congr 1
  refine Ev.bind (ev_const hfd) (ev_pos (by omega) (ev_pos (by omega) ?_))
  rw [rdBn]
  exact Ev.now _
 ·refine Ev.bind (tells_ev (impl_GoodSaid_tells _ (by omega)) hg) (ev_pos rfl (Ev.bind (tells_ev (impl_GoodLasso_tells s lo) h) (ev_pos rfl (Ev.bind (tells_ev (isIndex_tells _) ⟨by omega, by omega⟩) ?_))))
  refine Ev.step (fun k => by simp only [impl_HoldsAt.j0]; rw [if_neg (by simp)]) ?_
  have ha := along_eq h t ok h16
  by_cases c : n < s.length
  ·have ef : foldAt s lo n = n := by unfold foldAt; rw [if_pos c]
   rw [ef] at hf ⊢
   refine ev_neg (by omega) (Ev.bind (ev_const ha) (ev_pos (by omega) (ev_pos (by omega) ?_)))
   rw [rdBn]
   exact Ev.now _
  ·have ef : foldAt s lo n = s.length + (n - s.length) % lo.length := by unfold foldAt; rw [if_neg c]
   have e1 : (n : Int) - (s.length : Int) = ((n - s.length : Nat) : Int) := by omega
   have e2 : Int.tmod ((n - s.length : Nat) : Int) (lo.length : Int) = (((n - s.length) % lo.length : Nat) : Int) := by
    rw [Int.tmod_eq_emod_of_nonneg (by omega)]; rfl
   have h3 : (n - s.length) % lo.length < lo.length := Nat.mod_lt _ (by omega)
   rw [wid (x := (n : Int) - (s.length : Int)) (by omega) (by omega), e1, e2, wid (by omega) (by omega), show (s.length : Int) + (((n - s.length) % lo.length : Nat) : Int) = ((foldAt s lo n : Nat) : Int) from by rw [ef]; omega]
   refine ev_pos (by omega) (ev_neg (by omega) (Ev.bind (ev_const ha) (ev_pos (by omega) (ev_pos (by omega) ?_))))
   rw [rdBn]
   exact Ev.now _
theorem HoldsAt_no1 (k : Nat) (l : List S43) (s lo : List Int) (n : Int) : Ev (fun k => impl_HoldsAt.j0 k l n true s lo) (false, false) :=
 Ev.step (f := fun _ => some (false, false)) (fun k => by simp only [impl_HoldsAt.j0]; rw [if_pos trivial]) (Ev.now _)
theorem HoldsAt_both (l : List S43) (s lo : List Int) (n : Int) (hl : l.length ≤ 9223372036854775807) (hs : s.length ≤ 9223372036854775807) (hlo : lo.length ≤ 9223372036854775807) : ∃ r, Ev (fun k => spec_HoldsAt.f k l s lo n) r ∧ Ev (fun k => impl_HoldsAt.f k l s lo n) r := by
 by_cases hg : GoodS l
 ·by_cases h : GL s lo
  ·by_cases hn : 0 ≤ n ∧ n ≤ 1000
   ·obtain ⟨t, ok, rfl⟩ := tree_of hg
    obtain ⟨m, rfl⟩ := Int.eq_ofNat_of_zero_le hn.1
    exact ⟨_, HoldsAt_tree t ok hg.2.1 s lo h m (by omega)⟩
   ·exact ⟨(false, false), Ev.bind (tells_ev (spec_GoodSaid_tells l hl) hg) (ev_pos rfl (Ev.bind (tells_ev (spec_GoodLasso_tells s lo hs hlo) h) (ev_pos rfl (Ev.bind (tells_ev_not (l1In_tells _ _ _) hn) (ev_neg (by simp) (Ev.now _)))))),
     Ev.bind (tells_ev (impl_GoodSaid_tells l hl) hg) (ev_pos rfl (Ev.bind (tells_ev (impl_GoodLasso_tells s lo) h) (ev_pos rfl (Ev.bind (tells_ev_not (isIndex_tells _) hn) (HoldsAt_no1 0 l s lo n)))))⟩
  ·exact ⟨(false, false), Ev.bind (tells_ev (spec_GoodSaid_tells l hl) hg) (ev_pos rfl (Ev.bind (tells_ev_not (spec_GoodLasso_tells s lo hs hlo) h) (ev_neg (by simp) (Ev.now _)))),
    Ev.bind (tells_ev (impl_GoodSaid_tells l hl) hg) (ev_pos rfl (Ev.bind (tells_ev_not (impl_GoodLasso_tells s lo) h) (ev_neg (by simp) (HoldsAt_no1 0 l s lo n))))⟩
 ·exact ⟨(false, false), Ev.bind (tells_ev_not (spec_GoodSaid_tells l hl) hg) (ev_neg (by simp) (Ev.now _)), Ev.bind (tells_ev_not (impl_GoodSaid_tells l hl) hg) (ev_neg (by simp) (HoldsAt_no1 0 l s lo n))⟩
theorem eqSaidS_l0 (l : List S43) (hl : l.length ≤ 9223372036854775807) (d : Nat) : ∀ (j : Nat), j + d = l.length → Ev (fun k => laws_eqSaidS.l0 k l l (j : Int)) true := by
 induction d with
 | zero => exact fun j hd => Ev.step (f := fun _ => some true) (fun k => by simp only [laws_eqSaidS.l0]; rw [if_neg (by omega)]) (Ev.now _)
 | succ d ih => exact fun j hd => Ev.step (fun k => by simp only [laws_eqSaidS.l0, laws_eqSaid.f, if_true, Option.bind_some]; rw [if_pos (by omega), if_pos (by omega), if_pos (by omega), wsucc (by omega)]) (ih (j + 1) (by omega))
theorem eqSaidS_ev (l : List S43) (hl : l.length ≤ 9223372036854775807) : Ev (fun k => laws_eqSaidS.f k l l) true :=
 Ev.congr (fun k => by simp only [laws_eqSaidS.f, if_true]; rfl) (eqSaidS_l0 l hl l.length 0 (by omega))
theorem eqIntS_l0 (l : List Int) (hl : l.length ≤ 9223372036854775807) (d : Nat) : ∀ (j : Nat), j + d = l.length → Ev (fun k => laws_eqIntS.l0 k l l (j : Int)) true := by
 induction d with
 | zero => exact fun j hd => Ev.step (f := fun _ => some true) (fun k => by simp only [laws_eqIntS.l0]; rw [if_neg (by omega)]) (Ev.now _)
 | succ d ih => exact fun j hd => Ev.step (fun k => by simp only [laws_eqIntS.l0, if_true]; rw [if_pos (by omega), if_pos (by omega), if_pos (by omega), wsucc (by omega)]) (ih (j + 1) (by omega))
theorem eqIntS_ev (l : List Int) (hl : l.length ≤ 9223372036854775807) : Ev (fun k => laws_eqIntS.f k l l) true :=
 Ev.congr (fun k => by simp only [laws_eqIntS.f, if_true]; rfl) (eqIntS_l0 l hl l.length 0 (by omega))
theorem eqLasso_ev (l m : List Int) (hl : l.length ≤ 9223372036854775807) (hm : m.length ≤ 9223372036854775807) : Ev (fun k => laws_eqLasso.f k l m l m) true :=
 Ev.bind (eqIntS_ev l hl) (ev_pos rfl (Ev.bind (eqIntS_ev m hm) (ev_pos rfl (Ev.now _))))

theorem FnExactHoldsAt : ∀ (l0 : List (S45)) (l1_0 : List (Int)) (l1_1 : List (Int)) (a2 : Int), (l0.length ≤ 9223372036854775807 ∧ ∀ x ∈ l0, (In64 x.f0) ∧ (In64 x.f1)) → (l1_0.length ≤ 9223372036854775807 ∧ ∀ x ∈ l1_0, In64 x) → (l1_1.length ≤ 9223372036854775807 ∧ ∀ x ∈ l1_1, In64 x) → (In64 a2) → ∃ k, laws_FnExactHoldsAt.f k l0 l1_0 l1_1 a2 = some true := by
  intro f s l n hf hs hl hn
  refine Ev.rounds (Ev.bind (ev_const (szSaidS_eq f hf.1)) ?_)
  by_cases h : f.length ≤ 1048576
  · rw [if_pos h]
    refine ev_neg (by omega) ?_
    obtain ⟨t, ht, hp⟩ := szLasso_eq s l (1048576 - f.length) (by omega) hs.1 hl.1
    refine Ev.bind (ev_const ht) ?_
    by_cases h' : t < 0
    · exact ev_pos h' (Ev.now _)
    refine ev_neg h' ?_
    obtain ⟨_, h1, h2⟩ := hp (by omega)
    have hm : (f.map cSaid).length ≤ 9223372036854775807 := by simp; omega
    obtain ⟨⟨b, c⟩, hb, hb'⟩ := HoldsAt_both (f.map cSaid) s l n hm hs.1 hl.1
    have htl := toLasso_ev s l (by omega) (by omega)
    refine Ev.bind (toSaidS_ev f h) (Ev.bind htl (Ev.bind hb (Ev.bind (toSaidS_ev f h) (Ev.bind htl (Ev.bind hb' (ev_neg (by simp) ?_))))))
    refine Ev.step (fun k => by simp only [laws_FnExactHoldsAt.j0]; rw [if_neg (by simp)]) ?_
    refine Ev.bind (toSaidS_ev f h) (Ev.bind (eqSaidS_ev _ hm) (ev_pos rfl ?_))
    exact Ev.bind htl (Ev.bind (eqLasso_ev s l hs.1 hl.1) (ev_pos rfl (Ev.now _)))
  · rw [if_neg h]
    exact ev_pos (by omega) (Ev.now _)

end Go.Proofs.Ytgcglmkkfkjhhaa.Pure
