/- The pure statement of the law FnExactSaidText: what the printed functions compute makes the law true, for every input. No condition. -/
import Derived.Test.YtaacldndbjmekaaOpen
import Derived.Test.YtaacldndbjmekaaAid
import Derived.Test.YtaacldndbjmekaaP120
set_option linter.unusedVariables false
set_option linter.unusedSimpArgs false
namespace Go.Proofs.Ytaacldndbjmekaa.Pure
open Go.RowKit Go.Proofs.YtaacldndbjmekaaW.PrintWords Go.Proofs.Ytaacldndbjmekaa.P Go.Proofs.Ytaacldndbjmekaa.Hof Go.Proofs.Ytaacldndbjmekaa.Open Go.Proofs.Ytaacldndbjmekaa.Aid
-- LEMMAS
theorem szSaidS_eq (l : List S62) (hl : l.length ≤ 9223372036854775807) : laws_szSaidS.f l 1048576 = some (if l.length ≤ 1048576 then 1048576 - (l.length : Int) else -1) := by
 have e : wrap64 (1048576 - (l.length : Int)) = 1048576 - l.length := wid (by omega) (by omega)
 simp only [laws_szSaidS.f]
 rw [e]
 by_cases h : l.length ≤ 1048576
 ·rw [if_neg (by omega), if_pos h]
 ·rw [if_pos (by omega), if_neg h]
theorem szSaidS_eq2 (l : List S62) (n : Int) (hl : l.length ≤ 9223372036854775807) (h0 : 0 ≤ n) (h1 : n ≤ 1048576) : laws_szSaidS.f l n = some (if (l.length : Int) ≤ n then n - (l.length : Int) else -1) := by
 have e : wrap64 (n - (l.length : Int)) = n - l.length := wid (by omega) (by omega)
 simp only [laws_szSaidS.f]
 rw [e]
 by_cases h : (l.length : Int) ≤ n
 ·rw [if_neg (by omega), if_pos h]
 ·rw [if_pos (by omega), if_neg h]
def cSaid (x : S62) : S59 := ⟨x.f0, x.f1⟩
theorem toSaidS_l0 (l : List S62) (hl : l.length ≤ 1048576) (d : Nat) : ∀ (j : Nat) (y : List S59), y.length = l.length → j + d = l.length → Ev (fun k => laws_toSaidS.l0 k l y (j : Int)) (y.take j ++ (l.map cSaid).drop j) := by
 induction d with
 | zero =>
  intro j y hy hd
  rw [take_all_drop (xs := y) (ys := l.map cSaid) (by simpa using hy) (by simp; omega)]
  exact Ev.step (f := fun _ => some y) (fun k => by simp only [laws_toSaidS.l0]; rw [if_neg (by omega)]) (Ev.now y)
 | succ d ih =>
  intro j y hy hd
  have er : rd_T62 l (j : Int) = l.getD j z62 := by simp [rd_T62]
  refine Ev.step (f := fun k => laws_toSaidS.l0 k l (y.set j (cSaid (l.getD j z62))) ((j + 1 : Nat) : Int)) (fun k => by simp only [laws_toSaidS.l0, laws_toSaid.f, Option.bind_some]; rw [if_pos (by omega), if_pos (by omega), if_pos (by omega), wsucc (by omega), er]; rfl) ?_
  refine ev_eq (ih (j + 1) _ (by simpa using hy) (by omega)) (copy_step (by omega) (by simp; omega) ?_)
  rw [getD_eq (l := l.map cSaid) (by simp; omega), getD_eq (l := l) (by omega)]; simp
theorem toSaidS_ev (l : List S62) (hl : l.length ≤ 1048576) : Ev (fun k => laws_toSaidS.f k l) (l.map cSaid) := by
 refine Ev.congr (f := fun k => laws_toSaidS.l0 k l (List.replicate l.length z59) ((0 : Nat) : Int)) (fun k => by simp only [laws_toSaidS.f]; rw [if_pos (by omega), if_pos (by simp only [Int.toNat_natCast]; omega)]; rfl) ?_
 exact ev_eq (toSaidS_l0 l hl l.length 0 _ (by simp) (by omega)) (by simp)
theorem eqSaidS_l0 (l : List S59) (hl : l.length ≤ 9223372036854775807) (d : Nat) : ∀ (j : Nat), j + d = l.length → Ev (fun k => laws_eqSaidS.l0 k l l (j : Int)) true := by
 induction d with
 | zero => exact fun j hd => Ev.step (f := fun _ => some true) (fun k => by simp only [laws_eqSaidS.l0]; rw [if_neg (by omega)]) (Ev.now _)
 | succ d ih => exact fun j hd => Ev.step (fun k => by simp only [laws_eqSaidS.l0, laws_eqSaid.f, if_true, Option.bind_some]; rw [if_pos (by omega), if_pos (by omega), if_pos (by omega), wsucc (by omega)]) (ih (j + 1) (by omega))
theorem eqSaidS_ev (l : List S59) (hl : l.length ≤ 9223372036854775807) : Ev (fun k => laws_eqSaidS.f k l l) true :=
 Ev.congr (fun k => by simp only [laws_eqSaidS.f, if_true]; rfl) (eqSaidS_l0 l hl l.length 0 (by omega))
theorem l1In_eq (n lo hi : Int) : spec_l1In.f n lo hi = some (decide (lo ≤ n ∧ n ≤ hi)) := by
 simp only [spec_l1In.f]
 by_cases h : n ≥ lo
 ·rw [if_pos h]; congr 1; simp; intro _; exact h
 ·rw [if_neg h]; congr 1; simp; intro h'; omega
theorem l1In_tells (n lo hi : Int) : Tells (fun _ => spec_l1In.f n lo hi) (lo ≤ n ∧ n ≤ hi) := by
 simp only [l1In_eq]; exact tells_some (by simp)
def needS (op : Int) : Int := if op = 1 ∨ op = 2 then 0 else if op = 3 ∨ op = 4 then 1 else if op = 5 ∨ op = 6 ∨ op = 7 ∨ op = 8 then 2 else -1
def nOk (x : S59) : Prop := if x.f0 = 1 then 0 ≤ x.f1 ∧ x.f1 ≤ 2 else if x.f0 = 2 then 0 ≤ x.f1 ∧ x.f1 ≤ 1 else x.f1 = 0
def gs : List S59 → Int → Prop
 | [], c => c = 1
 | x :: t, c => 0 ≤ needS x.f0 ∧ nOk x ∧ needS x.f0 ≤ c ∧ gs t (c + (1 - needS x.f0))
def GoodS (l : List S59) : Prop := 1 ≤ l.length ∧ l.length ≤ 16 ∧ gs l 0
theorem need_cases (op : Int) : (needS op = 0 ∧ (op = 1 ∨ op = 2)) ∨ (needS op = 1 ∧ (op = 3 ∨ op = 4)) ∨ (needS op = 2 ∧ (op = 5 ∨ op = 6 ∨ op = 7 ∨ op = 8)) ∨ (needS op = -1 ∧ op ≠ 1 ∧ op ≠ 2 ∧ op ≠ 3 ∧ op ≠ 4 ∧ op ≠ 5 ∧ op ≠ 6 ∧ op ≠ 7 ∧ op ≠ 8) := by
 unfold needS
 by_cases h1 : op = 1 ∨ op = 2
 ·rw [if_pos h1]; exact .inl ⟨rfl, h1⟩
 rw [if_neg h1]
 by_cases h2 : op = 3 ∨ op = 4
 ·rw [if_pos h2]; exact .inr (.inl ⟨rfl, h2⟩)
 rw [if_neg h2]
 by_cases h3 : op = 5 ∨ op = 6 ∨ op = 7 ∨ op = 8
 ·rw [if_pos h3]; exact .inr (.inr (.inl ⟨rfl, h3⟩))
 rw [if_neg h3]
 exact .inr (.inr (.inr ⟨rfl, by omega, by omega, by omega, by omega, by omega, by omega, by omega, by omega⟩))
theorem need_le (op : Int) : -1 ≤ needS op ∧ needS op ≤ 2 := by rcases need_cases op with ⟨h, _⟩ | ⟨h, _⟩ | ⟨h, _⟩ | ⟨h, _⟩ <;> omega
theorem l10Need_ev (op : Int) : Ev (fun k => spec_l10Need.f k op) (needS op) := by
 refine ev_from 2 (fun m => ?_)
 simp only [spec_l10Need.f, spec_l10Need.j0, spec_l10Need.j1]
 rcases need_cases op with ⟨e, h⟩ | ⟨e, h⟩ | ⟨e, h⟩ | ⟨e, h⟩ <;> rw [e]
 ·rcases h with rfl | rfl <;> simp
 ·rcases h with rfl | rfl <;> simp
 ·rcases h with rfl | rfl | rfl | rfl <;> simp
 ·simp [h]
theorem l10N_tells (x : S59) : Tells (fun _ => spec_l10N.f x.f0 x.f1) (nOk x) := by
 simp only [spec_l10N.f, nOk]
 by_cases h1 : x.f0 = 1
 ·simp only [if_pos h1]
  exact tells_ask (l1In_tells _ _ _) (fun h => tells_yes h) (fun h => tells_no h)
 simp only [if_neg h1]
 by_cases h2 : x.f0 = 2
 ·simp only [if_pos h2]
  exact tells_ask (l1In_tells _ _ _) (fun h => tells_yes h) (fun h => tells_no h)
 simp only [if_neg h2]
 exact tells_some (by simp)
theorem spec_GoodSaid_l0 (l : List S59) (hl : l.length ≤ 16) (d : Nat) : ∀ (j : Nat) (c : Int), 0 ≤ c → c ≤ j → j + d = l.length →
  Tells (fun k => spec_GoodSaid.l0 k c l (l.length : Int) (j : Int)) (gs (l.drop j) c) := by
 induction d with
 | zero =>
  intro j c h0 h1 hd
  refine tells_step (f := fun _ => some (c == 1)) (fun k => by simp only [spec_GoodSaid.l0]; rw [if_neg (by omega)]) (tells_some ?_)
  rw [List.drop_of_length_le (by omega)]; simp [gs]
 | succ d ih =>
  intro j c h0 h1 hd
  have hj : j < l.length := by omega
  have er : rd_T59 l (j : Int) = l.getD j z59 := by simp [rd_T59]
  refine tells_step (fun k => by simp only [spec_GoodSaid.l0]; rw [if_pos (by omega), if_pos (by omega), if_pos (by omega), wsucc (by omega), er]) ?_
  rw [drop_cons hj z59]
  generalize l.getD j z59 = x
  have hn := need_le x.f0
  refine tells_bind (l10Need_ev x.f0) (tells_if (fun h => tells_no (fun g => by have := g.1; omega)) (fun h => ?_))
  refine tells_ask (l10N_tells x) (fun hx => tells_pos rfl ?_) (fun hx => tells_neg (by simp) (tells_no (fun g => hx g.2.1)))
  refine tells_if (fun h2 => tells_no (fun g => by have := g.2.2.1; omega)) (fun h2 => ?_)
  rw [wid (x := 1 - needS x.f0) (by omega) (by omega), wid (by omega) (by omega)]
  exact tells_iff (ih (j + 1) _ (by omega) (by omega) (by omega)) ⟨fun g => ⟨by omega, hx, by omega, g⟩, fun g => g.2.2.2⟩
theorem spec_GoodSaid_tells (l : List S59) (hl : l.length ≤ 9223372036854775807) : Tells (fun k => spec_GoodSaid.f k l) (GoodS l) := by
 refine tells_ask (l1In_tells _ _ _) (fun h => tells_pos rfl ?_) (fun h => tells_neg (by simp) (tells_no (fun g => h ⟨by have := g.1; omega, by have := g.2.1; omega⟩)))
 exact tells_iff (spec_GoodSaid_l0 l (by omega) l.length 0 0 (by omega) (by omega) (by omega)) ⟨fun g => ⟨by omega, by omega, by simpa using g⟩, fun g => by simpa using g.2.2⟩
inductive Tr where
 | leaf (x : S59) : Tr
 | un (a : Tr) (x : S59) : Tr
 | bin (a b : Tr) (x : S59) : Tr
def post : Tr → List S59
 | .leaf x => [x]
 | .un a x => post a ++ [x]
 | .bin a b x => post a ++ (post b ++ [x])
def okT : Tr → Prop
 | .leaf x => needS x.f0 = 0 ∧ nOk x
 | .un a x => okT a ∧ needS x.f0 = 1 ∧ nOk x
 | .bin a b x => okT a ∧ okT b ∧ needS x.f0 = 2 ∧ nOk x
def posts (ts : List Tr) : List S59 := (ts.map post).flatten
theorem posts_append (a b : List Tr) : posts (a ++ b) = posts a ++ posts b := by simp [posts]
theorem posts_one (a : Tr) : posts [a] = post a := by simp [posts]
theorem posts_cons (a : Tr) (b : List Tr) : posts (a :: b) = post a ++ posts b := by simp [posts]
theorem post_pos (t : Tr) : 0 < (post t).length := by cases t <;> simp [post] <;> omega
theorem last_split {ts : List Tr} (h : 0 < ts.length) : ∃ a b, ts = a ++ [b] := by
 refine ⟨ts.dropLast, ts.getLast (by intro e; simp [e] at h), ?_⟩
 rw [List.dropLast_concat_getLast]
theorem trees_of : ∀ (l : List S59) (ts : List Tr), (∀ t ∈ ts, okT t) → gs l (ts.length : Int) → ∃ t, okT t ∧ posts ts ++ l = post t
 | [], ts, hts, h => by
  have h1 : ts.length = 1 := by have h2 : (ts.length : Int) = 1 := h; omega
  obtain ⟨t, rfl⟩ := List.length_eq_one_iff.1 h1
  exact ⟨t, hts t (by simp), by simp [posts]⟩
 | x :: l, ts, hts, h => by
  obtain ⟨h1, h2, h3, h4⟩ := h
  rcases need_cases x.f0 with ⟨e, _⟩ | ⟨e, _⟩ | ⟨e, _⟩ | ⟨e, _⟩
  ·obtain ⟨t, ht, hp⟩ := trees_of l (ts ++ [.leaf x]) (fun t ht => by
    rcases List.mem_append.1 ht with ht | ht
    ·exact hts t ht
    ·rw [List.mem_singleton.1 ht]; exact ⟨e, h2⟩) (by rw [e] at h4; simpa using h4)
   exact ⟨t, ht, by rw [← hp, posts_append, posts_one]; simp [post]⟩
  ·obtain ⟨a, b, rfl⟩ := last_split (ts := ts) (by omega)
   obtain ⟨t, ht, hp⟩ := trees_of l (a ++ [.un b x]) (fun t ht => by
    rcases List.mem_append.1 ht with ht | ht
    ·exact hts t (List.mem_append_left _ ht)
    ·rw [List.mem_singleton.1 ht]; exact ⟨hts b (by simp), e, h2⟩) (by rw [e] at h4; simpa using h4)
   exact ⟨t, ht, by rw [← hp, posts_append, posts_append, posts_one, posts_one]; simp [post]⟩
  ·obtain ⟨a0, c, rfl⟩ := last_split (ts := ts) (by omega)
   obtain ⟨a, b, rfl⟩ := last_split (ts := a0) (by simp at h3; omega)
   obtain ⟨t, ht, hp⟩ := trees_of l (a ++ [.bin b c x]) (fun t ht => by
    rcases List.mem_append.1 ht with ht | ht
    ·exact hts t (List.mem_append_left _ (List.mem_append_left _ ht))
    ·rw [List.mem_singleton.1 ht]; exact ⟨hts b (by simp), hts c (by simp), e, h2⟩) (by rw [e] at h4; simp at h4 ⊢; exact (by omega : ((a.length : Int) + 1 + 1 + -1) = (a.length : Int) + 1) ▸ h4)
   exact ⟨t, ht, by rw [← hp, posts_append, posts_append, posts_append, posts_one, posts_one, posts_one]; simp [post]⟩
  ·omega
theorem tree_of {l : List S59} (h : GoodS l) : ∃ t, okT t ∧ l = post t := by
 obtain ⟨t, ht, hp⟩ := trees_of l [] (fun t ht => by simp at ht) (by simpa using h.2.2)
 exact ⟨t, ht, by simpa [posts] using hp⟩
def At (l : List S59) (t : Tr) (i : Nat) : Prop := ∃ p s, l = p ++ (post t ++ s) ∧ p.length = i
theorem At.lt {l : List S59} {t : Tr} {i : Nat} (h : At l t i) : i + (post t).length ≤ l.length := by
 obtain ⟨p, s, rfl, rfl⟩ := h; simp <;> omega
theorem At.un {l : List S59} {a : Tr} {x : S59} {i : Nat} (h : At l (.un a x) i) : At l a i := by
 obtain ⟨p, s, rfl, rfl⟩ := h; exact ⟨p, [x] ++ s, by simp [post], rfl⟩
theorem At.left {l : List S59} {a b : Tr} {x : S59} {i : Nat} (h : At l (.bin a b x) i) : At l a i := by
 obtain ⟨p, s, rfl, rfl⟩ := h; exact ⟨p, post b ++ [x] ++ s, by simp [post], rfl⟩
theorem At.right {l : List S59} {a b : Tr} {x : S59} {i : Nat} (h : At l (.bin a b x) i) : At l b (i + (post a).length) := by
 obtain ⟨p, s, rfl, rfl⟩ := h; exact ⟨p ++ post a, [x] ++ s, by simp [post], by simp⟩
def root : Tr → S59
 | .leaf x => x
 | .un _ x => x
 | .bin _ _ x => x
theorem getD_mid {α : Type} (p m s : List α) (d : α) {j : Nat} (h : j < m.length) : (p ++ (m ++ s)).getD (p.length + j) d = m.getD j d := by
 rw [List.getD_eq_getElem?_getD, List.getElem?_append_right (by omega), List.getElem?_append_left (by omega), List.getD_eq_getElem?_getD]
 congr 2; omega
theorem post_last (t : Tr) (d : S59) : (post t).getD ((post t).length - 1) d = root t := by
 cases t <;> simp [post, root, List.getD_eq_getElem?_getD]
theorem At.root {l : List S59} {t : Tr} {i : Nat} (h : At l t i) (d : S59) : l.getD (i + (post t).length - 1) d = root t := by
 obtain ⟨p, s, rfl, rfl⟩ := h
 have hp := post_pos t
 rw [show p.length + (post t).length - 1 = p.length + ((post t).length - 1) from by omega, getD_mid _ _ _ _ (by omega), post_last]
theorem At.whole (t : Tr) : At (post t) t 0 := ⟨[], [], by simp, rfl⟩
theorem rdS (l : List S59) (i : Nat) : rd_T59 l (i : Int) = l.getD i z59 := by simp [rd_T59]
theorem At.un_root {l : List S59} {a : Tr} {x : S59} {i : Nat} (h : At l (.un a x) i) : i + (post a).length < l.length ∧ l.getD (i + (post a).length) z59 = x := by
 have h1 := h.lt
 have h2 := h.root z59
 simp only [post, List.length_append, List.length_singleton] at h1 h2
 rw [show i + ((post a).length + 1) - 1 = i + (post a).length from by omega] at h2
 exact ⟨by omega, h2⟩
theorem At.bin_root {l : List S59} {a b : Tr} {x : S59} {i : Nat} (h : At l (.bin a b x) i) : i + (post a).length + (post b).length < l.length ∧ l.getD (i + (post a).length + (post b).length) z59 = x := by
 have h1 := h.lt
 have h2 := h.root z59
 simp only [post, List.length_append, List.length_singleton] at h1 h2
 rw [show i + ((post a).length + ((post b).length + 1)) - 1 = i + (post a).length + (post b).length from by omega] at h2
 exact ⟨by omega, h2⟩
theorem At.leaf_root {l : List S59} {x : S59} {i : Nat} (h : At l (.leaf x) i) : i < l.length ∧ l.getD i z59 = x := by
 have h1 := h.lt
 have h2 := h.root z59
 simp only [post, List.length_singleton, Nat.add_sub_cancel] at h1 h2
 exact ⟨by omega, h2⟩
theorem last_un (a : Tr) (x : S59) (i : Nat) : i + (post (.un a x)).length - 1 = i + (post a).length := by simp [post]
theorem last_bin (a b : Tr) (x : S59) (i : Nat) : i + (post (.bin a b x)).length - 1 = i + (post a).length + (post b).length := by simp [post]; omega
theorem l10From_ev (l : List S59) (hl : l.length ≤ 1048576) : ∀ (t : Tr) (i : Nat), okT t → At l t i → Ev (fun k => spec_l10From.f k l ((i + (post t).length - 1 : Nat) : Int)) (i : Int)
 | .leaf x, i, ok, h => by
  obtain ⟨h1, h2⟩ := h.leaf_root
  rw [show i + (post (.leaf x)).length - 1 = i from by simp [post]]
  refine Ev.step (fun k => by simp only [spec_l10From.f]; rw [if_pos (by omega), if_pos (by omega), rdS, h2]) ?_
  refine Ev.bind (l10Need_ev _) ?_
  rw [show needS x.f0 = 0 from ok.1]
  exact Ev.step (f := fun _ => some (i : Int)) (fun k => by simp only [spec_l10From.l0]; rw [if_neg (by omega)]) (Ev.now _)
 | .un a x, i, ok, h => by
  obtain ⟨h1, h2⟩ := h.un_root
  have ha := post_pos a
  rw [last_un]
  refine Ev.step (fun k => by simp only [spec_l10From.f]; rw [if_pos (by omega), if_pos (by omega), rdS, h2]) ?_
  refine Ev.bind (l10Need_ev _) ?_
  rw [show needS x.f0 = 1 from ok.2.1]
  refine Ev.step (fun k => by simp only [spec_l10From.l0]; rw [if_pos (by omega), wpred (by omega) (by omega)]) ?_
  refine Ev.bind (l10From_ev l hl a i ok.1 h.un) ?_
  exact Ev.step (f := fun _ => some (i : Int)) (fun k => by simp only [spec_l10From.l0]; rw [if_neg (by unfold wrap64; omega)]) (Ev.now _)
 | .bin a b x, i, ok, h => by
  obtain ⟨h1, h2⟩ := h.bin_root
  have ha := post_pos a
  have hb := post_pos b
  rw [last_bin]
  refine Ev.step (fun k => by simp only [spec_l10From.f]; rw [if_pos (by omega), if_pos (by omega), rdS, h2]) ?_
  refine Ev.bind (l10Need_ev _) ?_
  rw [show needS x.f0 = 2 from ok.2.2.1]
  refine Ev.step (fun k => by simp only [spec_l10From.l0]; rw [if_pos (by omega), wpred (by omega) (by omega)]) ?_
  refine Ev.bind (l10From_ev l hl b (i + (post a).length) ok.2.1 h.right) ?_
  refine Ev.step (fun k => by simp only [spec_l10From.l0]; rw [if_pos (by unfold wrap64; omega), wpred (by omega) (by omega)]) ?_
  refine Ev.bind (l10From_ev l hl a i ok.1 h.left) ?_
  exact Ev.step (f := fun _ => some (i : Int)) (fun k => by simp only [spec_l10From.l0]; rw [if_neg (by unfold wrap64; omega)]) (Ev.now _)
def opp (n : Bool) (op : Int) : Int := if n = true then (if op = 5 then 6 else if op = 6 then 5 else if op = 7 then 8 else 7) else op
def pushT : Tr → Bool → List S59
 | .leaf x, n => if n = true then (if x.f0 = 1 then [x, ⟨3, 0⟩] else [⟨2, 1 - x.f1⟩]) else [x]
 | .un a x, n => if x.f0 = 3 then pushT a (!n) else pushT a n ++ [⟨4, 0⟩]
 | .bin a b x, n => pushT a n ++ (pushT b n ++ [⟨opp n x.f0, 0⟩])
theorem pushT_len : ∀ (t : Tr) (n : Bool), (pushT t n).length ≤ 2 * (post t).length
 | .leaf x, n => by
  simp only [pushT, post, List.length_singleton]
  split
  ·split <;> simp
  ·simp
 | .un a x, n => by
  have h1 := pushT_len a n
  have h2 := pushT_len a (!n)
  simp only [pushT, post, List.length_append, List.length_singleton]
  split
  ·omega
  ·rw [List.length_append, List.length_singleton]; omega
 | .bin a b x, n => by
  have h1 := pushT_len a n
  have h2 := pushT_len b n
  simp only [pushT, post, List.length_append, List.length_singleton]
  omega
theorem leaf_of {x : S59} (h : okT (.leaf x)) : (x.f0 = 1 ∨ x.f0 = 2) ∧ -1 ≤ x.f1 ∧ x.f1 ≤ 2 := by
 obtain ⟨h1, h2⟩ := h
 rcases need_cases x.f0 with ⟨_, e⟩ | ⟨e, _⟩ | ⟨e, _⟩ | ⟨e, _⟩
 ·refine ⟨e, ?_⟩
  unfold nOk at h2
  split at h2
  ·omega
  ·split at h2 <;> omega
 all_goals omega
theorem un_of {a : Tr} {x : S59} (h : okT (.un a x)) : (x.f0 = 3 ∨ x.f0 = 4) ∧ x.f1 = 0 := by
 obtain ⟨_, h1, h2⟩ := h
 rcases need_cases x.f0 with ⟨e, _⟩ | ⟨_, e⟩ | ⟨e, _⟩ | ⟨e, _⟩
 ·omega
 ·refine ⟨e, ?_⟩
  unfold nOk at h2
  rw [if_neg (by omega), if_neg (by omega)] at h2; exact h2
 all_goals omega
theorem bin_of {a b : Tr} {x : S59} (h : okT (.bin a b x)) : (x.f0 = 5 ∨ x.f0 = 6 ∨ x.f0 = 7 ∨ x.f0 = 8) ∧ x.f1 = 0 := by
 obtain ⟨_, _, h1, h2⟩ := h
 rcases need_cases x.f0 with ⟨e, _⟩ | ⟨e, _⟩ | ⟨_, e⟩ | ⟨e, _⟩
 ·omega
 ·omega
 ·refine ⟨e, ?_⟩
  unfold nOk at h2
  rw [if_neg (by omega), if_neg (by omega)] at h2; exact h2
 ·omega
theorem At.seg {l : List S59} {t : Tr} {i : Nat} (h : At l t i) : (l.take (i + (post t).length)).drop i = post t := by
 obtain ⟨p, s, rfl, rfl⟩ := h
 rw [← List.append_assoc, List.take_left' (by rw [List.length_append]), List.drop_left' rfl]
def sgn (op : Int) : ByteArray := (⟨#[32, 32, 32, 33, 88, 38, 124, 85, 82]⟩ : ByteArray).extract op.toNat (op + 1).toNat
def atomB (op n : Int) : ByteArray := if op = 1 then (⟨#[112, 113, 114]⟩ : ByteArray).extract n.toNat (n + 1).toNat else (⟨#[48, 49]⟩ : ByteArray).extract n.toNat (n + 1).toNat
def textT : Tr → ByteArray
 | .leaf x => atomB x.f0 x.f1
 | .un a x => sgn x.f0 ++ textT a
 | .bin a b x => (((⟨#[40]⟩ : ByteArray) ++ textT a) ++ sgn x.f0) ++ textT b ++ (⟨#[41]⟩ : ByteArray)
theorem sgn_size {op : Int} (h0 : 0 ≤ op) (h1 : op ≤ 8) : (sgn op).size = 1 := by
 unfold sgn
 rw [ByteArray.size_extract]
 show min _ 9 - _ = 1
 omega
theorem leaf_n {x : S59} (h : okT (.leaf x)) : (x.f0 = 1 ∧ 0 ≤ x.f1 ∧ x.f1 ≤ 2) ∨ (x.f0 = 2 ∧ 0 ≤ x.f1 ∧ x.f1 ≤ 1) := by
 obtain ⟨h1, h2⟩ := h
 rcases need_cases x.f0 with ⟨_, e⟩ | ⟨e, _⟩ | ⟨e, _⟩ | ⟨e, _⟩
 ·unfold nOk at h2
  rcases e with e | e
  ·rw [if_pos e] at h2; exact .inl ⟨e, h2⟩
  ·rw [if_neg (by omega), if_pos e] at h2; exact .inr ⟨e, h2⟩
 all_goals omega
theorem atomB_size {x : S59} (h : okT (.leaf x)) : (atomB x.f0 x.f1).size = 1 := by
 unfold atomB
 rcases leaf_n h with ⟨e, h0, h1⟩ | ⟨e, h0, h1⟩
 ·rw [if_pos e, ByteArray.size_extract]
  show min _ 3 - _ = 1
  omega
 ·rw [if_neg (by omega), ByteArray.size_extract]
  show min _ 2 - _ = 1
  omega
theorem textT_size : ∀ t : Tr, okT t → (textT t).size ≤ 3 * (post t).length
 | .leaf x, h => by rw [textT, atomB_size h]; simp [post]
 | .un a x, h => by
  have h1 := textT_size a h.1
  have h2 := un_of h
  rw [textT, ByteArray.size_append, sgn_size (by omega) (by omega)]
  simp only [post, List.length_append, List.length_singleton]; omega
 | .bin a b x, h => by
  have h1 := textT_size a h.1
  have h2 := textT_size b h.2.1
  have h3 := bin_of h
  rw [textT, ByteArray.size_append, ByteArray.size_append, ByteArray.size_append, ByteArray.size_append, sgn_size (by omega) (by omega)]
  simp only [post, List.length_append, List.length_singleton]
  show 1 + _ + 1 + _ + 1 ≤ _
  omega
theorem sg3 : (⟨#[33]⟩ : ByteArray) = sgn 3 := by decide +kernel
theorem sg4 : (⟨#[88]⟩ : ByteArray) = sgn 4 := by decide +kernel
theorem sg5 : (⟨#[38, 124, 85, 82]⟩ : ByteArray).extract 0 1 = sgn 5 := by decide +kernel
theorem sg6 : (⟨#[38, 124, 85, 82]⟩ : ByteArray).extract 1 2 = sgn 6 := by decide +kernel
theorem sg7 : (⟨#[38, 124, 85, 82]⟩ : ByteArray).extract 2 3 = sgn 7 := by decide +kernel
theorem sg8 : (⟨#[38, 124, 85, 82]⟩ : ByteArray).extract 3 4 = sgn 8 := by decide +kernel
theorem at1 : ∀ n : Nat, n < 3 → strOfNums [wrap64 (112 + (n : Int)) % 256] = atomB 1 n := by decide +kernel
theorem at2 : ∀ n : Nat, n < 2 → strOfNums [IntKind.u64.wrap (48 + IntKind.u64.wrap (n : Int)) % 256] = atomB 2 n := by decide +kernel
theorem at3 : ∀ n : Nat, n < 2 → IntKind.u64.wrap (n : Int) < 10 := by decide +kernel
theorem l10Text_ev (l : List S59) (hl : l.length ≤ 1048576) : ∀ (t : Tr) (i : Nat), okT t → At l t i → Ev (fun k => spec_l10Text.f k l ((i + (post t).length - 1 : Nat) : Int)) (textT t)
 | .leaf x, i, ok, h => by
  obtain ⟨h1, h2⟩ := h.leaf_root
  rw [show i + (post (.leaf x)).length - 1 = i from by simp [post]]
  refine Ev.step (fun k => by simp only [spec_l10Text.f]; rw [if_pos (by omega), if_pos (by omega), rdS, h2]) ?_
  rcases leaf_n ok with ⟨e, n0, n1⟩ | ⟨e, n0, n1⟩
  ·obtain ⟨n, hn⟩ := Int.eq_ofNat_of_zero_le n0
   refine ev_pos e (ev_eq (Ev.now _) ?_)
   rw [textT, e, hn]; exact at1 n (by omega)
  ·obtain ⟨n, hn⟩ := Int.eq_ofNat_of_zero_le n0
   refine ev_neg (by omega) (ev_pos e ?_)
   refine Ev.bind (a := atomB x.f0 x.f1) ?_ (Ev.now _)
   rw [hn]
   refine Ev.step (f := fun _ => some (strOfNums [IntKind.u64.wrap (48 + IntKind.u64.wrap (n : Int)) % 256])) (fun k => by rw [spec_l1Num.f, if_pos (at3 n (by omega))]) (ev_eq (Ev.now _) ?_)
   rw [e]; exact at2 n (by omega)
 | .un a x, i, ok, h => by
  obtain ⟨h1, h2⟩ := h.un_root
  obtain ⟨hx, hx1⟩ := un_of ok
  have ha := post_pos a
  have hs := textT_size a ok.1
  have hlt := h.un.lt
  rw [last_un]
  refine Ev.step (fun k => by simp only [spec_l10Text.f]; rw [if_pos (by omega), if_pos (by omega), rdS, h2, wpred (by omega) (by omega)]) ?_
  have ih := l10Text_ev l hl a i ok.1 h.un
  refine ev_neg (by omega) (ev_neg (by omega) ?_)
  by_cases h3 : x.f0 = 3
  ·exact ev_pos h3 (Ev.bind ih (ev_pos (by omega) (ev_eq (Ev.now _) (by rw [textT, h3, sg3]))))
  ·exact ev_neg h3 (ev_pos (by omega) (Ev.bind ih (ev_pos (by omega) (ev_eq (Ev.now _) (by rw [textT, show x.f0 = 4 by omega, sg4])))))
 | .bin a b x, i, ok, h => by
  obtain ⟨h1, h2⟩ := h.bin_root
  obtain ⟨hx, hx1⟩ := bin_of ok
  have ha := post_pos a
  have hb := post_pos b
  have sa := textT_size a ok.1
  have sb := textT_size b ok.2.1
  have la := h.left.lt
  have lb := h.right.lt
  rw [last_bin]
  refine Ev.step (fun k => by simp only [spec_l10Text.f]; rw [if_pos (by omega), if_pos (by omega), rdS, h2, wpred (by omega) (by omega)]) ?_
  refine ev_neg (by omega) (ev_neg (by omega) (ev_neg (by omega) (ev_neg (by omega) ?_)))
  have fB := l10From_ev l hl b (i + (post a).length) ok.2.1 h.right
  have pA := l10Text_ev l hl a i ok.1 h.left
  have pB := l10Text_ev l hl b (i + (post a).length) ok.2.1 h.right
  have w1 : wrap64 (((i + (post a).length : Nat) : Int) - 1) = ((i + (post a).length - 1 : Nat) : Int) := wpred (by omega) (by omega)
  have e1 : wrap64 (x.f0 - 5) = x.f0 - 5 := wid (by omega) (by omega)
  have e2 : wrap64 (x.f0 - 5 + 1) = x.f0 - 4 := by rw [wid (by omega) (by omega)]; omega
  have e3 : (⟨#[38, 124, 85, 82]⟩ : ByteArray).extract (x.f0 - 5).toNat (x.f0 - 4).toNat = sgn x.f0 := by
   rcases hx with e | e | e | e <;> rw [e]
   ·exact sg5
   ·exact sg6
   ·exact sg7
   ·exact sg8
  have sz := sgn_size (op := x.f0) (by omega) (by omega)
  have s40 : (⟨#[40]⟩ : ByteArray).size = 1 := rfl
  refine Ev.bind fB ?_
  rw [w1]
  refine Ev.bind pA (ev_pos (by omega) ?_)
  rw [e1, e2, e3]
  refine ev_pos (by omega) (ev_pos (by omega) (ev_pos (by omega) (ev_pos (by rw [ByteArray.size_append]; omega) ?_)))
  refine Ev.bind pB (ev_pos (by rw [ByteArray.size_append, ByteArray.size_append]; omega) (ev_pos (by rw [ByteArray.size_append, ByteArray.size_append, ByteArray.size_append]; omega) (ev_eq (Ev.now _) ?_)))
  rw [textT]
theorem operandsOfSaid_ev (op : Int) : Ev (fun k => impl_operandsOfSaid.f k op) (needS op) := by
 refine ev_from 2 (fun m => ?_)
 simp only [impl_operandsOfSaid.f, impl_operandsOfSaid.j0, impl_operandsOfSaid.j1]
 rcases need_cases op with ⟨e, h⟩ | ⟨e, h⟩ | ⟨e, h⟩ | ⟨e, h⟩ <;> rw [e]
 ·rcases h with rfl | rfl <;> simp
 ·rcases h with rfl | rfl <;> simp
 ·rcases h with rfl | rfl | rfl | rfl <;> simp
 ·simp [h]
theorem isSaid_tells (x : S59) : Tells (fun k => impl_isSaid.f k x.f0 x.f1) (0 ≤ needS x.f0 ∧ nOk x) := by
 simp only [impl_isSaid.f, nOk]
 rcases need_cases x.f0 with ⟨e, h⟩ | ⟨e, h⟩ | ⟨e, h⟩ | ⟨e, h⟩
 ·rcases h with h | h
  ·simp only [h, if_true]
   refine tells_if (fun h1 => tells_some ?_) (fun h1 => tells_no (fun g => by have := g.2.1; omega))
   simp [needS]; omega
  ·simp only [h, if_neg (show ¬ ((2 : Int) = 1) by decide), if_true]
   refine tells_if (fun h1 => tells_yes ⟨by simp [needS], by omega, by omega⟩) (fun h1 => tells_some ?_)
   simp [needS]; omega
 ·have h1 : ¬ (x.f0 = 1) := by omega
  have h2 : ¬ (x.f0 = 2) := by omega
  simp only [if_neg h1, if_neg h2]
  refine tells_bind (operandsOfSaid_ev x.f0) (tells_pos (by omega) (tells_some ?_))
  simp [e]
 ·have h1 : ¬ (x.f0 = 1) := by omega
  have h2 : ¬ (x.f0 = 2) := by omega
  simp only [if_neg h1, if_neg h2]
  refine tells_bind (operandsOfSaid_ev x.f0) (tells_pos (by omega) (tells_some ?_))
  simp [e]
 ·simp only [if_neg h.1, if_neg h.2.1]
  refine tells_bind (operandsOfSaid_ev x.f0) (tells_neg (by omega) (tells_no (fun g => by omega)))
theorem impl_GoodSaid_l0 (l : List S59) (hl : l.length ≤ 16) (d : Nat) : ∀ (j : Nat) (c : Int), 0 ≤ c → c ≤ j → j + d = l.length →
  Tells (fun k => impl_GoodSaid.l0 k c l (l.length : Int) (j : Int)) (gs (l.drop j) c) := by
 induction d with
 | zero =>
  intro j c h0 h1 hd
  refine tells_step (f := fun _ => some (c == 1)) (fun k => by simp only [impl_GoodSaid.l0]; rw [if_neg (by omega)]) (tells_some ?_)
  rw [List.drop_of_length_le (by omega)]; simp [gs]
 | succ d ih =>
  intro j c h0 h1 hd
  have hj : j < l.length := by omega
  have er : rd_T59 l (j : Int) = l.getD j z59 := by simp [rd_T59]
  refine tells_step (fun k => by simp only [impl_GoodSaid.l0]; rw [if_pos (by omega), if_pos (by omega), if_pos (by omega), wsucc (by omega), er]) ?_
  rw [drop_cons hj z59]
  generalize l.getD j z59 = x
  have hn := need_le x.f0
  refine tells_bind (operandsOfSaid_ev x.f0) ?_
  refine tells_ask (isSaid_tells x) (fun hx => tells_pos rfl ?_) (fun hx => tells_neg (by simp) (tells_no (fun g => hx ⟨g.1, g.2.1⟩)))
  refine tells_if (fun h2 => tells_no (fun g => by have := g.2.2.1; omega)) (fun h2 => ?_)
  rw [wid (x := 1 - needS x.f0) (by omega) (by omega), wid (by omega) (by omega)]
  exact tells_iff (ih (j + 1) _ (by omega) (by omega) (by omega)) ⟨fun g => ⟨hx.1, hx.2, by omega, g⟩, fun g => g.2.2.2⟩
theorem impl_GoodSaid_tells (l : List S59) (hl : l.length ≤ 9223372036854775807) : Tells (fun k => impl_GoodSaid.f k l) (GoodS l) := by
 refine tells_if (fun h => ?_) (fun h => ?_)
 ·exact tells_step (f := fun _ => some false) (fun k => by simp only [impl_GoodSaid.j0, if_true]) (tells_no (fun g => by have := g.1; omega))
 ·by_cases h2 : (l.length : Int) > 16
  ·exact tells_step (f := fun _ => some false) (fun k => by simp only [impl_GoodSaid.j0]; rw [if_pos (by simpa using h2)]) (tells_no (fun g => by have := g.2.1; omega))
  ·refine tells_step (f := fun k => impl_GoodSaid.l0 k 0 l (l.length : Int) 0) (fun k => by simp only [impl_GoodSaid.j0]; rw [if_neg (by simpa using h2)]) ?_
   exact tells_iff (impl_GoodSaid_l0 l (by omega) l.length 0 0 (by omega) (by omega) (by omega)) ⟨fun g => ⟨by omega, by omega, by simpa using g⟩, fun g => by simpa using g.2.2⟩
section
variable {l : List S59} (hl : l.length ≤ 16) {r : ByteArray × Bool}
include hl
theorem txt_leaf {j : Nat} (hj : j < l.length) {x : S59} (hx : l.getD j z59 = x) (ok : okT (.leaf x)) (st : List ByteArray) (hs : st.length ≤ 16)
  (h : Ev (fun k => impl_SaidText.l0 k (st ++ [atomB x.f0 x.f1]) l (l.length : Int) ((j + 1 : Nat) : Int)) r) : Ev (fun k => impl_SaidText.l0 k st l (l.length : Int) (j : Int)) r := by
 have er : rd_T59 l (j : Int) = x := by rw [rdS, hx]
 have hn := leaf_n ok
 have e1 : wrap64 (x.f0 + 1) = x.f0 + 1 := wid (by omega) (by omega)
 have e2 : wrap64 (x.f1 + 1) = x.f1 + 1 := wid (by omega) (by omega)
 refine Ev.step (fun k => by rw [impl_SaidText.l0, if_pos (by omega), if_pos (by omega), if_pos (by omega), er, e1, e2, if_pos (by omega), if_pos (by omega), if_pos (by omega), wsucc (by omega)]) ?_
 refine Ev.bind (operandsOfSaid_ev _) ?_
 rw [show needS x.f0 = 0 from ok.1]
 refine ev_pos rfl ?_
 rcases hn with ⟨e, n0, n1⟩ | ⟨e, n0, n1⟩
 ·refine Ev.bind (a := (⟨#[112, 113, 114]⟩ : ByteArray)) (ev_const (by rw [mapAt.f, if_pos e])) (ev_pos n0 (ev_pos (by omega) (ev_pos (by show x.f1 + 1 ≤ ((3 : Nat) : Int); omega) (ev_pos (by omega) ?_))))
  rw [atomB, if_pos e] at h; exact h
 ·refine Ev.bind (a := (⟨#[48, 49]⟩ : ByteArray)) (ev_const (by rw [mapAt.f, if_neg (by omega), if_pos e])) (ev_pos n0 (ev_pos (by omega) (ev_pos (by show x.f1 + 1 ≤ ((2 : Nat) : Int); omega) (ev_pos (by omega) ?_))))
  rw [atomB, if_neg (by omega)] at h; exact h
theorem txt_un {j : Nat} (hj : j < l.length) {a : Tr} {x : S59} (hx : l.getD j z59 = x) (ok : okT (.un a x)) (st : List ByteArray) (hs : st.length ≤ 16) (ta : ByteArray) (hta : ta.size ≤ 1000)
  (h : Ev (fun k => impl_SaidText.l0 k (st ++ [sgn x.f0 ++ ta]) l (l.length : Int) ((j + 1 : Nat) : Int)) r) : Ev (fun k => impl_SaidText.l0 k (st ++ [ta]) l (l.length : Int) (j : Int)) r := by
 have er : rd_T59 l (j : Int) = x := by rw [rdS, hx]
 obtain ⟨hn, _⟩ := un_of ok
 have e1 : wrap64 (x.f0 + 1) = x.f0 + 1 := wid (by omega) (by omega)
 have el : ((st ++ [ta]).length : Int) = (st.length : Int) + 1 := by rw [List.length_append, List.length_singleton]; omega
 have e2 : wrap64 ((st.length : Int) + 1 - 1) = (st.length : Int) := by rw [wid (by omega) (by omega)]; omega
 have e3 : rdOf ByteArray.empty (st ++ [ta]) (st.length : Int) = ta := by simp [rdOf]
 have e4 : (st ++ [ta]).set ((st.length : Int)).toNat (sgn x.f0 ++ ta) = st ++ [sgn x.f0 ++ ta] := by simp
 have sz := sgn_size (op := x.f0) (by omega) (by omega)
 refine Ev.step (fun k => by rw [impl_SaidText.l0, if_pos (by omega), if_pos (by omega), if_pos (by omega), er, e1, if_pos (by omega), if_pos (by omega), if_pos (by omega), wsucc (by omega), el, e2, e3]) ?_
 refine Ev.bind (operandsOfSaid_ev _) ?_
 rw [show needS x.f0 = 1 from ok.2.1]
 refine ev_neg (by omega) (ev_pos rfl (ev_pos (by omega) (ev_pos (by omega) (ev_pos (by show (sgn x.f0).size + ta.size ≤ _; omega) ?_))))
 show Ev (fun k => impl_SaidText.l0 k ((st ++ [ta]).set ((st.length : Int)).toNat (sgn x.f0 ++ ta)) l (l.length : Int) ((j + 1 : Nat) : Int)) r
 rw [e4]; exact h
theorem txt_bin {j : Nat} (hj : j < l.length) {a b : Tr} {x : S59} (hx : l.getD j z59 = x) (ok : okT (.bin a b x)) (st : List ByteArray) (hs : st.length ≤ 16) (ta tb : ByteArray) (hta : ta.size ≤ 1000) (htb : tb.size ≤ 1000)
  (h : Ev (fun k => impl_SaidText.l0 k (st ++ [(((⟨#[40]⟩ : ByteArray) ++ ta) ++ sgn x.f0) ++ tb ++ (⟨#[41]⟩ : ByteArray)]) l (l.length : Int) ((j + 1 : Nat) : Int)) r) : Ev (fun k => impl_SaidText.l0 k (st ++ [ta, tb]) l (l.length : Int) (j : Int)) r := by
 have er : rd_T59 l (j : Int) = x := by rw [rdS, hx]
 obtain ⟨hn, _⟩ := bin_of ok
 have e1 : wrap64 (x.f0 + 1) = x.f0 + 1 := wid (by omega) (by omega)
 have el : ((st ++ [ta, tb]).length : Int) = (st.length : Int) + 2 := by rw [List.length_append]; simp
 have e2 : wrap64 ((st.length : Int) + 2 - 1) = ((st.length + 1 : Nat) : Int) := by rw [wid (by omega) (by omega)]; omega
 have e2' : wrap64 (((st.length + 1 : Nat) : Int) - 1) = (st.length : Int) := by rw [wid (by omega) (by omega)]; omega
 have e3 : rdOf ByteArray.empty (st ++ [ta, tb]) (st.length : Int) = ta := by simp [rdOf]
 have e3' : rdOf ByteArray.empty (st ++ [ta, tb]) ((st.length + 1 : Nat) : Int) = tb := by
  unfold rdOf
  rw [Int.toNat_natCast, List.getD_eq_getElem?_getD, List.getElem?_append_right (by omega), show st.length + 1 - st.length = 1 by omega]; rfl
 have e4 : (st ++ [ta, tb]).take ((st.length : Int)).toNat = st := by simp
 have sz := sgn_size (op := x.f0) (by omega) (by omega)
 have s40 : (⟨#[40]⟩ : ByteArray).size = 1 := rfl
 refine Ev.step (fun k => by rw [impl_SaidText.l0, if_pos (by omega), if_pos (by omega), if_pos (by omega), er, e1, if_pos (by omega), if_pos (by omega), if_pos (by omega), wsucc (by omega), el, e2, e2', e3, e3', e4]) ?_
 refine Ev.bind (operandsOfSaid_ev _) ?_
 rw [show needS x.f0 = 2 from ok.2.2.1]
 refine ev_neg (by omega) (ev_neg (by omega) (ev_pos (by omega) (ev_pos (by omega) (ev_pos (by omega) ?_))))
 refine ev_pos (by show ((⟨#[40]⟩ : ByteArray) ++ ta).size + (sgn x.f0).size ≤ _; rw [ByteArray.size_append]; omega) (ev_pos (by omega) (ev_pos (by omega) (ev_pos (by omega) (Ev.bind (Ev.now _) ?_))))
 refine ev_pos (by show (((⟨#[40]⟩ : ByteArray) ++ ta) ++ sgn x.f0).size + tb.size ≤ _; rw [ByteArray.size_append, ByteArray.size_append]; omega) (ev_pos (by show ((((⟨#[40]⟩ : ByteArray) ++ ta) ++ sgn x.f0) ++ tb).size + 1 ≤ _; rw [ByteArray.size_append, ByteArray.size_append, ByteArray.size_append]; omega) (ev_pos (by omega) ?_))
 exact h
theorem txt_tree : ∀ (t : Tr) (i : Nat) (st : List ByteArray), okT t → At l t i → st.length ≤ i → Ev (fun k => impl_SaidText.l0 k (st ++ [textT t]) l (l.length : Int) ((i + (post t).length : Nat) : Int)) r → Ev (fun k => impl_SaidText.l0 k st l (l.length : Int) (i : Int)) r
 | .leaf x, i, st, ok, h, hs, hr => by
  obtain ⟨h1, h2⟩ := h.leaf_root
  rw [show i + (post (.leaf x)).length = i + 1 from by simp [post]] at hr
  exact txt_leaf hl h1 h2 ok st (by omega) hr
 | .un a x, i, st, ok, h, hs, hr => by
  obtain ⟨h1, h2⟩ := h.un_root
  have hz := textT_size a ok.1
  have hlt := h.un.lt
  rw [show i + (post (.un a x)).length = i + (post a).length + 1 from by simp [post]; omega] at hr
  exact txt_tree a i st ok.1 h.un hs (txt_un hl h1 h2 ok st (by omega) _ (by omega) hr)
 | .bin a b x, i, st, ok, h, hs, hr => by
  obtain ⟨h1, h2⟩ := h.bin_root
  have ha := post_pos a
  have za := textT_size a ok.1
  have zb := textT_size b ok.2.1
  have la := h.left.lt
  have lb := h.right.lt
  rw [show i + (post (.bin a b x)).length = i + (post a).length + (post b).length + 1 from by simp [post]; omega] at hr
  refine txt_tree a i st ok.1 h.left hs (txt_tree b (i + (post a).length) (st ++ [textT a]) ok.2.1 h.right (by rw [List.length_append, List.length_singleton]; omega) ?_)
  rw [show st ++ [textT a] ++ [textT b] = st ++ [textT a, textT b] from by simp]
  exact txt_bin hl h1 h2 ok st (by omega) _ _ (by omega) (by omega) hr
end
theorem SaidText_both (l : List S59) (hl : l.length ≤ 9223372036854775807) : ∃ r, Ev (fun k => spec_SaidText.f k l) r ∧ Ev (fun k => impl_SaidText.f k l) r := by
 by_cases hg : GoodS l
 ·obtain ⟨t, ok, rfl⟩ := tree_of hg
  have h16 := hg.2.1
  have hp := post_pos t
  refine ⟨(textT t, true), Ev.bind (tells_ev (spec_GoodSaid_tells _ hl) hg) (ev_pos rfl ?_), Ev.bind (tells_ev (impl_GoodSaid_tells _ hl) hg) (ev_pos rfl ?_)⟩
  ·rw [wpred hp (by omega)]
   have := l10Text_ev (post t) (by omega) t 0 ok (At.whole t)
   rw [Nat.zero_add] at this
   exact Ev.bind this (Ev.now _)
  ·refine txt_tree h16 t 0 [] ok (At.whole t) (by simp) ?_
   exact Ev.step (f := fun _ => some (textT t, true)) (fun k => by rw [impl_SaidText.l0, if_neg (by omega), if_pos (by simp)]; simp [rdOf]) (Ev.now _)
 ·exact ⟨((⟨#[]⟩ : ByteArray), false), Ev.bind (tells_ev_not (spec_GoodSaid_tells l hl) hg) (ev_neg (by simp) (Ev.now _)), Ev.bind (tells_ev_not (impl_GoodSaid_tells l hl) hg) (ev_neg (by simp) (Ev.now _))⟩

theorem FnExactSaidText : ∀ (l0 : List (S62)), (l0.length ≤ 9223372036854775807 ∧ ∀ x ∈ l0, (In64 x.f0) ∧ (In64 x.f1)) → ∃ k, laws_FnExactSaidText.f k l0 = some true := by
  intro l hg
  refine Ev.rounds ?_
  refine Ev.bind (ev_const (szSaidS_eq l hg.1)) ?_
  by_cases h : l.length ≤ 1048576
  · rw [if_pos h]
    refine ev_neg (by omega) ?_
    have hm : (l.map cSaid).length ≤ 9223372036854775807 := by simp; omega
    obtain ⟨b, hb, hb'⟩ := SaidText_both _ hm
    refine Ev.bind (toSaidS_ev l h) (Ev.bind hb (Ev.bind (toSaidS_ev l h) (Ev.bind hb' (ev_pos rfl ?_))))
    refine Ev.step (fun k => by simp only [laws_FnExactSaidText.j0]; rw [if_neg (by simp)]) ?_
    exact Ev.bind (toSaidS_ev l h) (Ev.bind (eqSaidS_ev _ hm) (ev_pos rfl (Ev.now _)))
  · rw [if_neg h]
    exact ev_pos (by omega) (Ev.now _)

end Go.Proofs.Ytaacldndbjmekaa.Pure
