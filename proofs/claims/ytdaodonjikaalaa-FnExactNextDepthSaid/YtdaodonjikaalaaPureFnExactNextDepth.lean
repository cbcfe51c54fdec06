/- The pure statement of the law FnExactNextDepth: what the printed functions compute makes the law true, for every input. No condition. -/
import Derived.Test.YtdaodonjikaalaaOpen
import Derived.Test.YtdaodonjikaalaaAid
import Derived.Test.YtdaodonjikaalaaP55
set_option linter.unusedVariables false
set_option linter.unusedSimpArgs false
namespace Go.Proofs.Ytdaodonjikaalaa.Pure
open Go.RowKit Go.Proofs.YtdaodonjikaalaaW.PrintWords Go.Proofs.Ytdaodonjikaalaa.P Go.Proofs.Ytdaodonjikaalaa.Open Go.Proofs.Ytdaodonjikaalaa.Aid
-- LEMMAS
theorem szSaidS_eq (l : List S88) (hl : l.length ≤ 9223372036854775807) : laws_szSaidS.f l 1048576 = some (if l.length ≤ 1048576 then 1048576 - (l.length : Int) else -1) := by
  have e : wrap64 (1048576 - (l.length : Int)) = 1048576 - l.length := wid (by omega) (by omega)
  simp only [laws_szSaidS.f]
  rw [e]
  by_cases h : l.length ≤ 1048576
  · rw [if_neg (by omega), if_pos h]
  · rw [if_pos (by omega), if_neg h]

def cSaid (x : S88) : S85 := ⟨x.f0, x.f1⟩
theorem toSaidS_l0 (l : List S88) (hl : l.length ≤ 1048576) (d : Nat) : ∀ (j : Nat) (y : List S85), y.length = l.length → j + d = l.length → Ev (fun k => laws_toSaidS.l0 k l y (j : Int)) (y.take j ++ (l.map cSaid).drop j) := by
  induction d with
  | zero =>
    intro j y hy hd
    rw [take_all_drop (xs := y) (ys := l.map cSaid) (by simpa using hy) (by simp; omega)]
    exact Ev.step (f := fun _ => some y) (fun k => by simp only [laws_toSaidS.l0]; rw [if_neg (by omega)]) (Ev.now y)
  | succ d ih =>
    intro j y hy hd
    have er : rd_T88 l (j : Int) = l.getD j z88 := by simp [rd_T88]
    refine Ev.step (f := fun k => laws_toSaidS.l0 k l (y.set j (cSaid (l.getD j z88))) ((j + 1 : Nat) : Int)) (fun k => by simp only [laws_toSaidS.l0, laws_toSaid.f, Option.bind_some]; rw [if_pos (by omega), if_pos (by omega), if_pos (by omega), wsucc (by omega), er]; rfl) ?_
    refine ev_eq (ih (j + 1) _ (by simpa using hy) (by omega)) (copy_step (by omega) (by simp; omega) ?_)
    rw [getD_eq (l := l.map cSaid) (by simp; omega), getD_eq (l := l) (by omega)]; simp
theorem toSaidS_ev (l : List S88) (hl : l.length ≤ 1048576) : Ev (fun k => laws_toSaidS.f k l) (l.map cSaid) := by
  refine Ev.congr (f := fun k => laws_toSaidS.l0 k l (List.replicate l.length z85) ((0 : Nat) : Int)) (fun k => by simp only [laws_toSaidS.f]; rw [if_pos (by omega), if_pos (by simp only [Int.toNat_natCast]; omega)]; rfl) ?_
  exact ev_eq (toSaidS_l0 l hl l.length 0 _ (by simp) (by omega)) (by simp)

theorem eqSaidS_l0 (l : List S85) (hl : l.length ≤ 9223372036854775807) (d : Nat) : ∀ (j : Nat), j + d = l.length → Ev (fun k => laws_eqSaidS.l0 k l l (j : Int)) true := by
  induction d with
  | zero => exact fun j hd => Ev.step (f := fun _ => some true) (fun k => by simp only [laws_eqSaidS.l0]; rw [if_neg (by omega)]) (Ev.now _)
  | succ d ih => exact fun j hd => Ev.step (fun k => by simp only [laws_eqSaidS.l0, laws_eqSaid.f, if_true, Option.bind_some]; rw [if_pos (by omega), if_pos (by omega), if_pos (by omega), wsucc (by omega)]) (ih (j + 1) (by omega))
theorem eqSaidS_ev (l : List S85) (hl : l.length ≤ 9223372036854775807) : Ev (fun k => laws_eqSaidS.f k l l) true :=
  Ev.congr (fun k => by simp only [laws_eqSaidS.f, if_true]; rfl) (eqSaidS_l0 l hl l.length 0 (by omega))

theorem l1In_eq (n lo hi : Int) : spec_l1In.f n lo hi = some (decide (lo ≤ n ∧ n ≤ hi)) := by
  simp only [spec_l1In.f]
  by_cases h : n ≥ lo
  · rw [if_pos h]; congr 1; simp; intro _; exact h
  · rw [if_neg h]; congr 1; simp; intro h'; omega
theorem l1In_tells (n lo hi : Int) : Tells (fun _ => spec_l1In.f n lo hi) (lo ≤ n ∧ n ≤ hi) := by
  simp only [l1In_eq]; exact tells_some (by simp)

/-- How many operands an operator of formulas has, -1 for no operator. -/
def needS (op : Int) : Int := if op = 1 ∨ op = 2 then 0 else if op = 3 ∨ op = 4 then 1 else if op = 5 ∨ op = 6 ∨ op = 7 ∨ op = 8 then 2 else -1
def nOk (x : S85) : Prop := if x.f0 = 1 then 0 ≤ x.f1 ∧ x.f1 ≤ 2 else if x.f0 = 2 then 0 ≤ x.f1 ∧ x.f1 ≤ 1 else x.f1 = 0
/-- The rest of a formula behind c values. -/
def gs : List S85 → Int → Prop
  | [], c => c = 1
  | x :: t, c => 0 ≤ needS x.f0 ∧ nOk x ∧ needS x.f0 ≤ c ∧ gs t (c + (1 - needS x.f0))
def GoodS (l : List S85) : Prop := 1 ≤ l.length ∧ l.length ≤ 16 ∧ gs l 0
theorem need_cases (op : Int) : (needS op = 0 ∧ (op = 1 ∨ op = 2)) ∨ (needS op = 1 ∧ (op = 3 ∨ op = 4)) ∨ (needS op = 2 ∧ (op = 5 ∨ op = 6 ∨ op = 7 ∨ op = 8)) ∨ (needS op = -1 ∧ op ≠ 1 ∧ op ≠ 2 ∧ op ≠ 3 ∧ op ≠ 4 ∧ op ≠ 5 ∧ op ≠ 6 ∧ op ≠ 7 ∧ op ≠ 8) := by
  unfold needS
  by_cases h1 : op = 1 ∨ op = 2
  · rw [if_pos h1]; exact .inl ⟨rfl, h1⟩
  rw [if_neg h1]
  by_cases h2 : op = 3 ∨ op = 4
  · rw [if_pos h2]; exact .inr (.inl ⟨rfl, h2⟩)
  rw [if_neg h2]
  by_cases h3 : op = 5 ∨ op = 6 ∨ op = 7 ∨ op = 8
  · rw [if_pos h3]; exact .inr (.inr (.inl ⟨rfl, h3⟩))
  rw [if_neg h3]
  exact .inr (.inr (.inr ⟨rfl, by omega, by omega, by omega, by omega, by omega, by omega, by omega, by omega⟩))
theorem need_le (op : Int) : -1 ≤ needS op ∧ needS op ≤ 2 := by rcases need_cases op with ⟨h, _⟩ | ⟨h, _⟩ | ⟨h, _⟩ | ⟨h, _⟩ <;> omega

theorem l10Need_ev (op : Int) : Ev (fun k => spec_l10Need.f k op) (needS op) := by
  refine ev_from 2 (fun m => ?_)
  simp only [spec_l10Need.f, spec_l10Need.j0, spec_l10Need.j1]
  rcases need_cases op with ⟨e, h⟩ | ⟨e, h⟩ | ⟨e, h⟩ | ⟨e, h⟩ <;> rw [e]
  · rcases h with rfl | rfl <;> simp
  · rcases h with rfl | rfl <;> simp
  · rcases h with rfl | rfl | rfl | rfl <;> simp
  · simp [h]

theorem l10N_tells (x : S85) : Tells (fun _ => spec_l10N.f x.f0 x.f1) (nOk x) := by
  simp only [spec_l10N.f, nOk]
  by_cases h1 : x.f0 = 1
  · simp only [if_pos h1]
    exact tells_ask (l1In_tells _ _ _) (fun h => tells_yes h) (fun h => tells_no h)
  simp only [if_neg h1]
  by_cases h2 : x.f0 = 2
  · simp only [if_pos h2]
    exact tells_ask (l1In_tells _ _ _) (fun h => tells_yes h) (fun h => tells_no h)
  simp only [if_neg h2]
  exact tells_some (by simp)

theorem spec_GoodSaid_l0 (l : List S85) (hl : l.length ≤ 16) (d : Nat) : ∀ (j : Nat) (c : Int), 0 ≤ c → c ≤ j → j + d = l.length →
    Tells (fun k => spec_GoodSaid.l0 k c l (l.length : Int) (j : Int)) (gs (l.drop j) c) := by
  induction d with
  | zero =>
    intro j c h0 h1 hd
    refine tells_step (f := fun _ => some (c == 1)) (fun k => by simp only [spec_GoodSaid.l0]; rw [if_neg (by omega)]) (tells_some ?_)
    rw [List.drop_of_length_le (by omega)]; simp [gs]
  | succ d ih =>
    intro j c h0 h1 hd
    have hj : j < l.length := by omega
    have er : rd_T85 l (j : Int) = l.getD j z85 := by simp [rd_T85]
    refine tells_step (fun k => by simp only [spec_GoodSaid.l0]; rw [if_pos (by omega), if_pos (by omega), if_pos (by omega), wsucc (by omega), er]) ?_
    rw [drop_cons hj z85]
    generalize l.getD j z85 = x
    have hn := need_le x.f0
    refine tells_bind (l10Need_ev x.f0) (tells_if (fun h => tells_no (fun g => by have := g.1; omega)) (fun h => ?_))
    refine tells_ask (l10N_tells x) (fun hx => tells_pos rfl ?_) (fun hx => tells_neg (by simp) (tells_no (fun g => hx g.2.1)))
    refine tells_if (fun h2 => tells_no (fun g => by have := g.2.2.1; omega)) (fun h2 => ?_)
    rw [wid (x := 1 - needS x.f0) (by omega) (by omega), wid (by omega) (by omega)]
    exact tells_iff (ih (j + 1) _ (by omega) (by omega) (by omega)) ⟨fun g => ⟨by omega, hx, by omega, g⟩, fun g => g.2.2.2⟩
theorem spec_GoodSaid_tells (l : List S85) (hl : l.length ≤ 9223372036854775807) : Tells (fun k => spec_GoodSaid.f k l) (GoodS l) := by
  refine tells_ask (l1In_tells _ _ _) (fun h => tells_pos rfl ?_) (fun h => tells_neg (by simp) (tells_no (fun g => h ⟨by have := g.1; omega, by have := g.2.1; omega⟩)))
  exact tells_iff (spec_GoodSaid_l0 l (by omega) l.length 0 0 (by omega) (by omega) (by omega)) ⟨fun g => ⟨by omega, by omega, by simpa using g⟩, fun g => by simpa using g.2.2⟩

/-- A formula as a tree. -/
inductive Tr where
  | leaf (x : S85) : Tr
  | un (a : Tr) (x : S85) : Tr
  | bin (a b : Tr) (x : S85) : Tr
def post : Tr → List S85
  | .leaf x => [x]
  | .un a x => post a ++ [x]
  | .bin a b x => post a ++ (post b ++ [x])
def okT : Tr → Prop
  | .leaf x => needS x.f0 = 0 ∧ nOk x
  | .un a x => okT a ∧ needS x.f0 = 1 ∧ nOk x
  | .bin a b x => okT a ∧ okT b ∧ needS x.f0 = 2 ∧ nOk x
def posts (ts : List Tr) : List S85 := (ts.map post).flatten
theorem posts_append (a b : List Tr) : posts (a ++ b) = posts a ++ posts b := by simp [posts]
theorem posts_one (a : Tr) : posts [a] = post a := by simp [posts]
theorem posts_cons (a : Tr) (b : List Tr) : posts (a :: b) = post a ++ posts b := by simp [posts]
theorem post_pos (t : Tr) : 0 < (post t).length := by cases t <;> simp [post] <;> omega
theorem last_split {ts : List Tr} (h : 0 < ts.length) : ∃ a b, ts = a ++ [b] := by
  refine ⟨ts.dropLast, ts.getLast (by intro e; simp [e] at h), ?_⟩
  rw [List.dropLast_concat_getLast]
theorem trees_of : ∀ (l : List S85) (ts : List Tr), (∀ t ∈ ts, okT t) → gs l (ts.length : Int) → ∃ t, okT t ∧ posts ts ++ l = post t
  | [], ts, hts, h => by
    have h1 : ts.length = 1 := by have h2 : (ts.length : Int) = 1 := h; omega
    obtain ⟨t, rfl⟩ := List.length_eq_one_iff.1 h1
    exact ⟨t, hts t (by simp), by simp [posts]⟩
  | x :: l, ts, hts, h => by
    obtain ⟨h1, h2, h3, h4⟩ := h
    rcases need_cases x.f0 with ⟨e, _⟩ | ⟨e, _⟩ | ⟨e, _⟩ | ⟨e, _⟩
    · obtain ⟨t, ht, hp⟩ := trees_of l (ts ++ [.leaf x]) (fun t ht => by
        rcases List.mem_append.1 ht with ht | ht
        · exact hts t ht
        · rw [List.mem_singleton.1 ht]; exact ⟨e, h2⟩) (by rw [e] at h4; simpa using h4)
      exact ⟨t, ht, by rw [← hp, posts_append, posts_one]; simp [post]⟩
    · obtain ⟨a, b, rfl⟩ := last_split (ts := ts) (by omega)
      obtain ⟨t, ht, hp⟩ := trees_of l (a ++ [.un b x]) (fun t ht => by
        rcases List.mem_append.1 ht with ht | ht
        · exact hts t (List.mem_append_left _ ht)
        · rw [List.mem_singleton.1 ht]; exact ⟨hts b (by simp), e, h2⟩) (by rw [e] at h4; simpa using h4)
      exact ⟨t, ht, by rw [← hp, posts_append, posts_append, posts_one, posts_one]; simp [post]⟩
    · obtain ⟨a0, c, rfl⟩ := last_split (ts := ts) (by omega)
      obtain ⟨a, b, rfl⟩ := last_split (ts := a0) (by simp at h3; omega)
      obtain ⟨t, ht, hp⟩ := trees_of l (a ++ [.bin b c x]) (fun t ht => by
        rcases List.mem_append.1 ht with ht | ht
        · exact hts t (List.mem_append_left _ (List.mem_append_left _ ht))
        · rw [List.mem_singleton.1 ht]; exact ⟨hts b (by simp), hts c (by simp), e, h2⟩) (by rw [e] at h4; simp at h4 ⊢; exact (by omega : ((a.length : Int) + 1 + 1 + -1) = (a.length : Int) + 1) ▸ h4)
      exact ⟨t, ht, by rw [← hp, posts_append, posts_append, posts_append, posts_one, posts_one, posts_one]; simp [post]⟩
    · omega
theorem tree_of {l : List S85} (h : GoodS l) : ∃ t, okT t ∧ l = post t := by
  obtain ⟨t, ht, hp⟩ := trees_of l [] (fun t ht => by simp at ht) (by simpa using h.2.2)
  exact ⟨t, ht, by simpa [posts] using hp⟩
/-- The tree that ends at place k of l begins at place i. -/
def At (l : List S85) (t : Tr) (i : Nat) : Prop := ∃ p s, l = p ++ (post t ++ s) ∧ p.length = i
theorem At.lt {l : List S85} {t : Tr} {i : Nat} (h : At l t i) : i + (post t).length ≤ l.length := by
  obtain ⟨p, s, rfl, rfl⟩ := h; simp <;> omega
theorem At.un {l : List S85} {a : Tr} {x : S85} {i : Nat} (h : At l (.un a x) i) : At l a i := by
  obtain ⟨p, s, rfl, rfl⟩ := h; exact ⟨p, [x] ++ s, by simp [post], rfl⟩
theorem At.left {l : List S85} {a b : Tr} {x : S85} {i : Nat} (h : At l (.bin a b x) i) : At l a i := by
  obtain ⟨p, s, rfl, rfl⟩ := h; exact ⟨p, post b ++ [x] ++ s, by simp [post], rfl⟩
theorem At.right {l : List S85} {a b : Tr} {x : S85} {i : Nat} (h : At l (.bin a b x) i) : At l b (i + (post a).length) := by
  obtain ⟨p, s, rfl, rfl⟩ := h; exact ⟨p ++ post a, [x] ++ s, by simp [post], by simp⟩
def root : Tr → S85
  | .leaf x => x
  | .un _ x => x
  | .bin _ _ x => x
theorem getD_mid {α : Type} (p m s : List α) (d : α) {j : Nat} (h : j < m.length) : (p ++ (m ++ s)).getD (p.length + j) d = m.getD j d := by
  rw [List.getD_eq_getElem?_getD, List.getElem?_append_right (by omega), List.getElem?_append_left (by omega), List.getD_eq_getElem?_getD]
  congr 2; omega
theorem post_last (t : Tr) (d : S85) : (post t).getD ((post t).length - 1) d = root t := by
  cases t <;> simp [post, root, List.getD_eq_getElem?_getD]
theorem At.root {l : List S85} {t : Tr} {i : Nat} (h : At l t i) (d : S85) : l.getD (i + (post t).length - 1) d = root t := by
  obtain ⟨p, s, rfl, rfl⟩ := h
  have hp := post_pos t
  rw [show p.length + (post t).length - 1 = p.length + ((post t).length - 1) from by omega, getD_mid _ _ _ _ (by omega), post_last]
theorem At.whole (t : Tr) : At (post t) t 0 := ⟨[], [], by simp, rfl⟩

theorem rdS (l : List S85) (i : Nat) : rd_T85 l (i : Int) = l.getD i z85 := by simp [rd_T85]
theorem At.un_root {l : List S85} {a : Tr} {x : S85} {i : Nat} (h : At l (.un a x) i) : i + (post a).length < l.length ∧ l.getD (i + (post a).length) z85 = x := by
  have h1 := h.lt
  have h2 := h.root z85
  simp only [post, List.length_append, List.length_singleton] at h1 h2
  rw [show i + ((post a).length + 1) - 1 = i + (post a).length from by omega] at h2
  exact ⟨by omega, h2⟩
theorem At.bin_root {l : List S85} {a b : Tr} {x : S85} {i : Nat} (h : At l (.bin a b x) i) : i + (post a).length + (post b).length < l.length ∧ l.getD (i + (post a).length + (post b).length) z85 = x := by
  have h1 := h.lt
  have h2 := h.root z85
  simp only [post, List.length_append, List.length_singleton] at h1 h2
  rw [show i + ((post a).length + ((post b).length + 1)) - 1 = i + (post a).length + (post b).length from by omega] at h2
  exact ⟨by omega, h2⟩
theorem At.leaf_root {l : List S85} {x : S85} {i : Nat} (h : At l (.leaf x) i) : i < l.length ∧ l.getD i z85 = x := by
  have h1 := h.lt
  have h2 := h.root z85
  simp only [post, List.length_singleton, Nat.add_sub_cancel] at h1 h2
  exact ⟨by omega, h2⟩
theorem last_un (a : Tr) (x : S85) (i : Nat) : i + (post (.un a x)).length - 1 = i + (post a).length := by simp [post]
theorem last_bin (a b : Tr) (x : S85) (i : Nat) : i + (post (.bin a b x)).length - 1 = i + (post a).length + (post b).length := by simp [post]; omega
theorem l10From_ev (l : List S85) (hl : l.length ≤ 1048576) : ∀ (t : Tr) (i : Nat), okT t → At l t i → Ev (fun k => spec_l10From.f k l ((i + (post t).length - 1 : Nat) : Int)) (i : Int)
  | .leaf x, i, ok, h => by
    obtain ⟨h1, h2⟩ := h.leaf_root
    rw [show i + (post (.leaf x)).length - 1 = i from by simp [post]]
    refine Ev.step (fun k => by simp only [spec_l10From.f]; rw [if_pos (by omega), if_pos (by omega), rdS, h2]) ?_
    refine Ev.bind (l10Need_ev _) ?_
    rw [show needS x.f0 = 0 from ok.1]
    exact Ev.step (f := fun _ => some (i : Int)) (fun k => by simp only [spec_l10From.l0]; rw [if_neg (by omega)]) (Ev.now _)
  | .un a x, i, ok, h => by
    obtain ⟨h1, h2⟩ := h.un_root
    have ha := post_pos a
    rw [last_un]
    refine Ev.step (fun k => by simp only [spec_l10From.f]; rw [if_pos (by omega), if_pos (by omega), rdS, h2]) ?_
    refine Ev.bind (l10Need_ev _) ?_
    rw [show needS x.f0 = 1 from ok.2.1]
    refine Ev.step (fun k => by simp only [spec_l10From.l0]; rw [if_pos (by omega), wpred (by omega) (by omega)]) ?_
    refine Ev.bind (l10From_ev l hl a i ok.1 h.un) ?_
    exact Ev.step (f := fun _ => some (i : Int)) (fun k => by simp only [spec_l10From.l0]; rw [if_neg (by unfold wrap64; omega)]) (Ev.now _)
  | .bin a b x, i, ok, h => by
    obtain ⟨h1, h2⟩ := h.bin_root
    have ha := post_pos a
    have hb := post_pos b
    rw [last_bin]
    refine Ev.step (fun k => by simp only [spec_l10From.f]; rw [if_pos (by omega), if_pos (by omega), rdS, h2]) ?_
    refine Ev.bind (l10Need_ev _) ?_
    rw [show needS x.f0 = 2 from ok.2.2.1]
    refine Ev.step (fun k => by simp only [spec_l10From.l0]; rw [if_pos (by omega), wpred (by omega) (by omega)]) ?_
    refine Ev.bind (l10From_ev l hl b (i + (post a).length) ok.2.1 h.right) ?_
    refine Ev.step (fun k => by simp only [spec_l10From.l0]; rw [if_pos (by unfold wrap64; omega), wpred (by omega) (by omega)]) ?_
    refine Ev.bind (l10From_ev l hl a i ok.1 h.left) ?_
    exact Ev.step (f := fun _ => some (i : Int)) (fun k => by simp only [spec_l10From.l0]; rw [if_neg (by unfold wrap64; omega)]) (Ev.now _)

def deep : Tr → Int
  | .leaf _ => 0
  | .un a x => if x.f0 = 4 then deep a + 1 else deep a
  | .bin a b x => if deep a > deep b then deep a else deep b
theorem deep_bd : ∀ t, 0 ≤ deep t ∧ deep t < (post t).length
  | .leaf _ => by simp [deep, post]
  | .un a x => by have := deep_bd a; simp only [deep, post, List.length_append, List.length_singleton]; split <;> omega
  | .bin a b x => by have := deep_bd a; have := deep_bd b; simp only [deep, post, List.length_append, List.length_singleton]; split <;> omega
theorem l10Deep_ev (l : List S85) (hl : l.length ≤ 1048576) : ∀ (t : Tr) (i : Nat), okT t → At l t i → Ev (fun k => spec_l10Deep.f k l ((i + (post t).length - 1 : Nat) : Int)) (deep t)
  | .leaf x, i, ok, h => by
    obtain ⟨h1, h2⟩ := h.leaf_root
    rw [show i + (post (.leaf x)).length - 1 = i from by simp [post]]
    refine Ev.step (fun k => by simp only [spec_l10Deep.f]; rw [if_pos (by omega), if_pos (by omega), rdS, h2]) ?_
    refine Ev.bind (l10Need_ev _) ?_
    rw [show needS x.f0 = 0 from ok.1]
    exact ev_pos rfl (Ev.now _)
  | .un a x, i, ok, h => by
    obtain ⟨h1, h2⟩ := h.un_root
    have ha := post_pos a
    have hb := deep_bd a
    rw [last_un]
    refine Ev.step (fun k => by simp only [spec_l10Deep.f]; rw [if_pos (by omega), if_pos (by omega), rdS, h2]) ?_
    refine Ev.bind (l10Need_ev _) ?_
    rw [show needS x.f0 = 1 from ok.2.1]
    refine ev_neg (by omega) ?_
    rw [wpred (by omega) (by omega)]
    refine Ev.bind (l10Deep_ev l hl a i ok.1 h.un) (ev_neg (by omega) ?_)
    show Ev (fun n => if x.f0 = 4 then some (wrap64 (deep a + 1)) else some (deep a)) (if x.f0 = 4 then deep a + 1 else deep a)
    by_cases h4 : x.f0 = 4
    · refine ev_pos h4 ?_
      rw [if_pos h4, wid (x := deep a + 1) (by omega) (by omega)]; exact Ev.now _
    · refine ev_neg h4 ?_
      rw [if_neg h4]; exact Ev.now _
  | .bin a b x, i, ok, h => by
    obtain ⟨h1, h2⟩ := h.bin_root
    have ha := post_pos a
    have hb := post_pos b
    rw [last_bin]
    refine Ev.step (fun k => by simp only [spec_l10Deep.f]; rw [if_pos (by omega), if_pos (by omega), rdS, h2]) ?_
    refine Ev.bind (l10Need_ev _) ?_
    have hx := ok.2.2.1
    rw [show needS x.f0 = 2 from hx]
    refine ev_neg (by omega) ?_
    rw [wpred (by omega) (by omega)]
    refine Ev.bind (l10Deep_ev l hl b (i + (post a).length) ok.2.1 h.right) (ev_pos rfl ?_)
    refine Ev.bind (l10From_ev l hl b (i + (post a).length) ok.2.1 h.right) ?_
    rw [wpred (by omega) (by omega)]
    refine Ev.bind (l10Deep_ev l hl a i ok.1 h.left) ?_
    have h4 : ¬ x.f0 = 4 := by
      intro h4
      rw [h4] at hx; simp [needS] at hx
    show Ev _ (if deep a > deep b then deep a else deep b)
    by_cases hc : deep a > deep b
    · refine ev_pos hc (ev_neg h4 ?_)
      rw [if_pos hc]; exact Ev.now _
    · refine ev_neg hc (ev_neg h4 ?_)
      rw [if_neg hc]; exact Ev.now _

theorem operandsOfSaid_ev (op : Int) : Ev (fun k => impl_operandsOfSaid.f k op) (needS op) := by
  refine ev_from 2 (fun m => ?_)
  simp only [impl_operandsOfSaid.f, impl_operandsOfSaid.j0, impl_operandsOfSaid.j1]
  rcases need_cases op with ⟨e, h⟩ | ⟨e, h⟩ | ⟨e, h⟩ | ⟨e, h⟩ <;> rw [e]
  · rcases h with rfl | rfl <;> simp
  · rcases h with rfl | rfl <;> simp
  · rcases h with rfl | rfl | rfl | rfl <;> simp
  · simp [h]

theorem isSaid_tells (x : S85) : Tells (fun k => impl_isSaid.f k x.f0 x.f1) (0 ≤ needS x.f0 ∧ nOk x) := by
  simp only [impl_isSaid.f, nOk]
  rcases need_cases x.f0 with ⟨e, h⟩ | ⟨e, h⟩ | ⟨e, h⟩ | ⟨e, h⟩
  · rcases h with h | h
    · simp only [h, if_true]
      refine tells_if (fun h1 => tells_some ?_) (fun h1 => tells_no (fun g => by have := g.2.1; omega))
      simp [needS]; omega
    · simp only [h, if_neg (show ¬ ((2 : Int) = 1) by decide), if_true]
      refine tells_if (fun h1 => tells_yes ⟨by simp [needS], by omega, by omega⟩) (fun h1 => tells_some ?_)
      simp [needS]; omega
  · have h1 : ¬ (x.f0 = 1) := by omega
    have h2 : ¬ (x.f0 = 2) := by omega
    simp only [if_neg h1, if_neg h2]
    refine tells_bind (operandsOfSaid_ev x.f0) (tells_pos (by omega) (tells_some ?_))
    simp [e]
  · have h1 : ¬ (x.f0 = 1) := by omega
    have h2 : ¬ (x.f0 = 2) := by omega
    simp only [if_neg h1, if_neg h2]
    refine tells_bind (operandsOfSaid_ev x.f0) (tells_pos (by omega) (tells_some ?_))
    simp [e]
  · simp only [if_neg h.1, if_neg h.2.1]
    refine tells_bind (operandsOfSaid_ev x.f0) (tells_neg (by omega) (tells_no (fun g => by omega)))

theorem impl_GoodSaid_l0 (l : List S85) (hl : l.length ≤ 16) (d : Nat) : ∀ (j : Nat) (c : Int), 0 ≤ c → c ≤ j → j + d = l.length →
    Tells (fun k => impl_GoodSaid.l0 k c l (l.length : Int) (j : Int)) (gs (l.drop j) c) := by
  induction d with
  | zero =>
    intro j c h0 h1 hd
    refine tells_step (f := fun _ => some (c == 1)) (fun k => by simp only [impl_GoodSaid.l0]; rw [if_neg (by omega)]) (tells_some ?_)
    rw [List.drop_of_length_le (by omega)]; simp [gs]
  | succ d ih =>
    intro j c h0 h1 hd
    have hj : j < l.length := by omega
    have er : rd_T85 l (j : Int) = l.getD j z85 := by simp [rd_T85]
    refine tells_step (fun k => by simp only [impl_GoodSaid.l0]; rw [if_pos (by omega), if_pos (by omega), if_pos (by omega), wsucc (by omega), er]) ?_
    rw [drop_cons hj z85]
    generalize l.getD j z85 = x
    have hn := need_le x.f0
    refine tells_bind (operandsOfSaid_ev x.f0) ?_
    refine tells_ask (isSaid_tells x) (fun hx => tells_pos rfl ?_) (fun hx => tells_neg (by simp) (tells_no (fun g => hx ⟨g.1, g.2.1⟩)))
    refine tells_if (fun h2 => tells_no (fun g => by have := g.2.2.1; omega)) (fun h2 => ?_)
    rw [wid (x := 1 - needS x.f0) (by omega) (by omega), wid (by omega) (by omega)]
    exact tells_iff (ih (j + 1) _ (by omega) (by omega) (by omega)) ⟨fun g => ⟨hx.1, hx.2, by omega, g⟩, fun g => g.2.2.2⟩
theorem impl_GoodSaid_tells (l : List S85) (hl : l.length ≤ 9223372036854775807) : Tells (fun k => impl_GoodSaid.f k l) (GoodS l) := by
  refine tells_if (fun h => ?_) (fun h => ?_)
  · exact tells_step (f := fun _ => some false) (fun k => by simp only [impl_GoodSaid.j0, if_true]) (tells_no (fun g => by have := g.1; omega))
  · by_cases h2 : (l.length : Int) > 16
    · exact tells_step (f := fun _ => some false) (fun k => by simp only [impl_GoodSaid.j0]; rw [if_pos (by simpa using h2)]) (tells_no (fun g => by have := g.2.1; omega))
    · refine tells_step (f := fun k => impl_GoodSaid.l0 k 0 l (l.length : Int) 0) (fun k => by simp only [impl_GoodSaid.j0]; rw [if_neg (by simpa using h2)]) ?_
      exact tells_iff (impl_GoodSaid_l0 l (by omega) l.length 0 0 (by omega) (by omega) (by omega)) ⟨fun g => ⟨by omega, by omega, by simpa using g⟩, fun g => by simpa using g.2.2⟩

theorem nd_l1 (st : List Int) (m : Nat) (hm : m ≤ st.length) (hst : st.length ≤ 1048576) (l : List S85) (n : Int) (j : Nat) (hj : j < 9223372036854775807) (op N : Int) (y : List Int) (hy : y.length ≤ 1048576) (r : Int × Bool) (d : Nat) : ∀ (i : Nat) (acc : Int), i + d = y.length →
    (0 ≤ (y.drop i).foldl mx acc ∧ (y.drop i).foldl mx acc ≤ 1048576) → Ev (fun k => impl_NextDepth.l0 k (st.take m ++ [if op = 4 then (y.drop i).foldl mx acc + 1 else (y.drop i).foldl mx acc]) l n ((j + 1 : Nat) : Int)) r →
    Ev (fun k => impl_NextDepth.l1 k st (m : Int) acc l n (j : Int) y (y.length : Int) (i : Int) op N) r := by
  induction d with
  | zero =>
    intro i acc hd hb h
    rw [List.drop_of_length_le (by omega)] at hb h
    simp only [List.foldl_nil] at hb h
    have hl2 : (st.take m).length < 17592186044416 := by rw [List.length_take]; omega
    by_cases h4 : op = 4
    · rw [if_pos h4] at h
      exact Ev.step (fun k => by simp only [impl_NextDepth.l1]; rw [if_neg (by omega), if_pos h4, if_pos (by omega), if_pos (by omega)]; simp only [Option.bind_some, Int.toNat_natCast]; rw [if_pos hl2, wsucc hj, wid (x := acc + 1) (by omega) (by omega)]) h
    · rw [if_neg h4] at h
      exact Ev.step (fun k => by simp only [impl_NextDepth.l1]; rw [if_neg (by omega), if_neg h4, if_pos (by omega), if_pos (by omega)]; simp only [Option.bind_some, Int.toNat_natCast]; rw [if_pos hl2, wsucc hj]) h
  | succ d ih =>
    intro i acc hd hb h
    rw [drop_cons (by omega) 0] at hb h
    refine Ev.step (fun k => by simp only [impl_NextDepth.l1]; rw [if_pos (by omega), if_pos (by omega), if_pos (by omega), wsucc (by omega), rd_nat]) ?_
    exact ih (i + 1) _ (by omega) (by simpa using hb) (by simpa using h)
theorem nd_step (l : List S85) (hl : l.length ≤ 1048576) (j : Nat) (hj : j < l.length) (st args : List Int) (hs : (st ++ args).length ≤ 1048576) (hn : needS (l.getD j z85).f0 = args.length) (r : Int × Bool)
    (hb : 0 ≤ args.foldl mx 0 ∧ args.foldl mx 0 ≤ 1048576)
    (h : Ev (fun k => impl_NextDepth.l0 k (st ++ [if (l.getD j z85).f0 = 4 then args.foldl mx 0 + 1 else args.foldl mx 0]) l (l.length : Int) ((j + 1 : Nat) : Int)) r) :
    Ev (fun k => impl_NextDepth.l0 k (st ++ args) l (l.length : Int) (j : Int)) r := by
  have er : rd_T85 l (j : Int) = l.getD j z85 := by simp [rd_T85]
  have e1 : wrap64 (((st ++ args).length : Int) - (args.length : Int)) = (st.length : Int) := by rw [List.length_append] at *; rw [wid (by omega) (by omega)]; omega
  refine Ev.step (fun k => by simp only [impl_NextDepth.l0]; rw [if_pos (by omega), if_pos (by omega), if_pos (by omega), er]) ?_
  refine Ev.bind (operandsOfSaid_ev _) ?_
  rw [hn, e1]
  refine ev_pos (by omega) (ev_pos (by rw [List.length_append]; omega) ?_)
  have e2 : (st ++ args).drop ((st.length : Int)).toNat = args := by simp
  rw [e2]
  refine Ev.bind (Ev.now _) ?_
  refine nd_l1 (st ++ args) st.length (by rw [List.length_append]; omega) hs l _ j (by omega) _ _ args (by rw [List.length_append] at hs; omega) r args.length 0 0 (by omega) (by simpa using hb) ?_
  simpa using h
theorem nd_tree (l : List S85) (hl : l.length ≤ 1048576) (r : Int × Bool) : ∀ (t : Tr) (i : Nat) (st : List Int), okT t → At l t i → st.length ≤ i →
    Ev (fun k => impl_NextDepth.l0 k (st ++ [deep t]) l (l.length : Int) ((i + (post t).length : Nat) : Int)) r → Ev (fun k => impl_NextDepth.l0 k st l (l.length : Int) (i : Int)) r
  | .leaf x, i, st, ok, at_, hs, h => by
    obtain ⟨h1, h2⟩ := at_.leaf_root
    rw [show i + (post (.leaf x)).length = i + 1 from by simp [post]] at h
    have h3 := nd_step l hl i h1 st [] (by simp; omega) (by rw [h2]; exact ok.1) r (by simp) (by
      rw [h2, if_neg (by intro h4; have := ok.1; rw [h4] at this; simp [needS] at this)]; simpa [deep] using h)
    simpa using h3
  | .un a x, i, st, ok, at_, hs, h => by
    obtain ⟨h1, h2⟩ := at_.un_root
    have hb := deep_bd a
    rw [show i + (post (.un a x)).length = i + (post a).length + 1 from by simp [post]; omega] at h
    refine nd_tree l hl r a i st ok.1 at_.un hs ?_
    have hm : mx 0 (deep a) = deep a := by unfold mx; split <;> omega
    refine nd_step l hl _ h1 st [deep a] (by simp; omega) (by rw [h2]; exact ok.2.1) r (by simp only [List.foldl_cons, List.foldl_nil, hm]; omega) ?_
    rw [h2]; simpa only [List.foldl_cons, List.foldl_nil, hm, deep] using h
  | .bin a b x, i, st, ok, at_, hs, h => by
    obtain ⟨h1, h2⟩ := at_.bin_root
    have hb := deep_bd a
    have hb' := deep_bd b
    rw [show i + (post (.bin a b x)).length = i + (post a).length + (post b).length + 1 from by simp [post]; omega] at h
    have ha := post_pos a
    refine nd_tree l hl r a i st ok.1 at_.left hs ?_
    refine nd_tree l hl r b (i + (post a).length) (st ++ [deep a]) ok.2.1 at_.right (by simp; omega) ?_
    have hm : mx (mx 0 (deep a)) (deep b) = if deep a > deep b then deep a else deep b := by
      have h0 : mx 0 (deep a) = deep a := by unfold mx; split <;> omega
      rw [h0]; unfold mx; split <;> split <;> omega
    rw [show st ++ [deep a] ++ [deep b] = st ++ [deep a, deep b] from by simp]
    refine nd_step l hl _ h1 st [deep a, deep b] (by simp; omega) (by rw [h2]; exact ok.2.2.1) r (by simp only [List.foldl_cons, List.foldl_nil, hm]; split <;> omega) ?_
    have h4 : ¬ x.f0 = 4 := by
      intro h4
      have hx := ok.2.2.1
      rw [h4] at hx; simp [needS] at hx
    rw [h2]; simp only [List.foldl_cons, List.foldl_nil, hm]; rw [if_neg h4]; simpa only [deep] using h
theorem NextDepth_both (l : List S85) (hl : l.length ≤ 9223372036854775807) : ∃ r, Ev (fun k => spec_NextDepth.f k l) r ∧ Ev (fun k => impl_NextDepth.f k l) r := by
  by_cases hg : GoodS l
  · obtain ⟨t, ok, rfl⟩ := tree_of hg
    have h16 := hg.2.1
    have hp := post_pos t
    refine ⟨(deep t, true), (Ev.bind (tells_ev (spec_GoodSaid_tells _ hl) hg) (ev_pos rfl ?_)), ?_⟩
    · rw [wpred hp (by omega)]
      have := l10Deep_ev (post t) (by omega) t 0 ok (At.whole t)
      rw [Nat.zero_add] at this
      exact Ev.bind this (Ev.now _)
    · refine (Ev.bind (tells_ev (impl_GoodSaid_tells _ hl) hg) (ev_pos rfl ?_))
      refine nd_tree (post t) (by omega) _ t 0 [] ok (At.whole t) (by simp) ?_
      exact Ev.step (f := fun _ => some (deep t, true)) (fun k => by simp only [impl_NextDepth.l0]; rw [if_neg (by omega), if_pos (by simp)]; simp [rd]) (Ev.now _)
  · refine ⟨(0, false), (Ev.bind (tells_ev_not (spec_GoodSaid_tells l hl) hg) (ev_neg (by simp) (Ev.now _))), ?_⟩
    exact (Ev.bind (tells_ev_not (impl_GoodSaid_tells l hl) hg) (ev_neg (by simp) (Ev.now _)))

theorem FnExactNextDepth : ∀ (l0 : List (S88)), (l0.length ≤ 9223372036854775807 ∧ ∀ x ∈ l0, (In64 x.f0) ∧ (In64 x.f1)) → ∃ k, laws_FnExactNextDepth.f k l0 = some true := by
  intro l hg
  refine Ev.rounds ?_
  refine Ev.bind (ev_const (szSaidS_eq l hg.1)) ?_
  by_cases h : l.length ≤ 1048576
  · rw [if_pos h]
    refine ev_neg (by omega) ?_
    have hm : (l.map cSaid).length ≤ 9223372036854775807 := by simp; omega
    obtain ⟨b, hb, hb'⟩ := NextDepth_both _ hm
    refine Ev.bind (toSaidS_ev l h) (Ev.bind hb (Ev.bind (toSaidS_ev l h) (Ev.bind hb' (ev_pos rfl ?_))))
    refine Ev.step (fun k => by simp only [laws_FnExactNextDepth.j0]; rw [if_neg (by simp)]) ?_
    exact Ev.bind (toSaidS_ev l h) (Ev.bind (eqSaidS_ev _ hm) (ev_pos rfl (Ev.now _)))
  · rw [if_neg h]
    exact ev_pos (by omega) (Ev.now _)

end Go.Proofs.Ytdaodonjikaalaa.Pure
