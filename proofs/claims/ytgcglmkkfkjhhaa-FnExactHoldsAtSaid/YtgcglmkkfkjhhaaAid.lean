/- Small lemmas on rounds, loops' counters, lists and answers, for the pure statements. No condition. -/
import Derived.Test.YtgcglmkkfkjhhaaWWords
import Derived.Test.YtgcglmkkfkjhhaaHof
set_option linter.unusedVariables false
set_option linter.unusedSimpArgs false
namespace Go.Proofs.Ytgcglmkkfkjhhaa.Aid
open Go.RowKit Go.Proofs.YtgcglmkkfkjhhaaW.PrintWords Go.Proofs.Ytgcglmkkfkjhhaa.Hof

section
variable {α β : Type} {f g : Nat → Option α} {r : α}
theorem ev_const {x : Option α} (h : x = some r) : Ev (fun _ => x) r := ⟨0, fun _ _ => h⟩
theorem ev_pos {c : Prop} [Decidable c] (h : c) (hf : Ev f r) : Ev (fun n => if c then f n else g n) r := by
  simp only [if_pos h]; exact hf
theorem ev_neg {c : Prop} [Decidable c] (h : ¬ c) (hg : Ev g r) : Ev (fun n => if c then f n else g n) r := by
  simp only [if_neg h]; exact hg
theorem ev_eq {r' : α} (h : Ev f r) (e : r = r') : Ev f r' := e ▸ h
/-- From some rounds on. -/
theorem ev_from (K : Nat) (h : ∀ m, f (m + K) = some r) : Ev f r := ⟨K, fun k hk => by rw [← h (k - K)]; congr 1; omega⟩
theorem ev_uniq {r' : α} (h : Ev f r) (h' : Ev f r') : r = r' := by
  obtain ⟨a, ha⟩ := h
  obtain ⟨b, hb⟩ := h'
  have h1 := ha (a + b) (by omega)
  rw [hb (a + b) (by omega)] at h1
  exact (Option.some.inj h1).symm
end

/-- From some rounds on, p. -/
def Late (p : Nat → Prop) : Prop := ∃ K, ∀ k, K ≤ k → p k
theorem ev_late {α : Type} {f : Nat → Option α} {r : α} (h : Ev f r) : Late (fun k => f k = some r) := h
theorem late_const {p : Prop} (h : p) : Late (fun _ => p) := ⟨0, fun _ _ => h⟩
theorem Late.and {p q : Nat → Prop} (h : Late p) (h' : Late q) : Late (fun k => p k ∧ q k) := by
  obtain ⟨a, ha⟩ := h
  obtain ⟨b, hb⟩ := h'
  exact ⟨a + b, fun k hk => ⟨ha k (by omega), hb k (by omega)⟩⟩
theorem Late.ex {p : Nat → Prop} (h : Late p) : ∃ k, p k := by
  obtain ⟨a, ha⟩ := h
  exact ⟨a, ha a (Nat.le_refl _)⟩
theorem Late.imp {p q : Nat → Prop} (h : Late p) (hi : ∀ k, p k → q k) : Late q := by
  obtain ⟨a, ha⟩ := h
  exact ⟨a, fun k hk => hi k (ha k hk)⟩

/-- It answers, and the answer says whether P. -/
def Tells (g : Nat → Option Bool) (P : Prop) : Prop := ∃ b, Ev g b ∧ (b = true ↔ P)
section
variable {α : Type} {f g : Nat → Option Bool} {P Q : Prop}
theorem tells_yes (h : P) : Tells (fun _ => some true) P := ⟨true, Ev.now true, by simp [h]⟩
theorem tells_no (h : ¬ P) : Tells (fun _ => some false) P := ⟨false, Ev.now false, by simp [h]⟩
theorem tells_some {b : Bool} (h : b = true ↔ P) : Tells (fun _ => some b) P := ⟨b, Ev.now b, h⟩
theorem tells_pos {c : Prop} [Decidable c] (h : c) (hf : Tells f P) : Tells (fun n => if c then f n else g n) P := by
  simp only [if_pos h]; exact hf
theorem tells_neg {c : Prop} [Decidable c] (h : ¬ c) (hg : Tells g P) : Tells (fun n => if c then f n else g n) P := by
  simp only [if_neg h]; exact hg
theorem tells_step (h : ∀ k, g (k + 1) = f k) (hf : Tells f P) : Tells g P := by
  obtain ⟨b, hb, e⟩ := hf
  exact ⟨b, Ev.step h hb, e⟩
theorem tells_congr (h : ∀ k, g k = f k) (hf : Tells f P) : Tells g P := by
  obtain ⟨b, hb, e⟩ := hf
  exact ⟨b, Ev.congr h hb, e⟩
theorem tells_iff (hf : Tells f P) (h : P ↔ Q) : Tells f Q := by
  obtain ⟨b, hb, e⟩ := hf
  exact ⟨b, hb, e.trans h⟩
theorem tells_bind {g : Nat → Option α} {a : α} {f : Nat → α → Option Bool} (h : Ev g a) (k : Tells (fun n => f n a) P) : Tells (fun n => (g n).bind (f n)) P := by
  obtain ⟨b, hb, e⟩ := k
  exact ⟨b, Ev.bind h hb, e⟩
theorem tells_ask {f : Nat → Bool → Option Bool} (h : Tells g Q) (hy : Q → Tells (fun n => f n true) P) (hn : ¬ Q → Tells (fun n => f n false) P) : Tells (fun n => (g n).bind (f n)) P := by
  obtain ⟨b, hb, e⟩ := h
  cases b with
  | true => exact tells_bind hb (hy (e.1 rfl))
  | false => exact tells_bind hb (hn (fun q => by have := e.2 q; cases this))
theorem tells_if {c : Prop} [Decidable c] (hy : c → Tells f P) (hn : ¬ c → Tells g P) : Tells (fun n => if c then f n else g n) P := by
  by_cases h : c
  · exact tells_pos h (hy h)
  · exact tells_neg h (hn h)
theorem tells_ev (h : Tells g P) (hp : P) : Ev g true := by
  obtain ⟨b, hb, e⟩ := h
  rw [← e.2 hp]; exact hb
theorem tells_ev_not (h : Tells g P) (hp : ¬ P) : Ev g false := by
  obtain ⟨b, hb, e⟩ := h
  cases b with
  | true => exact absurd (e.1 rfl) hp
  | false => exact hb
theorem ev_ask {β : Type} {r : β} {f : Nat → Bool → Option β} (h : Tells g Q) (hy : Q → Ev (fun n => f n true) r) (hn : ¬ Q → Ev (fun n => f n false) r) : Ev (fun n => (g n).bind (f n)) r := by
  obtain ⟨b, hb, e⟩ := h
  cases b with
  | true => exact Ev.bind hb (hy (e.1 rfl))
  | false => exact Ev.bind hb (hn (fun q => by have := e.2 q; cases this))
/-- Two that tell the same answer the same. -/
theorem tells_both (h : Tells f P) (h' : Tells g P) : ∃ b, Ev f b ∧ Ev g b := by
  obtain ⟨b, hb, e⟩ := h
  obtain ⟨b', hb', e'⟩ := h'
  have : b = b' := by rw [Bool.eq_iff_iff]; exact e.trans e'.symm
  subst this
  exact ⟨b, hb, hb'⟩
end

/-! ### counters -/
theorem wsucc {j : Nat} (h : j < 9223372036854775807) : wrap64 ((j : Int) + 1) = ((j + 1 : Nat) : Int) := by unfold wrap64; omega
theorem wpred {j : Nat} (h : 0 < j) (h2 : j ≤ 9223372036854775807) : wrap64 ((j : Int) - 1) = ((j - 1 : Nat) : Int) := by unfold wrap64; omega
theorem wid {x : Int} (h : -9223372036854775808 ≤ x) (h2 : x ≤ 9223372036854775807) : wrap64 x = x := by unfold wrap64; omega

/-! ### lists -/
theorem rd_nat (l : List Int) (j : Nat) : rd l (j : Int) = l.getD j 0 := by simp [rd]
theorem drop_cons {α : Type} {l : List α} {j : Nat} (h : j < l.length) (d : α) : l.drop j = l.getD j d :: l.drop (j + 1) := by
  rw [List.drop_eq_getElem_cons h]
  simp [List.getD_eq_getElem?_getD, List.getElem?_eq_getElem h]
theorem getD_eq {α : Type} {l : List α} {j : Nat} (h : j < l.length) (d : α) : l.getD j d = l[j] := by
  simp [List.getD_eq_getElem?_getD, List.getElem?_eq_getElem h]
theorem getD_mem {α : Type} {l : List α} {j : Nat} (h : j < l.length) (d : α) : l.getD j d ∈ l := by
  rw [getD_eq h]; exact List.getElem_mem h
/-- One more element copied. -/
theorem copy_step {α : Type} {xs ys : List α} {j : Nat} {v : α} (hx : j < xs.length) (hy : j < ys.length) (hv : v = ys.getD j v) : (xs.set j v).take (j + 1) ++ ys.drop (j + 1) = xs.take j ++ ys.drop j := by
  rw [drop_cons hy v, ← hv, List.take_succ_eq_append_getElem (by simpa using hx), List.take_set_of_le (Nat.le_refl j)]
  simp
theorem take_all_drop {α : Type} {xs ys : List α} {j : Nat} (h : xs.length = ys.length) (hj : ys.length ≤ j) : xs.take j ++ ys.drop j = xs := by
  rw [List.drop_of_length_le hj, List.take_of_length_le (by omega), List.append_nil]

/-! ### searches by a predicate -/
theorem anyO_tells {α : Type} {q : Nat → α → Option Bool} {P : α → Prop} : ∀ l : List α, (∀ x ∈ l, Tells (fun k => q k x) (P x)) → Tells (fun k => anyO (q k) l) (∃ x ∈ l, P x)
  | [], _ => tells_no (by simp)
  | x :: t, h => by
    refine tells_ask (h x (by simp)) (fun hx => tells_pos rfl (tells_yes ⟨x, by simp, hx⟩)) (fun hx => tells_neg (by simp) ?_)
    exact tells_iff (anyO_tells t (fun y hy => h y (by simp [hy]))) ⟨fun ⟨y, hy, hp⟩ => ⟨y, by simp [hy], hp⟩, fun ⟨y, hy, hp⟩ => by
      rcases List.mem_cons.1 hy with rfl | hy
      · exact absurd hp hx
      · exact ⟨y, hy, hp⟩⟩

/-! ### loops of three forms: copies, comparisons, budgets -/
theorem copy_loop {α β : Type} (L : Nat → List β → Int → Option (List β)) (l : List α) (c : α → β) (z : α)
    (hs : ∀ (j : Nat) (y : List β) (r : List β), j < l.length → y.length = l.length → Ev (fun k => L k (y.set j (c (l.getD j z))) ((j + 1 : Nat) : Int)) r → Ev (fun k => L k y (j : Int)) r)
    (he : ∀ y : List β, y.length = l.length → Ev (fun k => L k y (l.length : Int)) y) (d : Nat) : ∀ (j : Nat) (y : List β), y.length = l.length → j + d = l.length → Ev (fun k => L k y (j : Int)) (y.take j ++ (l.map c).drop j) := by
  induction d with
  | zero =>
    intro j y hy hd
    rw [take_all_drop (xs := y) (ys := l.map c) (by simpa using hy) (by simp; omega)]
    obtain rfl : j = l.length := by omega
    exact he y hy
  | succ d ih =>
    intro j y hy hd
    refine hs j y _ (by omega) hy ?_
    refine ev_eq (ih (j + 1) _ (by simpa using hy) (by omega)) (copy_step (by omega) (by simp; omega) ?_)
    rw [getD_eq (l := l.map c) (by simp; omega), getD_eq (l := l) (by omega)]; simp
theorem copy_all {α β : Type} (L : Nat → List β → Int → Option (List β)) (l : List α) (c : α → β) (z : α) (zb : β)
    (hs : ∀ (j : Nat) (y : List β) (r : List β), j < l.length → y.length = l.length → Ev (fun k => L k (y.set j (c (l.getD j z))) ((j + 1 : Nat) : Int)) r → Ev (fun k => L k y (j : Int)) r)
    (he : ∀ y : List β, y.length = l.length → Ev (fun k => L k y (l.length : Int)) y) : Ev (fun k => L k (List.replicate l.length zb) 0) (l.map c) :=
  ev_eq (copy_loop L l c z hs he l.length 0 _ (by simp) (by omega)) (by simp)
theorem all_loop (L : Nat → Int → Option Bool) (n : Nat) (hs : ∀ j : Nat, j < n → Ev (fun k => L k ((j + 1 : Nat) : Int)) true → Ev (fun k => L k (j : Int)) true) (he : Ev (fun k => L k (n : Int)) true) (d : Nat) : ∀ j : Nat, j + d = n → Ev (fun k => L k (j : Int)) true := by
  induction d with
  | zero =>
    intro j hd
    obtain rfl : j = n := by omega
    exact he
  | succ d ih => exact fun j hd => hs j (by omega) (ih (j + 1) (by omega))
theorem sz_loop {α : Type} (E : Nat → α → Int → Option Int) (L : Nat → Int → Int → Option Int) (P : α → Prop) (l : List α) (z : α)
    (hE : ∀ x ∈ l, ∀ a : Int, 0 ≤ a → a ≤ 1048576 → ∃ t, Ev (fun k => E k x a) t ∧ (0 ≤ t → t ≤ a ∧ P x))
    (hs : ∀ (j : Nat) (a : Int) (r : Int), j < l.length → Ev (fun k => (E k (l.getD j z) a).bind fun t => if t < 0 then some (-1) else L k t ((j + 1 : Nat) : Int)) r → Ev (fun k => L k a (j : Int)) r)
    (he : ∀ a : Int, Ev (fun k => L k a (l.length : Int)) a) (d : Nat) : ∀ (j : Nat) (a : Int), j + d = l.length → 0 ≤ a → a ≤ 1048576 → ∃ t, Ev (fun k => L k a (j : Int)) t ∧ (0 ≤ t → t ≤ a ∧ ∀ x ∈ l.drop j, P x) := by
  induction d with
  | zero =>
    intro j a hd h0 h1
    obtain rfl : j = l.length := by omega
    exact ⟨a, he a, fun _ => ⟨Int.le_refl _, by simp⟩⟩
  | succ d ih =>
    intro j a hd h0 h1
    have hj : j < l.length := by omega
    obtain ⟨t, ht, hp⟩ := hE _ (getD_mem hj z) a h0 h1
    by_cases h : t < 0
    · exact ⟨-1, hs j a _ hj (Ev.bind ht (ev_pos h (Ev.now _))), fun h => by omega⟩
    · obtain ⟨h2, h3⟩ := hp (by omega)
      obtain ⟨u, hu, hq⟩ := ih (j + 1) t (by omega) (by omega) (by omega)
      refine ⟨u, hs j a _ hj (Ev.bind ht (ev_neg h hu)), fun h4 => ?_⟩
      obtain ⟨h5, h6⟩ := hq h4
      refine ⟨by omega, fun x hx => ?_⟩
      rw [drop_cons hj z] at hx
      rcases List.mem_cons.1 hx with rfl | hx
      · exact h3
      · exact h6 x hx

/-! ### marks -/
/-- a, a + 1, .. -/
def cnt : Nat → Int → List Int
  | 0, _ => []
  | n + 1, a => a :: cnt n (a + 1)
theorem cnt_length : ∀ n a, (cnt n a).length = n
  | 0, _ => rfl
  | n + 1, a => by simp [cnt, cnt_length n]
/-- Rows of rows, marked. -/
def cnt2 {α : Type} : List (List α) → Int → List (List Int)
  | [], _ => []
  | x :: t, a => cnt x.length a :: cnt2 t (a + x.length)
def tot {α : Type} : List (List α) → Nat
  | [] => 0
  | x :: t => x.length + tot t
theorem tot_le {α : Type} {c : Nat} : ∀ (l : List (List α)), (∀ x ∈ l, x.length ≤ c) → tot l ≤ l.length * c
  | [], _ => by simp [tot]
  | x :: t, h => by
    have h1 := tot_le t (fun y hy => h y (by simp [hy]))
    have h2 := h x (by simp)
    simp only [tot, List.length_cons, Nat.succ_mul]; omega
theorem cnt2_length {α : Type} : ∀ (l : List (List α)) (a : Int), (cnt2 l a).length = l.length
  | [], _ => rfl
  | x :: t, a => by simp [cnt2, cnt2_length t]
end Go.Proofs.Ytgcglmkkfkjhhaa.Aid
