/- The pure statement of the law FnExactGoodGraph: what the printed functions compute makes the law true, for every input. No condition. -/
import Derived.Test.YtdaodonjikaalaaOpen
import Derived.Test.YtdaodonjikaalaaAid
import Derived.Test.YtdaodonjikaalaaP16
set_option linter.unusedVariables false
set_option linter.unusedSimpArgs false
namespace Go.Proofs.Ytdaodonjikaalaa.Pure
open Go.RowKit Go.Proofs.YtdaodonjikaalaaW.PrintWords Go.Proofs.Ytdaodonjikaalaa.P Go.Proofs.Ytdaodonjikaalaa.Open Go.Proofs.Ytdaodonjikaalaa.Aid
-- LEMMAS
theorem szIntS_eq (l : List Int) (a : Int) (ha : 0 ≤ a ∧ a ≤ 1048576) (hl : l.length ≤ 9223372036854775807) : laws_szIntS.f l a = some (if (l.length : Int) ≤ a then a - l.length else -1) := by
  have e : wrap64 (a - (l.length : Int)) = a - l.length := wid (by omega) (by omega)
  simp only [laws_szIntS.f]
  rw [e]
  by_cases h : (l.length : Int) ≤ a
  · rw [if_neg (by omega), if_pos h]
  · rw [if_pos (by omega), if_neg h]

theorem szIntSS_l0 (l : List (List Int)) (hl : l.length ≤ 9223372036854775807) (hx : ∀ x ∈ l, x.length ≤ 9223372036854775807) (d : Nat) : ∀ (j : Nat) (a : Int), 0 ≤ a → a ≤ 1048576 → j + d = l.length →
    ∃ t, Ev (fun k => laws_szIntSS.l0 k l a (j : Int)) t ∧ (0 ≤ t → t ≤ a ∧ ∀ x ∈ l.drop j, (x.length : Int) ≤ a) := by
  induction d with
  | zero =>
    intro j a h0 h1 hd
    refine ⟨a, Ev.step (f := fun _ => some a) (fun k => by simp only [laws_szIntSS.l0]; rw [if_neg (by omega)]) (Ev.now a), fun _ => ⟨by omega, ?_⟩⟩
    rw [List.drop_of_length_le (by omega)]; simp
  | succ d ih =>
    intro j a h0 h1 hd
    have hj : j < l.length := by omega
    have e1 : ∀ k, laws_szIntSS.l0 (k + 1) l a (j : Int) = ((laws_szIntS.f (rd_L1 l (j : Int)) a).bind fun t => (if t < 0 then (some (-1)) else (laws_szIntSS.l0 k l t ((j + 1 : Nat) : Int)))) := fun k => by
      simp only [laws_szIntSS.l0]; rw [if_pos (by omega), if_pos (by omega), wsucc (by omega)]
    have er : rd_L1 l (j : Int) = l.getD j [] := by simp [rd_L1]
    have hm := getD_mem hj ([] : List Int)
    rw [er, szIntS_eq _ a ⟨h0, h1⟩ (hx _ hm)] at e1
    simp only [Option.bind_some] at e1
    by_cases h : ((l.getD j []).length : Int) ≤ a
    · rw [if_pos h] at e1
      obtain ⟨t, ht, hp⟩ := ih (j + 1) (a - (l.getD j []).length) (by omega) (by omega) (by omega)
      refine ⟨t, Ev.step e1 (ev_neg (by omega) ht), fun h2 => ?_⟩
      obtain ⟨h3, h4⟩ := hp h2
      refine ⟨by omega, fun x hx' => ?_⟩
      rw [drop_cons hj []] at hx'
      rcases List.mem_cons.1 hx' with rfl | hx'
      · exact h
      · have := h4 x hx'; omega
    · rw [if_neg h] at e1
      exact ⟨-1, Ev.step e1 (ev_pos (by omega) (Ev.now _)), fun h => by omega⟩
theorem szIntSS_ev (l : List (List Int)) (a : Int) (ha : 0 ≤ a ∧ a ≤ 1048576) (hl : l.length ≤ 9223372036854775807) (hx : ∀ x ∈ l, x.length ≤ 9223372036854775807) :
    ∃ t, Ev (fun k => laws_szIntSS.f k l a) t ∧ (0 ≤ t → t ≤ a ∧ (l.length : Int) ≤ a ∧ ∀ x ∈ l, (x.length : Int) ≤ a) := by
  have e : wrap64 (a - (l.length : Int)) = a - l.length := wid (by omega) (by omega)
  by_cases h : (l.length : Int) ≤ a
  · obtain ⟨t, ht, hp⟩ := szIntSS_l0 l hl hx l.length 0 (a - l.length) (by omega) (by omega) (by omega)
    refine ⟨t, Ev.congr (fun k => by simp only [laws_szIntSS.f]; rw [e, if_neg (by omega)]; rfl) ht, fun h2 => ?_⟩
    obtain ⟨h3, h4⟩ := hp h2
    exact ⟨by omega, h, fun x hx' => by have := h4 x (by simpa using hx'); omega⟩
  · exact ⟨-1, Ev.congr (f := fun _ => some (-1)) (fun k => by simp only [laws_szIntSS.f]; rw [e, if_pos (by omega)]) (Ev.now _), fun h => by omega⟩

theorem szGraph_ev (l : List (List Int)) (hl : l.length ≤ 9223372036854775807) (hx : ∀ x ∈ l, x.length ≤ 9223372036854775807) :
    ∃ t, Ev (fun k => laws_szGraph.f k l 1048576) t ∧ (0 ≤ t → t ≤ 1048576 ∧ l.length ≤ 1048576 ∧ ∀ x ∈ l, x.length ≤ 1048576) := by
  obtain ⟨t, ht, hp⟩ := szIntSS_ev l 1048576 (by omega) hl hx
  by_cases h : t < 0
  · exact ⟨-1, (Ev.bind ht (ev_pos h (Ev.now _))), fun h => by omega⟩
  · refine ⟨t, (Ev.bind ht (ev_neg h (Ev.now _))), fun h => ?_⟩
    obtain ⟨h1, h2, h3⟩ := hp h
    exact ⟨h1, by omega, fun x hx' => by have := h3 x hx'; omega⟩

theorem l1In_eq (n lo hi : Int) : spec_l1In.f n lo hi = some (decide (lo ≤ n ∧ n ≤ hi)) := by
  simp only [spec_l1In.f]
  by_cases h : n ≥ lo
  · rw [if_pos h]; congr 1; simp; intro _; exact h
  · rw [if_neg h]; congr 1; simp; intro h'; omega
theorem l1In_tells (n lo hi : Int) : Tells (fun _ => spec_l1In.f n lo hi) (lo ≤ n ∧ n ≤ hi) := by
  simp only [l1In_eq]; exact tells_some (by simp)

/-- Element i lies within the bounds, and above the one ahead of it. -/
def RiseAt (l : List Int) (lo hi : Int) (i : Nat) : Prop := (lo ≤ l.getD i 0 ∧ l.getD i 0 ≤ hi) ∧ (0 < i → l.getD (i - 1) 0 < l.getD i 0)
def Rising (l : List Int) (lo hi : Int) : Prop := ∀ i, i < l.length → RiseAt l lo hi i
theorem from_here {n j : Nat} {P : Nat → Prop} (hj : j < n) : (∀ i, j ≤ i → i < n → P i) ↔ P j ∧ ∀ i, j + 1 ≤ i → i < n → P i :=
  ⟨fun h => ⟨h j (Nat.le_refl _) hj, fun i h1 h2 => h i (by omega) h2⟩, fun ⟨h0, h⟩ i h1 h2 => by
    rcases Nat.eq_or_lt_of_le h1 with e | e
    · exact e ▸ h0
    · exact h i e h2⟩
theorem l1Rising_l0 (l : List Int) (lo hi : Int) (hl : l.length ≤ 9223372036854775807) (d : Nat) : ∀ (j : Nat), j + d = l.length →
    Tells (fun k => spec_l1Rising.l0 k l lo hi l (l.length : Int) (j : Int)) (∀ i, j ≤ i → i < l.length → RiseAt l lo hi i) := by
  induction d with
  | zero => exact fun j hd => tells_step (f := fun _ => some true) (fun k => by simp only [spec_l1Rising.l0]; rw [if_neg (by omega)]) (tells_yes (fun i h1 h2 => by omega))
  | succ d ih =>
    intro j hd
    have hj : j < l.length := by omega
    refine tells_step (fun k => by simp only [spec_l1Rising.l0]; rw [if_pos (by omega), if_pos (by omega), if_pos (by omega), wsucc (by omega), rd_nat]) ?_
    refine tells_iff ?_ (from_here hj).symm
    refine tells_ask (l1In_tells _ lo hi) (fun hin => ?_) (fun hin => ?_)
    · refine tells_pos rfl ?_
      by_cases h0 : 0 < j
      · refine tells_pos (by omega) ?_
        rw [wpred h0 (by omega), rd_nat]
        refine tells_pos (by omega) (tells_pos (by omega) (tells_if (fun hc => ?_) (fun hc => ?_)))
        · exact tells_no (fun h => by have := h.1.2 h0; omega)
        · exact tells_iff (ih (j + 1) (by omega)) ⟨fun h => ⟨⟨hin, fun _ => by omega⟩, h⟩, fun h => h.2⟩
      · refine tells_neg (by omega) ?_
        exact tells_iff (ih (j + 1) (by omega)) ⟨fun h => ⟨⟨hin, fun h1 => absurd h1 h0⟩, h⟩, fun h => h.2⟩
    · exact tells_neg (by simp) (tells_no (fun h => hin h.1.1))
theorem l1Rising_tells (l : List Int) (lo hi : Int) (hl : l.length ≤ 9223372036854775807) : Tells (fun k => spec_l1Rising.f k l lo hi) (Rising l lo hi) :=
  (tells_iff (l1Rising_l0 l lo hi hl l.length 0 (by omega)) ⟨fun h i hi => h i (Nat.zero_le _) hi, fun h i _ hi => h i hi⟩)
theorem rising_ge {l : List Int} {lo hi : Int} (h : Rising l lo hi) : ∀ i, i < l.length → lo + i ≤ l.getD i 0
  | 0, hi => by have := (h 0 hi).1.1; omega
  | i + 1, hi => by
    have h1 := rising_ge h i (by omega)
    have h2 := (h (i + 1) hi).2 (by omega)
    simp only [Nat.add_sub_cancel] at h2
    omega
theorem rising_len {l : List Int} {lo hi : Int} (h : Rising l lo hi) (hb : lo ≤ hi + 1) : (l.length : Int) ≤ hi - lo + 1 := by
  by_cases h0 : l.length = 0
  · omega
  · have h1 := rising_ge h (l.length - 1) (by omega)
    have h2 := (h (l.length - 1) (by omega)).1.2
    omega

theorem l11Points_tells (l : List Int) (n : Nat) (hl : l.length ≤ 9223372036854775807) (hn : n ≤ 9223372036854775807) : Tells (fun k => spec_l11Points.f k l (n : Int)) (Rising l 0 ((n : Int) - 1)) := by
  have e : wrap64 ((n : Int) - 1) = (n : Int) - 1 := wid (by omega) (by omega)
  refine tells_congr (fun k => by simp only [spec_l11Points.f]; rw [e]) ?_
  exact tells_ask (l1Rising_tells l 0 _ hl) (fun h => tells_yes h) (fun h => tells_no h)

/-- How many arrows. -/
def arcs (l : List (List Int)) : Nat := (l.map List.length).sum
def GG (l : List (List Int)) : Prop := l.length ≤ 1200 ∧ (∀ x ∈ l, Rising x 0 ((l.length : Int) - 1)) ∧ arcs l ≤ 20000
theorem arcs_cons (x : List Int) (l : List (List Int)) : arcs (x :: l) = x.length + arcs l := by simp [arcs]
theorem row_short {x : List Int} {n : Nat} (h : Rising x 0 ((n : Int) - 1)) : x.length ≤ n := by have := rising_len h (by omega); omega
theorem spec_GoodGraph_l0 (l : List (List Int)) (hn : l.length ≤ 1200) (hx : ∀ x ∈ l, x.length ≤ 9223372036854775807) (d : Nat) : ∀ (j : Nat) (a : Nat), a ≤ 1200 * j → j + d = l.length →
    Tells (fun k => spec_GoodGraph.l0 k (a : Int) l (l.length : Int) (j : Int) l) ((∀ x ∈ l.drop j, Rising x 0 ((l.length : Int) - 1)) ∧ a + arcs (l.drop j) ≤ 20000) := by
  induction d with
  | zero =>
    intro j a ha hd
    refine tells_step (f := fun _ => some (decide ((a : Int) ≤ 20000))) (fun k => by simp only [spec_GoodGraph.l0]; rw [if_neg (by omega)]) (tells_some ?_)
    rw [List.drop_of_length_le (by omega)]
    simp [arcs] <;> omega
  | succ d ih =>
    intro j a ha hd
    have hj : j < l.length := by omega
    have er : rd_L1 l (j : Int) = l.getD j [] := by simp [rd_L1]
    have hm := hx _ (getD_mem hj [])
    refine tells_step (fun k => by simp only [spec_GoodGraph.l0]; rw [if_pos (by omega), if_pos (by omega), if_pos (by omega), er, wsucc (by omega)]) ?_
    rw [drop_cons hj [], arcs_cons]
    generalize l.getD j [] = x at hm ⊢
    refine tells_if (fun h => tells_no (fun h2 => ?_)) (fun h => ?_)
    · have := row_short (h2.1 x (by simp)); omega
    · refine tells_ask (l11Points_tells x l.length hm (by omega)) (fun hr => tells_pos rfl ?_) (fun hr => tells_neg (by simp) (tells_no (fun h2 => hr (h2.1 x (by simp)))))
      have hs := row_short hr
      rw [wid (x := (a : Int) + (x.length : Int)) (by omega) (by omega)]
      have e : (a : Int) + (x.length : Int) = ((a + x.length : Nat) : Int) := by omega
      rw [e]
      refine tells_iff (ih (j + 1) (a + x.length) (by omega) (by omega)) ⟨fun ⟨h1, h2⟩ => ⟨fun y hy => ?_, by omega⟩, fun ⟨h1, h2⟩ => ⟨fun y hy => h1 y (List.mem_cons_of_mem _ hy), by omega⟩⟩
      rcases List.mem_cons.1 hy with rfl | hy
      · exact hr
      · exact h1 y hy
theorem spec_GoodGraph_tells (l : List (List Int)) (hx : ∀ x ∈ l, x.length ≤ 9223372036854775807) : Tells (fun k => spec_GoodGraph.f k l) (GG l) := by
  refine tells_if (fun h => tells_no (fun h2 => by have := h2.1; omega)) (fun h => ?_)
  exact tells_iff (spec_GoodGraph_l0 l (by omega) hx l.length 0 0 (by omega) (by omega)) ⟨fun ⟨h1, h2⟩ => ⟨by omega, by simpa using h1, by simpa using h2⟩, fun ⟨_, h1, h2⟩ => ⟨by simpa using h1, by simpa using h2⟩⟩

theorem toIntS_l0 (l : List Int) (hl : l.length ≤ 1048576) (d : Nat) : ∀ (j : Nat) (y : List Int), y.length = l.length → j + d = l.length → Ev (fun k => laws_toIntS.l0 k l y (j : Int)) (y.take j ++ l.drop j) := by
  induction d with
  | zero =>
    intro j y hy hd
    rw [take_all_drop hy (by omega)]
    exact Ev.step (f := fun _ => some y) (fun k => by simp only [laws_toIntS.l0]; rw [if_neg (by omega)]) (Ev.now y)
  | succ d ih =>
    intro j y hy hd
    refine Ev.step (f := fun k => laws_toIntS.l0 k l (y.set j (rd l (j : Int))) ((j + 1 : Nat) : Int)) (fun k => by simp only [laws_toIntS.l0]; rw [if_pos (by omega), if_pos (by omega), if_pos (by omega), wsucc (by omega)]; rfl) ?_
    refine ev_eq (ih (j + 1) _ (by simpa using hy) (by omega)) (copy_step (by omega) (by omega) ?_)
    rw [rd_nat, getD_eq (by omega), getD_eq (by omega)]
theorem toIntS_ev (l : List Int) (hl : l.length ≤ 1048576) : Ev (fun k => laws_toIntS.f k l) l := by
  refine Ev.congr (f := fun k => laws_toIntS.l0 k l (List.replicate l.length 0) ((0 : Nat) : Int)) (fun k => by simp only [laws_toIntS.f]; rw [if_pos (by omega), if_pos (by simp only [Int.toNat_natCast]; omega)]; rfl) ?_
  exact ev_eq (toIntS_l0 l hl l.length 0 _ (by simp) (by omega)) (by simp)

theorem toIntSS_l0 (l : List (List Int)) (hl : l.length ≤ 1048576) (hx : ∀ x ∈ l, x.length ≤ 1048576) (d : Nat) : ∀ (j : Nat) (y : List (List Int)), y.length = l.length → j + d = l.length → Ev (fun k => laws_toIntSS.l0 k l y (j : Int)) (y.take j ++ l.drop j) := by
  induction d with
  | zero =>
    intro j y hy hd
    rw [take_all_drop hy (by omega)]
    exact Ev.step (f := fun _ => some y) (fun k => by simp only [laws_toIntSS.l0]; rw [if_neg (by omega)]) (Ev.now y)
  | succ d ih =>
    intro j y hy hd
    have er : rd_L1 l (j : Int) = l.getD j [] := by simp [rd_L1]
    refine Ev.step (f := fun k => (laws_toIntS.f k (l.getD j [])).bind fun t => laws_toIntSS.l0 k l (y.set j t) ((j + 1 : Nat) : Int)) (fun k => by simp only [laws_toIntSS.l0]; rw [if_pos (by omega), if_pos (by omega), er, wsucc (by omega)]; simp only [if_pos (show (j : Int) < (y.length : Int) by omega)]; rfl) ?_
    refine Ev.bind (toIntS_ev _ (hx _ (getD_mem (by omega) _))) ?_
    exact ev_eq (ih (j + 1) _ (by simpa using hy) (by omega)) (copy_step (by omega) (by omega) (by rw [getD_eq (by omega), getD_eq (by omega)]))
theorem toIntSS_ev (l : List (List Int)) (hl : l.length ≤ 1048576) (hx : ∀ x ∈ l, x.length ≤ 1048576) : Ev (fun k => laws_toIntSS.f k l) l := by
  refine Ev.congr (f := fun k => laws_toIntSS.l0 k l (List.replicate l.length []) ((0 : Nat) : Int)) (fun k => by simp only [laws_toIntSS.f]; rw [if_pos (by omega), if_pos (by simp only [Int.toNat_natCast]; omega)]; rfl) ?_
  exact ev_eq (toIntSS_l0 l hl hx l.length 0 _ (by simp) (by omega)) (by simp)

theorem toGraph_ev (l : List (List Int)) (hl : l.length ≤ 1048576) (hx : ∀ x ∈ l, x.length ≤ 1048576) : Ev (fun k => laws_toGraph.f k l) l :=
  (Ev.bind (toIntSS_ev l hl hx) (Ev.now l))

theorem isIncreasing_l0 (l : List Int) (b : Int) (hl : l.length ≤ 9223372036854775807) (d : Nat) : ∀ (j : Nat), j + d = l.length →
    Tells (fun k => impl_isIncreasing.l0 k l b l (l.length : Int) (j : Int)) (∀ i, j ≤ i → i < l.length → RiseAt l 0 (b - 1) i) := by
  induction d with
  | zero => exact fun j hd => tells_step (f := fun _ => some true) (fun k => by simp only [impl_isIncreasing.l0]; rw [if_neg (by omega)]) (tells_yes (fun i h1 h2 => by omega))
  | succ d ih =>
    intro j hd
    have hj : j < l.length := by omega
    refine tells_step (fun k => by simp only [impl_isIncreasing.l0]; rw [if_pos (by omega), if_pos (by omega), if_pos (by omega), wsucc (by omega), rd_nat]) ?_
    refine tells_iff ?_ (from_here hj).symm
    refine tells_if (fun h1 => tells_no (fun h => by have := h.1.1.1; omega)) (fun h1 => ?_)
    refine tells_if (fun h2 => tells_no (fun h => by have := h.1.1.2; omega)) (fun h2 => ?_)
    by_cases h0 : 0 < j
    · refine tells_pos (by omega) ?_
      rw [wpred h0 (by omega), rd_nat]
      refine tells_pos (by omega) (tells_pos (by omega) (tells_if (fun hc => ?_) (fun hc => ?_)))
      · exact tells_no (fun h => by have := h.1.2 h0; omega)
      · exact tells_iff (ih (j + 1) (by omega)) ⟨fun h => ⟨⟨⟨by omega, by omega⟩, fun _ => by omega⟩, h⟩, fun h => h.2⟩
    · refine tells_neg (by omega) ?_
      exact tells_iff (ih (j + 1) (by omega)) ⟨fun h => ⟨⟨⟨by omega, by omega⟩, fun h1 => absurd h1 h0⟩, h⟩, fun h => h.2⟩
theorem isIncreasing_tells (l : List Int) (b : Int) (hl : l.length ≤ 9223372036854775807) : Tells (fun k => impl_isIncreasing.f k l b) (Rising l 0 (b - 1)) :=
  (tells_iff (isIncreasing_l0 l b hl l.length 0 (by omega)) ⟨fun h i hi => h i (Nat.zero_le _) hi, fun h i _ hi => h i hi⟩)

theorem impl_GoodGraph_l0 (l : List (List Int)) (hn : l.length ≤ 1200) (hx : ∀ x ∈ l, x.length ≤ 9223372036854775807) (d : Nat) : ∀ (j : Nat) (a : Nat), a ≤ 1200 * j → j + d = l.length →
    Tells (fun k => impl_GoodGraph.l0 k (a : Int) l (l.length : Int) (j : Int) l) ((∀ x ∈ l.drop j, Rising x 0 ((l.length : Int) - 1)) ∧ a + arcs (l.drop j) ≤ 20000) := by
  induction d with
  | zero =>
    intro j a ha hd
    refine tells_step (f := fun _ => some (decide ((a : Int) ≤ 20000))) (fun k => by simp only [impl_GoodGraph.l0]; rw [if_neg (by omega)]) (tells_some ?_)
    rw [List.drop_of_length_le (by omega)]
    simp [arcs] <;> omega
  | succ d ih =>
    intro j a ha hd
    have hj : j < l.length := by omega
    have er : rd_L1 l (j : Int) = l.getD j [] := by simp [rd_L1]
    have hm := hx _ (getD_mem hj [])
    refine tells_step (fun k => by simp only [impl_GoodGraph.l0]; rw [if_pos (by omega), if_pos (by omega), if_pos (by omega), er, wsucc (by omega)]) ?_
    rw [drop_cons hj [], arcs_cons]
    generalize l.getD j [] = x at hm ⊢
    refine tells_ask (isIncreasing_tells x (l.length : Int) hm) (fun hr => tells_pos rfl ?_) (fun hr => tells_neg (by simp) (tells_no (fun h2 => hr (h2.1 x (by simp)))))
    have hs := row_short hr
    rw [wid (x := (a : Int) + (x.length : Int)) (by omega) (by omega)]
    have e : (a : Int) + (x.length : Int) = ((a + x.length : Nat) : Int) := by omega
    rw [e]
    refine tells_iff (ih (j + 1) (a + x.length) (by omega) (by omega)) ⟨fun ⟨h1, h2⟩ => ⟨fun y hy => ?_, by omega⟩, fun ⟨h1, h2⟩ => ⟨fun y hy => h1 y (List.mem_cons_of_mem _ hy), by omega⟩⟩
    rcases List.mem_cons.1 hy with rfl | hy
    · exact hr
    · exact h1 y hy
theorem impl_GoodGraph_tells (l : List (List Int)) (hx : ∀ x ∈ l, x.length ≤ 9223372036854775807) : Tells (fun k => impl_GoodGraph.f k l) (GG l) := by
  refine tells_if (fun h => tells_no (fun h2 => by have := h2.1; omega)) (fun h => ?_)
  exact tells_iff (impl_GoodGraph_l0 l (by omega) hx l.length 0 0 (by omega) (by omega)) ⟨fun ⟨h1, h2⟩ => ⟨by omega, by simpa using h1, by simpa using h2⟩, fun ⟨_, h1, h2⟩ => ⟨by simpa using h1, by simpa using h2⟩⟩

theorem eqIntS_l0 (l : List Int) (hl : l.length ≤ 9223372036854775807) (d : Nat) : ∀ (j : Nat), j + d = l.length → Ev (fun k => laws_eqIntS.l0 k l l (j : Int)) true := by
  induction d with
  | zero => exact fun j hd => Ev.step (f := fun _ => some true) (fun k => by simp only [laws_eqIntS.l0]; rw [if_neg (by omega)]) (Ev.now _)
  | succ d ih => exact fun j hd => Ev.step (fun k => by simp only [laws_eqIntS.l0, if_true]; rw [if_pos (by omega), if_pos (by omega), if_pos (by omega), wsucc (by omega)]) (ih (j + 1) (by omega))
theorem eqIntS_ev (l : List Int) (hl : l.length ≤ 9223372036854775807) : Ev (fun k => laws_eqIntS.f k l l) true :=
  Ev.congr (fun k => by simp only [laws_eqIntS.f, if_true]; rfl) (eqIntS_l0 l hl l.length 0 (by omega))

theorem eqIntSS_l0 (l : List (List Int)) (hl : l.length ≤ 9223372036854775807) (hx : ∀ x ∈ l, x.length ≤ 9223372036854775807) (d : Nat) : ∀ (j : Nat), j + d = l.length → Ev (fun k => laws_eqIntSS.l0 k l l (j : Int)) true := by
  induction d with
  | zero => exact fun j hd => Ev.step (f := fun _ => some true) (fun k => by simp only [laws_eqIntSS.l0]; rw [if_neg (by omega)]) (Ev.now _)
  | succ d ih =>
    intro j hd
    have er : rd_L1 l (j : Int) = l.getD j [] := by simp [rd_L1]
    exact Ev.step (fun k => by simp only [laws_eqIntSS.l0]; rw [if_pos (by omega), if_pos (by omega), if_pos (by omega), wsucc (by omega), er]) (Ev.bind (eqIntS_ev _ (hx _ (getD_mem (by omega) _))) (ev_pos rfl (ih (j + 1) (by omega))))
theorem eqIntSS_ev (l : List (List Int)) (hl : l.length ≤ 9223372036854775807) (hx : ∀ x ∈ l, x.length ≤ 9223372036854775807) : Ev (fun k => laws_eqIntSS.f k l l) true :=
  Ev.congr (fun k => by simp only [laws_eqIntSS.f, if_true]; rfl) (eqIntSS_l0 l hl hx l.length 0 (by omega))

theorem eqGraph_ev (l : List (List Int)) (hl : l.length ≤ 9223372036854775807) (hx : ∀ x ∈ l, x.length ≤ 9223372036854775807) : Ev (fun k => laws_eqGraph.f k l l) true :=
  (Ev.bind (eqIntSS_ev l hl hx) (ev_pos rfl (Ev.now _)))

theorem FnExactGoodGraph : ∀ (l0_0 : List (List (Int))), (l0_0.length ≤ 9223372036854775807 ∧ ∀ x ∈ l0_0, x.length ≤ 9223372036854775807 ∧ ∀ x' ∈ x, In64 x') → ∃ k, laws_FnExactGoodGraph.f k l0_0 = some true := by
  intro l hg
  obtain ⟨t, ht, hp⟩ := szGraph_ev l hg.1 (fun x hx => (hg.2 x hx).1)
  refine Ev.rounds ?_
  refine Ev.bind ht ?_
  by_cases h : t < 0
  · exact ev_pos h (Ev.now _)
  refine ev_neg h ?_
  obtain ⟨_, h1, h2⟩ := hp (by omega)
  have h3 : ∀ x ∈ l, x.length ≤ 9223372036854775807 := fun x hx => by have := h2 x hx; omega
  obtain ⟨b, hb, hb'⟩ := tells_both (spec_GoodGraph_tells l h3) (impl_GoodGraph_tells l h3)
  refine Ev.bind (toGraph_ev l h1 h2) (Ev.bind hb (Ev.bind (toGraph_ev l h1 h2) (Ev.bind hb' (ev_neg (by simp) ?_))))
  exact Ev.bind (toGraph_ev l h1 h2) (Ev.bind (eqGraph_ev l (by omega) h3) (ev_pos rfl (Ev.now _)))

end Go.Proofs.Ytdaodonjikaalaa.Pure
