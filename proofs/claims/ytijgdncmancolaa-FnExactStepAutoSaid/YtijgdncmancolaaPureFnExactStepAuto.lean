/- The pure statement of the law FnExactStepAuto: what the printed functions compute makes the law true, for every input. No condition. -/
import Derived.Test.YtijgdncmancolaaOpen
import Derived.Test.YtijgdncmancolaaAid
import Derived.Test.YtijgdncmancolaaMFnExactStepAuto4
set_option linter.unusedVariables false
set_option linter.unusedSimpArgs false
namespace Go.Proofs.Ytijgdncmancolaa.Pure
open Go.RowKit Go.Proofs.YtijgdncmancolaaW.PrintWords Go.Proofs.Ytijgdncmancolaa.P Go.Proofs.Ytijgdncmancolaa.Hof Go.Proofs.Ytijgdncmancolaa.Open Go.Proofs.Ytijgdncmancolaa.Aid
-- LEMMAS
theorem szIntS_eq (l : List Int) (a : Int) (ha : 0 ≤ a ∧ a ≤ 1048576) (hl : l.length ≤ 9223372036854775807) : laws_szIntS.f l a = some (if (l.length : Int) ≤ a then a - l.length else -1) := by
  have e : wrap64 (a - (l.length : Int)) = a - l.length := wid (by omega) (by omega)
  simp only [laws_szIntS.f]
  rw [e]
  by_cases h : (l.length : Int) ≤ a
  · rw [if_neg (by omega), if_pos h]
  · rw [if_pos (by omega), if_neg h]

theorem szEdgeS_eq (l : List S61) (n : Int) (hl : l.length ≤ 9223372036854775807) (h0 : 0 ≤ n) (h1 : n ≤ 1048576) : laws_szEdgeS.f l n = some (if (l.length : Int) ≤ n then n - (l.length : Int) else -1) := by
  have e : wrap64 (n - (l.length : Int)) = n - l.length := wid (by omega) (by omega)
  simp only [laws_szEdgeS.f]
  rw [e]
  by_cases h : (l.length : Int) ≤ n
  · rw [if_neg (by omega), if_pos h]
  · rw [if_pos (by omega), if_neg h]

theorem szIntSS_l0 (l : List (List Int)) (hl : l.length ≤ 9223372036854775807) (hx : ∀ x ∈ l, x.length ≤ 9223372036854775807) (d : Nat) : ∀ (j : Nat) (a : Int), 0 ≤ a → a ≤ 1048576 → j + d = l.length →
    ∃ t, Ev (fun k => laws_szIntSS.l0 k l a (j : Int)) t ∧ (0 ≤ t → t ≤ a ∧ ∀ x ∈ l.drop j, (x.length : Int) ≤ a) := by
  induction d with
  | zero =>
    intro j a h0 h1 hd
    refine ⟨a, Ev.step (f := fun _ => some a) (fun k => by simp only [laws_szIntSS.l0]; rw [if_neg (by omega)]) (Ev.now a), fun _ => ⟨by omega, ?_⟩⟩
    rw [List.drop_of_length_le (by omega)]; simp
  | succ d ih =>
    intro j a h0 h1 hd
    have hj : j < l.length := by omega
    have e1 : ∀ k, laws_szIntSS.l0 (k + 1) l a (j : Int) = ((laws_szIntS.f (rd_L2 l (j : Int)) a).bind fun t => (if t < 0 then (some (-1)) else (laws_szIntSS.l0 k l t ((j + 1 : Nat) : Int)))) := fun k => by
      simp only [laws_szIntSS.l0]; rw [if_pos (by omega), if_pos (by omega), wsucc (by omega)]
    have er : rd_L2 l (j : Int) = l.getD j [] := by simp [rd_L2]
    have hm := getD_mem hj ([] : List Int)
    rw [er, szIntS_eq _ a ⟨h0, h1⟩ (hx _ hm)] at e1
    simp only [Option.bind_some] at e1
    by_cases h : ((l.getD j []).length : Int) ≤ a
    · rw [if_pos h] at e1
      obtain ⟨t, ht, hp⟩ := ih (j + 1) (a - (l.getD j []).length) (by omega) (by omega) (by omega)
      refine ⟨t, Ev.step e1 (ev_neg (by omega) ht), fun h2 => ?_⟩
      obtain ⟨h3, h4⟩ := hp h2
      refine ⟨by omega, fun x hx' => ?_⟩
      rw [drop_cons hj []] at hx'
      rcases List.mem_cons.1 hx' with rfl | hx'
      · exact h
      · have := h4 x hx'; omega
    · rw [if_neg h] at e1
      exact ⟨-1, Ev.step e1 (ev_pos (by omega) (Ev.now _)), fun h => by omega⟩
theorem szIntSS_ev (l : List (List Int)) (a : Int) (ha : 0 ≤ a ∧ a ≤ 1048576) (hl : l.length ≤ 9223372036854775807) (hx : ∀ x ∈ l, x.length ≤ 9223372036854775807) :
    ∃ t, Ev (fun k => laws_szIntSS.f k l a) t ∧ (0 ≤ t → t ≤ a ∧ (l.length : Int) ≤ a ∧ ∀ x ∈ l, (x.length : Int) ≤ a) := by
  have e : wrap64 (a - (l.length : Int)) = a - l.length := wid (by omega) (by omega)
  by_cases h : (l.length : Int) ≤ a
  · obtain ⟨t, ht, hp⟩ := szIntSS_l0 l hl hx l.length 0 (a - l.length) (by omega) (by omega) (by omega)
    refine ⟨t, Ev.congr (fun k => by simp only [laws_szIntSS.f]; rw [e, if_neg (by omega)]; rfl) ht, fun h2 => ?_⟩
    obtain ⟨h3, h4⟩ := hp h2
    exact ⟨by omega, h, fun x hx' => by have := h4 x (by simpa using hx'); omega⟩
  · exact ⟨-1, Ev.congr (f := fun _ => some (-1)) (fun k => by simp only [laws_szIntSS.f]; rw [e, if_pos (by omega)]) (Ev.now _), fun h => by omega⟩

theorem szAuto_ev (n : Int) (fi : List Int) (ed : List S61) (go : List (List Int)) (hf : fi.length ≤ 9223372036854775807) (he : ed.length ≤ 9223372036854775807) (hg : go.length ≤ 9223372036854775807) (hx : ∀ x ∈ go, x.length ≤ 9223372036854775807) :
    ∃ t, Ev (fun k => laws_szAuto.f k n fi ed go 1048576) t ∧ (0 ≤ t → fi.length ≤ 1048576 ∧ ed.length ≤ 1048576 ∧ go.length ≤ 1048576 ∧ ∀ x ∈ go, x.length ≤ 1048576) := by
  have e1 := szIntS_eq fi 1048576 (by omega) hf
  by_cases h1 : (fi.length : Int) ≤ 1048576
  · rw [if_pos h1] at e1
    have e2 := szEdgeS_eq ed (1048576 - fi.length) he (by omega) (by omega)
    by_cases h2 : (ed.length : Int) ≤ 1048576 - fi.length
    · rw [if_pos h2] at e2
      obtain ⟨t, ht, hp⟩ := szIntSS_ev go (1048576 - fi.length - ed.length) (by omega) hg hx
      by_cases h3 : t < 0
      · exact ⟨-1, Ev.bind (ev_const e1) (ev_neg (by omega) (Ev.bind (ev_const e2) (ev_neg (by omega) (Ev.bind ht (ev_pos h3 (Ev.now _)))))), fun h => by omega⟩
      · refine ⟨t, Ev.bind (ev_const e1) (ev_neg (by omega) (Ev.bind (ev_const e2) (ev_neg (by omega) (Ev.bind ht (ev_neg h3 (Ev.now _)))))), fun h => ?_⟩
        obtain ⟨_, h4, h5⟩ := hp h
        exact ⟨by omega, by omega, by omega, fun x hx2 => by have := h5 x hx2; omega⟩
    · rw [if_neg h2] at e2
      exact ⟨-1, Ev.bind (ev_const e1) (ev_neg (by omega) (Ev.bind (ev_const e2) (ev_pos (by omega) (Ev.now _)))), fun h => by omega⟩
  · rw [if_neg h1] at e1
    exact ⟨-1, Ev.bind (ev_const e1) (ev_pos (by omega) (Ev.now _)), fun h => by omega⟩

theorem l1In_eq (n lo hi : Int) : spec_l1In.f n lo hi = some (decide (lo ≤ n ∧ n ≤ hi)) := by
  simp only [spec_l1In.f]
  by_cases h : n ≥ lo
  · rw [if_pos h]; congr 1; simp; intro _; exact h
  · rw [if_neg h]; congr 1; simp; intro h'; omega
theorem l1In_tells (n lo hi : Int) : Tells (fun _ => spec_l1In.f n lo hi) (lo ≤ n ∧ n ≤ hi) := by
  simp only [l1In_eq]; exact tells_some (by simp)

/-- Element i lies within the bounds, and above the one ahead of it. -/
def RiseAt (l : List Int) (lo hi : Int) (i : Nat) : Prop := (lo ≤ l.getD i 0 ∧ l.getD i 0 ≤ hi) ∧ (0 < i → l.getD (i - 1) 0 < l.getD i 0)
def Rising (l : List Int) (lo hi : Int) : Prop := ∀ i, i < l.length → RiseAt l lo hi i
theorem from_here {n j : Nat} {P : Nat → Prop} (hj : j < n) : (∀ i, j ≤ i → i < n → P i) ↔ P j ∧ ∀ i, j + 1 ≤ i → i < n → P i :=
  ⟨fun h => ⟨h j (Nat.le_refl _) hj, fun i h1 h2 => h i (by omega) h2⟩, fun ⟨h0, h⟩ i h1 h2 => by
    rcases Nat.eq_or_lt_of_le h1 with e | e
    · exact e ▸ h0
    · exact h i e h2⟩
theorem l1Rising_l0 (l : List Int) (lo hi : Int) (hl : l.length ≤ 9223372036854775807) (d : Nat) : ∀ (j : Nat), j + d = l.length →
    Tells (fun k => spec_l1Rising.l0 k l lo hi l (l.length : Int) (j : Int)) (∀ i, j ≤ i → i < l.length → RiseAt l lo hi i) := by
  induction d with
  | zero => exact fun j hd => tells_step (f := fun _ => some true) (fun k => by simp only [spec_l1Rising.l0]; rw [if_neg (by omega)]) (tells_yes (fun i h1 h2 => by omega))
  | succ d ih =>
    intro j hd
    have hj : j < l.length := by omega
    refine tells_step (fun k => by simp only [spec_l1Rising.l0]; rw [if_pos (by omega), if_pos (by omega), if_pos (by omega), wsucc (by omega), rd_nat]) ?_
    refine tells_iff ?_ (from_here hj).symm
    refine tells_ask (l1In_tells _ lo hi) (fun hin => ?_) (fun hin => ?_)
    · refine tells_pos rfl ?_
      by_cases h0 : 0 < j
      · refine tells_pos (by omega) ?_
        rw [wpred h0 (by omega), rd_nat]
        refine tells_pos (by omega) (tells_pos (by omega) (tells_if (fun hc => ?_) (fun hc => ?_)))
        · exact tells_no (fun h => by have := h.1.2 h0; omega)
        · exact tells_iff (ih (j + 1) (by omega)) ⟨fun h => ⟨⟨hin, fun _ => by omega⟩, h⟩, fun h => h.2⟩
      · refine tells_neg (by omega) ?_
        exact tells_iff (ih (j + 1) (by omega)) ⟨fun h => ⟨⟨hin, fun h1 => absurd h1 h0⟩, h⟩, fun h => h.2⟩
    · exact tells_neg (by simp) (tells_no (fun h => hin h.1.1))
theorem l1Rising_tells (l : List Int) (lo hi : Int) (hl : l.length ≤ 9223372036854775807) : Tells (fun k => spec_l1Rising.f k l lo hi) (Rising l lo hi) :=
  (tells_iff (l1Rising_l0 l lo hi hl l.length 0 (by omega)) ⟨fun h i hi => h i (Nat.zero_le _) hi, fun h i _ hi => h i hi⟩)
theorem rising_ge {l : List Int} {lo hi : Int} (h : Rising l lo hi) : ∀ i, i < l.length → lo + i ≤ l.getD i 0
  | 0, hi => by have := (h 0 hi).1.1; omega
  | i + 1, hi => by
    have h1 := rising_ge h i (by omega)
    have h2 := (h (i + 1) hi).2 (by omega)
    simp only [Nat.add_sub_cancel] at h2
    omega
theorem rising_len {l : List Int} {lo hi : Int} (h : Rising l lo hi) (hb : lo ≤ hi + 1) : (l.length : Int) ≤ hi - lo + 1 := by
  by_cases h0 : l.length = 0
  · omega
  · have h1 := rising_ge h (l.length - 1) (by omega)
    have h2 := (h (l.length - 1) (by omega)).1.2
    omega

theorem l11Points_tells (l : List Int) (n : Nat) (hl : l.length ≤ 9223372036854775807) (hn : n ≤ 9223372036854775807) : Tells (fun k => spec_l11Points.f k l (n : Int)) (Rising l 0 ((n : Int) - 1)) := by
  have e : wrap64 ((n : Int) - 1) = (n : Int) - 1 := wid (by omega) (by omega)
  refine tells_congr (fun k => by simp only [spec_l11Points.f]; rw [e]) ?_
  exact tells_ask (l1Rising_tells l 0 _ hl) (fun h => tells_yes h) (fun h => tells_no h)

/-! ### automata -/
def EdgeOk (n : Int) (x : S51) : Prop := (0 ≤ x.f0 ∧ x.f0 ≤ n - 1) ∧ (0 ≤ x.f1 ∧ x.f1 ≤ 7) ∧ (0 ≤ x.f2 ∧ x.f2 ≤ n - 1)
def ltE (a b : S51) : Prop := if a.f0 = b.f0 then (if a.f1 = b.f1 then a.f2 < b.f2 else a.f1 < b.f1) else a.f0 < b.f0
def EO (n : Int) (l : List S51) (i : Nat) : Prop := EdgeOk n (l.getD i z51) ∧ (0 < i → ltE (l.getD (i - 1) z51) (l.getD i z51))
def GoalsOk (n : Int) (go : List (List Int)) : Prop := go.length ≤ 6 ∧ ∀ x ∈ go, Rising x 0 (n - 1)
def GoodA (n : Int) (fi : List Int) (ed : List S51) (go : List (List Int)) : Prop := (1 ≤ n ∧ n ≤ 96) ∧ Rising fi 0 (n - 1) ∧ ed.length ≤ 2400 ∧ GoalsOk n go ∧ ∀ i, 0 ≤ i → i < ed.length → EO n ed i

theorem l11Goals_l0 (go : List (List Int)) (n : Nat) (hn : n ≤ 1000000) (hg : go.length ≤ 6) (hx : ∀ x ∈ go, x.length ≤ 9223372036854775807) (d : Nat) : ∀ (j : Nat), j + d = go.length →
    Tells (fun k => spec_l11Goals.l0 k (n : Int) go (go.length : Int) (j : Int)) (∀ x ∈ go.drop j, Rising x 0 ((n : Int) - 1)) := by
  induction d with
  | zero =>
    intro j hd
    refine tells_step (f := fun _ => some true) (fun k => by simp only [spec_l11Goals.l0]; rw [if_neg (by omega)]) (tells_yes ?_)
    rw [List.drop_of_length_le (by omega)]; simp
  | succ d ih =>
    intro j hd
    have hj : j < go.length := by omega
    have er : rd_L2 go (j : Int) = go.getD j [] := by simp [rd_L2]
    refine tells_step (fun k => by simp only [spec_l11Goals.l0]; rw [if_pos (by omega), if_pos (by omega), if_pos (by omega), er, wsucc (by omega)]) ?_
    rw [drop_cons hj []]
    have hm := getD_mem hj ([] : List Int)
    refine tells_ask (l11Points_tells _ n (hx _ hm) (by omega)) (fun h => tells_pos rfl ?_) (fun h => tells_neg (by simp) (tells_no (fun g => h (g _ (by simp)))))
    exact tells_iff (ih (j + 1) (by omega)) ⟨fun g x hx2 => by
      rcases List.mem_cons.1 hx2 with rfl | hx2
      · exact h
      · exact g x hx2, fun g x hx2 => g x (by simp [hx2])⟩
theorem l11Goals_tells (go : List (List Int)) (n : Nat) (hn : n ≤ 1000000) (hx : ∀ x ∈ go, x.length ≤ 9223372036854775807) : Tells (fun k => spec_l11Goals.f k go (n : Int)) (GoalsOk n go) := by
  refine tells_if (fun h => tells_no (fun g => by have := g.1; omega)) (fun h => ?_)
  exact tells_iff (l11Goals_l0 go n hn (by omega) hx go.length 0 (by omega)) ⟨fun g => ⟨by omega, by simpa using g⟩, fun g => by simpa using g.2⟩

theorem l12Less_tells (a b : S51) : Tells (fun _ => spec_l12Less.f a.f0 a.f1 a.f2 b.f0 b.f1 b.f2) (ltE a b) := by
  refine tells_if (fun h => ?_) (fun h => tells_some ?_)
  · refine tells_if (fun h2 => tells_some ?_) (fun h2 => tells_some ?_)
    · unfold ltE; rw [if_pos h, if_pos h2]; simp
    · unfold ltE; rw [if_pos h, if_neg h2]; simp
  · unfold ltE; rw [if_neg h]; simp

theorem spec_GoodAuto_l0 (n : Nat) (hn : n ≤ 96) (fi : List Int) (ed : List S51) (go : List (List Int)) (he : ed.length ≤ 2400) (d : Nat) : ∀ (j : Nat), j + d = ed.length →
    Tells (fun k => spec_GoodAuto.l0 k ed (ed.length : Int) (j : Int) (n : Int) fi ed go) (∀ i, j ≤ i → i < ed.length → EO n ed i) := by
  have e1 : wrap64 ((n : Int) - 1) = (n : Int) - 1 := wid (by omega) (by omega)
  induction d with
  | zero =>
    intro j hd
    exact tells_step (f := fun _ => some true) (fun k => by simp only [spec_GoodAuto.l0]; rw [if_neg (by omega)]) (tells_yes (fun i h1 h2 => by omega))
  | succ d ih =>
    intro j hd
    have hj : j < ed.length := by omega
    have er : rd_T51 ed (j : Int) = ed.getD j z51 := by simp [rd_T51]
    refine tells_step (fun k => by simp only [spec_GoodAuto.l0]; rw [if_pos (by omega), if_pos (by omega), if_pos (by omega), er, e1, wsucc (by omega)]) ?_
    rw [from_here hj]
    refine tells_ask (l1In_tells _ _ _) (fun h0 => tells_pos rfl ?_) (fun h0 => tells_neg (by simp) (tells_no (fun g => h0 g.1.1.1)))
    refine tells_ask (l1In_tells _ _ _) (fun h1 => tells_pos rfl ?_) (fun h1 => tells_neg (by simp) (tells_no (fun g => h1 g.1.1.2.1)))
    refine tells_ask (l1In_tells _ _ _) (fun h2 => tells_pos rfl ?_) (fun h2 => tells_neg (by simp) (tells_no (fun g => h2 g.1.1.2.2)))
    by_cases hz : j = 0
    · subst hz
      exact tells_neg (by omega) (tells_iff (ih 1 (by omega)) ⟨fun g => ⟨⟨⟨h0, h1, h2⟩, fun h => by omega⟩, g⟩, fun g => g.2⟩)
    · have w := wpred (j := j) (by omega) (by omega)
      have er2 : rd_T51 ed ((j - 1 : Nat) : Int) = ed.getD (j - 1) z51 := by simp [rd_T51]
      refine tells_pos (by omega) ?_
      refine tells_congr (fun k => by rw [w, if_pos (by omega), if_pos (by omega), er2]) ?_
      refine tells_ask (l12Less_tells _ _) (fun h3 => tells_pos rfl ?_) (fun h3 => tells_neg (by simp) (tells_no (fun g => h3 (g.1.2 (by omega)))))
      exact tells_iff (ih (j + 1) (by omega)) ⟨fun g => ⟨⟨⟨h0, h1, h2⟩, fun _ => h3⟩, g⟩, fun g => g.2⟩
theorem spec_GoodAuto_tells (n : Int) (fi : List Int) (ed : List S51) (go : List (List Int)) (hf : fi.length ≤ 9223372036854775807) (he : ed.length ≤ 9223372036854775807) (hx : ∀ x ∈ go, x.length ≤ 9223372036854775807) :
    Tells (fun k => spec_GoodAuto.f k n fi ed go) (GoodA n fi ed go) := by
  have hno : ∀ {Q : Prop}, ¬ Q → Tells (fun k => spec_GoodAuto.j0 k true n fi ed go) Q := fun h => tells_step (f := fun _ => some false) (fun k => by simp only [spec_GoodAuto.j0, if_true]) (tells_no h)
  refine tells_ask (l1In_tells n 1 96) (fun h1 => tells_pos rfl ?_) (fun h1 => tells_neg (by simp) (hno (fun g => h1 g.1)))
  obtain ⟨u, rfl⟩ := Int.eq_ofNat_of_zero_le (show 0 ≤ n by omega)
  refine tells_ask (l11Points_tells fi u hf (by omega)) (fun h2 => tells_pos rfl ?_) (fun h2 => tells_neg (by simp) (hno (fun g => h2 g.2.1)))
  refine tells_if (fun h3 => hno (fun g => by have := g.2.2.1; omega)) (fun h3 => ?_)
  refine tells_ask (l11Goals_tells go u (by omega) hx) (fun h4 => ?_) (fun h4 => hno (fun g => h4 g.2.2.2.1))
  refine tells_step (f := fun k => spec_GoodAuto.l0 k ed (ed.length : Int) 0 (u : Int) fi ed go) (fun k => by simp only [spec_GoodAuto.j0]; rw [if_neg (by simp)]) ?_
  exact tells_iff (spec_GoodAuto_l0 u (by omega) fi ed go (by omega) ed.length 0 (by omega)) ⟨fun g => ⟨h1, h2, by omega, h4, g⟩, fun g => g.2.2.2.2⟩

/-! ### a step of an automaton -/
def trues : Nat → List Bool → List Int
  | _, [] => []
  | j, b :: t => if b = true then (j : Int) :: trues (j + 1) t else trues (j + 1) t
theorem trues_length : ∀ (l : List Bool) (j : Nat), (trues j l).length ≤ l.length
  | [], _ => Nat.le_refl 0
  | b :: t, j => by
    have := trues_length t (j + 1)
    simp only [trues]
    split <;> simp <;> omega
theorem rdOf_nat (l : List Bool) (j : Nat) : rdOf false l (j : Int) = l.getD j false := by simp [rdOf]
def stepTo (a2 : Int) (sm : List Int) : List S51 → List Bool → List Bool
  | [], y => y
  | e :: t, y => if e.f1 = a2 ∧ e.f0 ∈ sm then stepTo a2 sm t (y.set e.f2.toNat true) else stepTo a2 sm t y
theorem stepTo_length (a2 : Int) (sm : List Int) : ∀ (l : List S51) (y : List Bool), (stepTo a2 sm l y).length = y.length
  | [], y => rfl
  | e :: t, y => by
    simp only [stepTo]
    split
    · rw [stepTo_length a2 sm t]; simp
    · exact stepTo_length a2 sm t y
theorem rising_at {fr : List Int} {n : Nat} (hn : Rising fr 0 ((n : Int) - 1)) : ∀ v ∈ fr, 0 ≤ v ∧ v < (n : Int) := fun v hv => by
  obtain ⟨i, hi, rfl⟩ := List.getElem_of_mem hv
  have h1 := (hn i hi).1
  rw [getD_eq hi] at h1
  omega

theorem l11Marks_l0 (n : Nat) (l : List Int) (hl : l.length ≤ 1048576) (hr : ∀ x ∈ l, 0 ≤ x ∧ x < (n : Int)) (d : Nat) : ∀ (j : Nat) (y : List Bool), y.length = n → j + d = l.length →
    ∃ y' : List Bool, Ev (fun k => spec_l11Marks.l0 k y l (l.length : Int) (j : Int)) y' ∧ y'.length = n ∧ ∀ i, i < n → (y'.getD i false = true ↔ y.getD i false = true ∨ (i : Int) ∈ l.drop j) := by
  induction d with
  | zero =>
    intro j y hy hd
    refine ⟨y, Ev.step (f := fun _ => some y) (fun k => by simp only [spec_l11Marks.l0]; rw [if_neg (by omega)]) (Ev.now _), hy, fun i hi => ?_⟩
    rw [List.drop_of_length_le (by omega)]; simp
  | succ d ih =>
    intro j y hy hd
    have hj : j < l.length := by omega
    have hm : l.getD j 0 ∈ l := by rw [getD_eq hj]; exact List.getElem_mem hj
    obtain ⟨h0, h1⟩ := hr _ hm
    obtain ⟨y', he, hl', hi'⟩ := ih (j + 1) (y.set (l.getD j 0).toNat true) (by simpa using hy) (by omega)
    refine ⟨y', Ev.step (fun k => by simp only [spec_l11Marks.l0]; rw [if_pos (by omega), if_pos (by omega), if_pos (by omega), rd_nat, if_pos h0, if_pos (by omega), wsucc (by omega)]) he, hl', fun i hi => ?_⟩
    rw [hi' i hi, drop_cons hj 0, List.mem_cons]
    have e : ∀ z : Int, 0 ≤ z → z < (n : Int) → ((y.set z.toNat true).getD i false = true ↔ (i : Int) = z ∨ y.getD i false = true) := by
      intro z g0 g1
      rw [List.getD_eq_getElem?_getD, List.getD_eq_getElem?_getD, List.getElem?_set]
      by_cases h : z.toNat = i
      · have h2 : (i : Int) = z := by omega
        rw [if_pos h, if_pos (by omega)]; simp [h2]
      · have h2 : ¬ (i : Int) = z := by omega
        rw [if_neg h]; simp [h2]
    rw [e _ h0 h1]
    constructor
    · rintro ((h | h) | h)
      · exact .inr (.inl h)
      · exact .inl h
      · exact .inr (.inr h)
    · rintro (h | h | h)
      · exact .inl (.inr h)
      · exact .inl (.inl h)
      · exact .inr h
theorem l11Marks_ev (n : Nat) (hn : n ≤ 1048576) (l : List Int) (hl : l.length ≤ 1048576) (hr : ∀ x ∈ l, 0 ≤ x ∧ x < (n : Int)) :
    ∃ y : List Bool, Ev (fun k => spec_l11Marks.f k (n : Int) l) y ∧ y.length = n ∧ ∀ i, i < n → (y.getD i false = true ↔ (i : Int) ∈ l) := by
  obtain ⟨y, he, h1, h2⟩ := l11Marks_l0 n l hl hr l.length 0 (List.replicate n false) (by simp) (by omega)
  refine ⟨y, Ev.congr (fun k => by simp only [spec_l11Marks.f]; rw [if_pos (by omega), if_pos (by omega)]; rfl) he, h1, fun i hi => ?_⟩
  rw [h2 i hi, List.drop_zero]
  simp [List.getD_eq_getElem?_getD, List.getElem?_replicate, hi]

theorem l11List_l0 (st : List Bool) (hs : st.length ≤ 1048576) (d : Nat) : ∀ (j : Nat) (out : List Int), j + d = st.length → out.length ≤ j → Ev (fun k => spec_l11List.l0 k out st (st.length : Int) (j : Int)) (out ++ trues j (st.drop j)) := by
  induction d with
  | zero =>
    intro j out hj ho
    refine ev_eq (Ev.step (f := fun _ => some out) (fun k => by simp only [spec_l11List.l0]; rw [if_neg (by omega)]) (Ev.now _)) ?_
    rw [List.drop_of_length_le (by omega)]; simp [trues]
  | succ d ih =>
    intro j out hj ho
    rw [drop_cons (by omega) false, trues]
    by_cases h : st.getD j false = true
    · rw [if_pos h]
      refine Ev.step (fun k => by simp only [spec_l11List.l0]; rw [if_pos (by omega), if_pos (by omega), if_pos (by omega), rdOf_nat, if_pos h, if_pos (by omega), wsucc (by omega)]) ?_
      exact ev_eq (ih (j + 1) (out ++ [(j : Int)]) (by omega) (by simp; omega)) (by simp)
    · rw [if_neg h]
      exact Ev.step (fun k => by simp only [spec_l11List.l0]; rw [if_pos (by omega), if_pos (by omega), if_pos (by omega), rdOf_nat, if_neg h, wsucc (by omega)]) (ih (j + 1) out (by omega) (by omega))
theorem l11List_ev (st : List Bool) (hs : st.length ≤ 1048576) : Ev (fun k => spec_l11List.f k st) (trues 0 st) :=
  ev_eq (l11List_l0 st hs st.length 0 [] (by omega) (by simp)) (by simp)

theorem l12Step_l0 (n : Nat) (hn : n ≤ 96) (a2 : Int) (sm : List Int) (fr : List Bool) (hfr : fr.length = n) (hm : ∀ i, i < n → (fr.getD i false = true ↔ (i : Int) ∈ sm)) (ed : List S51) (he : ed.length ≤ 2400) (hk : ∀ i, 0 ≤ i → i < ed.length → EO n ed i) (d : Nat) : ∀ (j : Nat) (y : List Bool), y.length = n → j + d = ed.length →
    Ev (fun k => spec_l12Step.l0 k a2 y fr ed (ed.length : Int) (j : Int)) (trues 0 (stepTo a2 sm (ed.drop j) y)) := by
  induction d with
  | zero =>
    intro j y hy hd
    rw [List.drop_of_length_le (by omega)]
    exact Ev.step (f := fun k => (spec_l11List.f k y).bind fun t => some t) (fun k => by simp only [spec_l12Step.l0]; rw [if_neg (by omega)]) (Ev.bind (l11List_ev y (by omega)) (Ev.now _))
  | succ d ih =>
    intro j y hy hd
    have hj : j < ed.length := by omega
    have er : rd_T51 ed (j : Int) = ed.getD j z51 := by simp [rd_T51]
    obtain ⟨⟨h1, h2⟩, ⟨h3, h4⟩, h5, h6⟩ := (hk j (Nat.zero_le _) hj).1
    rw [drop_cons hj z51, stepTo]
    generalize ed.getD j z51 = x at er h1 h2 h3 h4 h5 h6
    obtain ⟨q, hq⟩ := Int.eq_ofNat_of_zero_le h1
    have hm' : fr.getD q false = true ↔ x.f0 ∈ sm := by rw [hq]; exact hm q (by omega)
    have e0 : rdOf false fr x.f0 = fr.getD q false := by rw [hq]; exact rdOf_nat fr q
    by_cases c1 : x.f1 = a2
    · by_cases c2 : x.f0 ∈ sm
      · rw [if_pos ⟨c1, c2⟩]
        exact Ev.step (fun k => by simp only [spec_l12Step.l0]; rw [if_pos (by omega), if_pos (by omega), if_pos (by omega), er, if_pos c1, if_pos h1, if_pos (by omega), e0, if_pos (hm'.2 c2), if_pos h5, if_pos (by omega), wsucc (by omega)]) (ih (j + 1) (y.set x.f2.toNat true) (by simpa using hy) (by omega))
      · rw [if_neg (fun h => c2 h.2)]
        exact Ev.step (fun k => by simp only [spec_l12Step.l0]; rw [if_pos (by omega), if_pos (by omega), if_pos (by omega), er, if_pos c1, if_pos h1, if_pos (by omega), e0, if_neg (fun h => c2 (hm'.1 h)), wsucc (by omega)]) (ih (j + 1) y hy (by omega))
    · rw [if_neg (fun h => c1 h.1)]
      exact Ev.step (fun k => by simp only [spec_l12Step.l0]; rw [if_pos (by omega), if_pos (by omega), if_pos (by omega), er, if_neg c1, wsucc (by omega)]) (ih (j + 1) y hy (by omega))
theorem l12Step_ev (n : Nat) (hn : n ≤ 96) (a2 : Int) (sm fi : List Int) (go : List (List Int)) (hsl : sm.length ≤ 1048576) (hs : ∀ x ∈ sm, 0 ≤ x ∧ x < (n : Int)) (ed : List S51) (he : ed.length ≤ 2400) (hk : ∀ i, 0 ≤ i → i < ed.length → EO n ed i) :
    Ev (fun k => spec_l12Step.f k (n : Int) fi ed go sm a2) (trues 0 (stepTo a2 sm ed (List.replicate n false))) := by
  obtain ⟨fr, e, hl, hm⟩ := l11Marks_ev n (by omega) sm hsl hs
  refine Ev.congr (f := fun k => (spec_l11Marks.f k (n : Int) sm).bind fun t => spec_l12Step.l0 k a2 (List.replicate n false) t ed (ed.length : Int) 0) (fun k => by simp only [spec_l12Step.f]; rw [if_pos (by omega), if_pos (by omega)]; rfl) ?_
  exact Ev.bind e (l12Step_l0 n hn a2 sm fr hl hm ed he hk ed.length 0 _ (by simp) (by omega))

theorem toIntS_l0 (l : List Int) (hl : l.length ≤ 1048576) (d : Nat) : ∀ (j : Nat) (y : List Int), y.length = l.length → j + d = l.length → Ev (fun k => laws_toIntS.l0 k l y (j : Int)) (y.take j ++ l.drop j) := by
  induction d with
  | zero =>
    intro j y hy hd
    rw [take_all_drop hy (by omega)]
    exact Ev.step (f := fun _ => some y) (fun k => by simp only [laws_toIntS.l0]; rw [if_neg (by omega)]) (Ev.now y)
  | succ d ih =>
    intro j y hy hd
    refine Ev.step (f := fun k => laws_toIntS.l0 k l (y.set j (rd l (j : Int))) ((j + 1 : Nat) : Int)) (fun k => by simp only [laws_toIntS.l0]; rw [if_pos (by omega), if_pos (by omega), if_pos (by omega), wsucc (by omega)]; rfl) ?_
    refine ev_eq (ih (j + 1) _ (by simpa using hy) (by omega)) (copy_step (by omega) (by omega) ?_)
    rw [rd_nat, getD_eq (by omega), getD_eq (by omega)]
theorem toIntS_ev (l : List Int) (hl : l.length ≤ 1048576) : Ev (fun k => laws_toIntS.f k l) l := by
  refine Ev.congr (f := fun k => laws_toIntS.l0 k l (List.replicate l.length 0) ((0 : Nat) : Int)) (fun k => by simp only [laws_toIntS.f]; rw [if_pos (by omega), if_pos (by simp only [Int.toNat_natCast]; omega)]; rfl) ?_
  exact ev_eq (toIntS_l0 l hl l.length 0 _ (by simp) (by omega)) (by simp)

def cEdge (x : S61) : S51 := ⟨x.f0, x.f1, x.f2⟩
theorem toEdgeS_l0 (l : List S61) (hl : l.length ≤ 1048576) (d : Nat) : ∀ (j : Nat) (y : List S51), y.length = l.length → j + d = l.length → Ev (fun k => laws_toEdgeS.l0 k l y (j : Int)) (y.take j ++ (l.map cEdge).drop j) := by
  induction d with
  | zero =>
    intro j y hy hd
    rw [take_all_drop (xs := y) (ys := l.map cEdge) (by simpa using hy) (by simp; omega)]
    exact Ev.step (f := fun _ => some y) (fun k => by simp only [laws_toEdgeS.l0]; rw [if_neg (by omega)]) (Ev.now y)
  | succ d ih =>
    intro j y hy hd
    have er : rd_T61 l (j : Int) = l.getD j z61 := by simp [rd_T61]
    refine Ev.step (f := fun k => laws_toEdgeS.l0 k l (y.set j (cEdge (l.getD j z61))) ((j + 1 : Nat) : Int)) (fun k => by simp only [laws_toEdgeS.l0, laws_toEdge.f, Option.bind_some]; rw [if_pos (by omega), if_pos (by omega), if_pos (by omega), wsucc (by omega), er]; rfl) ?_
    refine ev_eq (ih (j + 1) _ (by simpa using hy) (by omega)) (copy_step (by omega) (by simp; omega) ?_)
    rw [getD_eq (l := l.map cEdge) (by simp; omega), getD_eq (l := l) (by omega)]; simp
theorem toEdgeS_ev (l : List S61) (hl : l.length ≤ 1048576) : Ev (fun k => laws_toEdgeS.f k l) (l.map cEdge) := by
  refine Ev.congr (f := fun k => laws_toEdgeS.l0 k l (List.replicate l.length z51) ((0 : Nat) : Int)) (fun k => by simp only [laws_toEdgeS.f]; rw [if_pos (by omega), if_pos (by simp only [Int.toNat_natCast]; omega)]; rfl) ?_
  exact ev_eq (toEdgeS_l0 l hl l.length 0 _ (by simp) (by omega)) (by simp)

theorem toIntSS_l0 (l : List (List Int)) (hl : l.length ≤ 1048576) (hx : ∀ x ∈ l, x.length ≤ 1048576) (d : Nat) : ∀ (j : Nat) (y : List (List Int)), y.length = l.length → j + d = l.length → Ev (fun k => laws_toIntSS.l0 k l y (j : Int)) (y.take j ++ l.drop j) := by
  induction d with
  | zero =>
    intro j y hy hd
    rw [take_all_drop hy (by omega)]
    exact Ev.step (f := fun _ => some y) (fun k => by simp only [laws_toIntSS.l0]; rw [if_neg (by omega)]) (Ev.now y)
  | succ d ih =>
    intro j y hy hd
    have er : rd_L2 l (j : Int) = l.getD j [] := by simp [rd_L2]
    refine Ev.step (f := fun k => (laws_toIntS.f k (l.getD j [])).bind fun t => laws_toIntSS.l0 k l (y.set j t) ((j + 1 : Nat) : Int)) (fun k => by simp only [laws_toIntSS.l0]; rw [if_pos (by omega), if_pos (by omega), er, wsucc (by omega)]; simp only [if_pos (show (j : Int) < (y.length : Int) by omega)]; rfl) ?_
    refine Ev.bind (toIntS_ev _ (hx _ (getD_mem (by omega) _))) ?_
    exact ev_eq (ih (j + 1) _ (by simpa using hy) (by omega)) (copy_step (by omega) (by omega) (by rw [getD_eq (by omega), getD_eq (by omega)]))
theorem toIntSS_ev (l : List (List Int)) (hl : l.length ≤ 1048576) (hx : ∀ x ∈ l, x.length ≤ 1048576) : Ev (fun k => laws_toIntSS.f k l) l := by
  refine Ev.congr (f := fun k => laws_toIntSS.l0 k l (List.replicate l.length []) ((0 : Nat) : Int)) (fun k => by simp only [laws_toIntSS.f]; rw [if_pos (by omega), if_pos (by simp only [Int.toNat_natCast]; omega)]; rfl) ?_
  exact ev_eq (toIntSS_l0 l hl hx l.length 0 _ (by simp) (by omega)) (by simp)

theorem toAuto_ev (n : Int) (fi : List Int) (ed : List S61) (go : List (List Int)) (hf : fi.length ≤ 1048576) (he : ed.length ≤ 1048576) (hg : go.length ≤ 1048576) (hx : ∀ x ∈ go, x.length ≤ 1048576) :
    Ev (fun k => laws_toAuto.f k n fi ed go) (n, fi, ed.map cEdge, go) :=
  Ev.bind (toIntS_ev fi hf) (Ev.bind (toEdgeS_ev ed he) (Ev.bind (toIntSS_ev go hg hx) (Ev.now _)))

theorem isIncreasing_l0 (l : List Int) (b : Int) (hl : l.length ≤ 9223372036854775807) (d : Nat) : ∀ (j : Nat), j + d = l.length →
    Tells (fun k => impl_isIncreasing.l0 k l b l (l.length : Int) (j : Int)) (∀ i, j ≤ i → i < l.length → RiseAt l 0 (b - 1) i) := by
  induction d with
  | zero => exact fun j hd => tells_step (f := fun _ => some true) (fun k => by simp only [impl_isIncreasing.l0]; rw [if_neg (by omega)]) (tells_yes (fun i h1 h2 => by omega))
  | succ d ih =>
    intro j hd
    have hj : j < l.length := by omega
    refine tells_step (fun k => by simp only [impl_isIncreasing.l0]; rw [if_pos (by omega), if_pos (by omega), if_pos (by omega), wsucc (by omega), rd_nat]) ?_
    refine tells_iff ?_ (from_here hj).symm
    refine tells_if (fun h1 => tells_no (fun h => by have := h.1.1.1; omega)) (fun h1 => ?_)
    refine tells_if (fun h2 => tells_no (fun h => by have := h.1.1.2; omega)) (fun h2 => ?_)
    by_cases h0 : 0 < j
    · refine tells_pos (by omega) ?_
      rw [wpred h0 (by omega), rd_nat]
      refine tells_pos (by omega) (tells_pos (by omega) (tells_if (fun hc => ?_) (fun hc => ?_)))
      · exact tells_no (fun h => by have := h.1.2 h0; omega)
      · exact tells_iff (ih (j + 1) (by omega)) ⟨fun h => ⟨⟨⟨by omega, by omega⟩, fun _ => by omega⟩, h⟩, fun h => h.2⟩
    · refine tells_neg (by omega) ?_
      exact tells_iff (ih (j + 1) (by omega)) ⟨fun h => ⟨⟨⟨by omega, by omega⟩, fun h1 => absurd h1 h0⟩, h⟩, fun h => h.2⟩
theorem isIncreasing_tells (l : List Int) (b : Int) (hl : l.length ≤ 9223372036854775807) : Tells (fun k => impl_isIncreasing.f k l b) (Rising l 0 (b - 1)) :=
  (tells_iff (isIncreasing_l0 l b hl l.length 0 (by omega)) ⟨fun h i hi => h i (Nat.zero_le _) hi, fun h i _ hi => h i hi⟩)

theorem areGoals_tells (go : List (List Int)) (n : Int) (hx : ∀ x ∈ go, x.length ≤ 9223372036854775807) : Tells (fun k => impl_areGoals.f k go n) (GoalsOk n go) := by
  refine tells_if (fun h => ?_) (fun h => tells_no (fun g => by have := g.1; omega))
  have h1 : Tells (fun k => anyO (fun x_ => impl_areGoals_1.f k x_ n) go) (∃ x ∈ go, ¬ Rising x 0 (n - 1)) := anyO_tells go (fun x hx2 => tells_ask (isIncreasing_tells x n (hx x hx2)) (fun h2 => tells_no (fun h3 => h3 h2)) (fun h2 => tells_yes h2))
  refine tells_ask h1 (fun h2 => tells_no ?_) (fun h2 => tells_yes ⟨by omega, fun x hx2 => ?_⟩)
  · obtain ⟨x, h3, h4⟩ := h2
    exact fun g => h4 (g.2 x h3)
  · exact Classical.byContradiction (fun h4 => h2 ⟨x, hx2, h4⟩)

def sgn3 (a b : Int) : Int := if a < b then -1 else if a > b then 1 else 0
theorem cmp_eq (a b : Int) : cmp_Compare_int.f a b = some (sgn3 a b) := by
  simp only [cmp_Compare_int.f, cmp_isNaN_int.f, Option.bind_some, bne_self_eq_false, sgn3]
  rw [if_neg (by simp), if_neg (by simp)]
  by_cases h : a < b
  · rw [if_pos h, if_pos h]
  · rw [if_neg h, if_neg h]
    by_cases h2 : a > b
    · rw [if_pos h2, if_pos h2]
    · rw [if_neg h2, if_neg h2]
theorem cmpOr_ev (a b c : Int) : Ev (fun k => cmp_Or_int.f k [a, b, c]) (if a = 0 then (if b = 0 then c else b) else a) := by
  have w1 : wrap64 (0 + 1) = 1 := by rw [wid (by omega) (by omega)]; rfl
  have w2 : wrap64 (1 + 1) = 2 := by rw [wid (by omega) (by omega)]; rfl
  have w3 : wrap64 (2 + 1) = 3 := by rw [wid (by omega) (by omega)]; rfl
  have r0 : rd [a, b, c] 0 = a := rfl
  have r1 : rd [a, b, c] 1 = b := rfl
  have r2 : rd [a, b, c] 2 = c := rfl
  by_cases ha : a = 0
  · rw [if_pos ha]
    refine Ev.step (fun k => by simp only [cmp_Or_int.f, cmp_Or_int.l0]; rw [if_pos (by simp), if_pos (by decide), if_pos (by simp), r0, if_pos ha, w1]) ?_
    by_cases hb : b = 0
    · rw [if_pos hb]
      refine Ev.step (fun k => by simp only [cmp_Or_int.l0]; rw [if_pos (by simp), if_pos (by decide), if_pos (by simp), r1, if_pos hb, w2]) ?_
      by_cases hc : c = 0
      · refine Ev.step (fun k => by simp only [cmp_Or_int.l0]; rw [if_pos (by simp), if_pos (by decide), if_pos (by simp), r2, if_pos hc, w3]) ?_
        exact ev_eq (Ev.step (f := fun _ => some 0) (fun k => by simp only [cmp_Or_int.l0]; rw [if_neg (by simp)]) (Ev.now _)) hc.symm
      · exact Ev.step (f := fun _ => some c) (fun k => by simp only [cmp_Or_int.l0]; rw [if_pos (by simp), if_pos (by decide), if_pos (by simp), r2, if_neg hc]) (Ev.now _)
    · rw [if_neg hb]
      exact Ev.step (f := fun _ => some b) (fun k => by simp only [cmp_Or_int.l0]; rw [if_pos (by simp), if_pos (by decide), if_pos (by simp), r1, if_neg hb]) (Ev.now _)
  · rw [if_neg ha]
    exact Ev.step (f := fun _ => some a) (fun k => by simp only [cmp_Or_int.f, cmp_Or_int.l0]; rw [if_pos (by simp), if_pos (by decide), if_pos (by simp), r0, if_neg ha]) (Ev.now _)
theorem compareEdges_ev (a b : S51) : ∃ r, Ev (fun k => impl_compareEdges.f k a.f0 a.f1 a.f2 b.f0 b.f1 b.f2) r ∧ (r ≥ 0 ↔ ¬ ltE a b) := by
  refine ⟨_, Ev.bind (ev_const (cmp_eq _ _)) (Ev.bind (ev_const (cmp_eq _ _)) (Ev.bind (ev_const (cmp_eq _ _)) (Ev.bind (cmpOr_ev _ _ _) (Ev.now _)))), ?_⟩
  unfold ltE sgn3
  repeat' split
  all_goals omega

theorem impl_GoodAuto_l0 (n : Int) (hn : n ≤ 96) (fi : List Int) (ed : List S51) (go : List (List Int)) (he : ed.length ≤ 2400) (d : Nat) : ∀ (j : Nat), j + d = ed.length →
    Tells (fun k => impl_GoodAuto.l0 k ed (ed.length : Int) (j : Int) n fi ed go) (∀ i, j ≤ i → i < ed.length → EO n ed i) := by
  induction d with
  | zero =>
    intro j hd
    exact tells_step (f := fun _ => some true) (fun k => by simp only [impl_GoodAuto.l0]; rw [if_neg (by omega)]) (tells_yes (fun i h1 h2 => by omega))
  | succ d ih =>
    intro j hd
    have hj : j < ed.length := by omega
    have er : rd_T51 ed (j : Int) = ed.getD j z51 := by simp [rd_T51]
    refine tells_step (fun k => by simp only [impl_GoodAuto.l0]; rw [if_pos (by omega), if_pos (by omega), if_pos (by omega), er, wsucc (by omega)]) ?_
    rw [from_here hj]
    refine tells_if (fun h => tells_no (fun g => by have := g.1.1.1; omega)) (fun a1 => ?_)
    refine tells_if (fun h => tells_no (fun g => by have := g.1.1.1; omega)) (fun a2 => ?_)
    refine tells_if (fun h => tells_no (fun g => by have := g.1.1.2.2; omega)) (fun a3 => ?_)
    refine tells_if (fun h => tells_no (fun g => by have := g.1.1.2.2; omega)) (fun a4 => ?_)
    refine tells_if (fun h => tells_no (fun g => by have := g.1.1.2.1; omega)) (fun a5 => ?_)
    refine tells_if (fun h => tells_no (fun g => by have := g.1.1.2.1; omega)) (fun a6 => ?_)
    have hok : EdgeOk n (ed.getD j z51) := ⟨by omega, by omega, by omega⟩
    by_cases hz : j = 0
    · subst hz
      exact tells_neg (by omega) (tells_iff (ih 1 (by omega)) ⟨fun g => ⟨⟨hok, fun h => by omega⟩, g⟩, fun g => g.2⟩)
    · have w := wpred (j := j) (by omega) (by omega)
      have er2 : rd_T51 ed ((j - 1 : Nat) : Int) = ed.getD (j - 1) z51 := by simp [rd_T51]
      refine tells_pos (by omega) ?_
      refine tells_congr (fun k => by rw [w, if_pos (by omega), if_pos (by omega), er2]) ?_
      obtain ⟨r, hr, hi⟩ := compareEdges_ev (ed.getD (j - 1) z51) (ed.getD j z51)
      refine tells_bind hr (tells_if (fun h => tells_no (fun g => hi.1 h (g.1.2 (by omega)))) (fun h => ?_))
      exact tells_iff (ih (j + 1) (by omega)) ⟨fun g => ⟨⟨hok, fun _ => Classical.byContradiction (fun h3 => h (hi.2 h3))⟩, g⟩, fun g => g.2⟩
theorem impl_GoodAuto_tells (n : Int) (fi : List Int) (ed : List S51) (go : List (List Int)) (hf : fi.length ≤ 9223372036854775807) (he : ed.length ≤ 9223372036854775807) (hx : ∀ x ∈ go, x.length ≤ 9223372036854775807) :
    Tells (fun k => impl_GoodAuto.f k n fi ed go) (GoodA n fi ed go) := by
  have hno : ∀ {Q : Prop}, ¬ Q → Tells (fun k => impl_GoodAuto.j0 k true n fi ed go) Q := fun h => tells_step (f := fun _ => some false) (fun k => by simp only [impl_GoodAuto.j0, if_true]) (tells_no h)
  refine tells_if (fun h => hno (fun g => by have := g.1; omega)) (fun h1 => ?_)
  refine tells_if (fun h => hno (fun g => by have := g.1; omega)) (fun h1' => ?_)
  refine tells_ask (isIncreasing_tells fi n hf) (fun h2 => tells_pos rfl ?_) (fun h2 => tells_neg (by simp) (hno (fun g => h2 g.2.1)))
  refine tells_if (fun h3 => hno (fun g => by have := g.2.2.1; omega)) (fun h3 => ?_)
  refine tells_ask (areGoals_tells go n hx) (fun h4 => ?_) (fun h4 => hno (fun g => h4 g.2.2.2.1))
  refine tells_step (f := fun k => impl_GoodAuto.l0 k ed (ed.length : Int) 0 n fi ed go) (fun k => by simp only [impl_GoodAuto.j0]; rw [if_neg (by simp)]) ?_
  exact tells_iff (impl_GoodAuto_l0 n (by omega) fi ed go (by omega) ed.length 0 (by omega)) ⟨fun g => ⟨by omega, h2, by omega, h4, g⟩, fun g => g.2.2.2.2⟩

theorem isOneLetter_tells (a : Int) : Tells (fun _ => impl_isOneLetter.f a) (0 ≤ a ∧ a ≤ 7) := by
  simp only [impl_isOneLetter.f]
  refine tells_if (fun h => tells_some ?_) (fun h => tells_no (fun g => h g.1))
  rw [decide_eq_true_iff]; omega

theorem sIndex_l0 (l : List Int) (x : Int) (hl : l.length ≤ 9223372036854775807) (d : Nat) : ∀ (j : Nat), j + d = l.length → ∃ i, Ev (fun k => slices_Index_int_int.l0 k l x (l.length : Int) (j : Int)) i ∧ -1 ≤ i ∧ (0 ≤ i ↔ x ∈ l.drop j) := by
  induction d with
  | zero => exact fun j hj => ⟨-1, Ev.step (f := fun _ => some (-1)) (fun k => by simp only [slices_Index_int_int.l0]; rw [if_neg (by omega)]) (Ev.now _), by omega, by rw [List.drop_of_length_le (by omega)]; simp⟩
  | succ d ih =>
    intro j hj
    by_cases h : x = l.getD j 0
    · exact ⟨j, Ev.step (f := fun _ => some (j : Int)) (fun k => by simp only [slices_Index_int_int.l0]; rw [if_pos (by omega), if_pos (by omega), if_pos (by omega), rd_nat, if_pos h]) (Ev.now _), by omega, by rw [drop_cons (by omega) 0, ← h]; simp⟩
    · obtain ⟨i, e, h1, h2⟩ := ih (j + 1) (by omega)
      refine ⟨i, Ev.step (fun k => by simp only [slices_Index_int_int.l0]; rw [if_pos (by omega), if_pos (by omega), if_pos (by omega), rd_nat, if_neg h, wsucc (by omega)]) e, h1, h2.trans ?_⟩
      rw [drop_cons (show j < l.length by omega) 0, List.mem_cons]
      exact ⟨fun g => .inr g, fun g => g.resolve_left h⟩

theorem contains_tells (l : List Int) (x : Int) (hl : l.length ≤ 9223372036854775807) : Tells (fun k => slices_Contains_int_int.f k l x) (x ∈ l) := by
  obtain ⟨i, e, _, h⟩ := sIndex_l0 l x hl l.length 0 (by omega)
  refine tells_bind e (tells_some ?_)
  rw [decide_eq_true_iff, show (i ≥ 0) = (0 ≤ i) from rfl, h, List.drop_zero]

theorem marked_l0 (st : List Bool) (hs : st.length ≤ 1048576) (d : Nat) : ∀ (j : Nat) (out : List Int), j + d = st.length → out.length ≤ j → Ev (fun k => impl_marked.l0 k out st (st.length : Int) (j : Int)) (out ++ trues j (st.drop j)) := by
  induction d with
  | zero =>
    intro j out hj ho
    refine ev_eq (Ev.step (f := fun _ => some out) (fun k => by simp only [impl_marked.l0]; rw [if_neg (by omega)]) (Ev.now _)) ?_
    rw [List.drop_of_length_le (by omega)]; simp [trues]
  | succ d ih =>
    intro j out hj ho
    rw [drop_cons (by omega) false, trues]
    by_cases h : st.getD j false = true
    · rw [if_pos h]
      refine Ev.step (fun k => by simp only [impl_marked.l0]; rw [if_pos (by omega), if_pos (by omega), if_pos (by omega), rdOf_nat, if_pos h, if_pos (by omega), wsucc (by omega)]) ?_
      exact ev_eq (ih (j + 1) (out ++ [(j : Int)]) (by omega) (by simp; omega)) (by simp)
    · rw [if_neg h]
      exact Ev.step (fun k => by simp only [impl_marked.l0]; rw [if_pos (by omega), if_pos (by omega), if_pos (by omega), rdOf_nat, if_neg h, wsucc (by omega)]) (ih (j + 1) out (by omega) (by omega))
theorem marked_ev (st : List Bool) (hs : st.length ≤ 1048576) : Ev (fun k => impl_marked.f k st) (trues 0 st) :=
  ev_eq (marked_l0 st hs st.length 0 [] (by omega) (by simp)) (by simp)

theorem implStep_l0 (n : Nat) (hn : n ≤ 96) (a2 : Int) (sm : List Int) (hsl : sm.length ≤ 1048576) (ed : List S51) (he : ed.length ≤ 2400) (hk : ∀ i, 0 ≤ i → i < ed.length → EO n ed i) (d : Nat) : ∀ (j : Nat) (y : List Bool), y.length = n → j + d = ed.length →
    Ev (fun k => impl_StepAuto.l0 k sm a2 y ed (ed.length : Int) (j : Int)) (trues 0 (stepTo a2 sm (ed.drop j) y), true) := by
  induction d with
  | zero =>
    intro j y hy hd
    rw [List.drop_of_length_le (by omega)]
    exact Ev.step (f := fun k => (impl_marked.f k y).bind fun t => some (t, true)) (fun k => by simp only [impl_StepAuto.l0]; rw [if_neg (by omega)]) (Ev.bind (marked_ev y (by omega)) (Ev.now _))
  | succ d ih =>
    intro j y hy hd
    have hj : j < ed.length := by omega
    have er : rd_T51 ed (j : Int) = ed.getD j z51 := by simp [rd_T51]
    obtain ⟨⟨h1, h2⟩, ⟨h3, h4⟩, h5, h6⟩ := (hk j (Nat.zero_le _) hj).1
    rw [drop_cons hj z51, stepTo]
    generalize ed.getD j z51 = x at er h1 h2 h3 h4 h5 h6
    have hc := contains_tells sm x.f0 (by omega)
    by_cases c1 : x.f1 = a2
    · refine Ev.step (f := fun k => (slices_Contains_int_int.f k sm x.f0).bind fun t234 => (if t234 = true then (impl_StepAuto.l0 k sm a2 (y.set x.f2.toNat true) ed (ed.length : Int) ((j + 1 : Nat) : Int)) else (impl_StepAuto.l0 k sm a2 y ed (ed.length : Int) ((j + 1 : Nat) : Int)))) (fun k => by simp only [impl_StepAuto.l0]; rw [if_pos (by omega), if_pos (by omega), if_pos (by omega), er, if_pos c1, if_pos h5, if_pos (by omega), wsucc (by omega)]) ?_
      by_cases c2 : x.f0 ∈ sm
      · rw [if_pos ⟨c1, c2⟩]
        exact Ev.bind (tells_ev hc c2) (ev_pos rfl (ih (j + 1) (y.set x.f2.toNat true) (by simpa using hy) (by omega)))
      · rw [if_neg (fun h => c2 h.2)]
        exact Ev.bind (tells_ev_not hc c2) (ev_neg (by simp) (ih (j + 1) y hy (by omega)))
    · rw [if_neg (fun h => c1 h.1)]
      exact Ev.step (fun k => by simp only [impl_StepAuto.l0]; rw [if_pos (by omega), if_pos (by omega), if_pos (by omega), er, if_neg c1, wsucc (by omega)]) (ih (j + 1) y hy (by omega))
theorem StepAuto_both (n : Int) (fi : List Int) (ed : List S51) (go : List (List Int)) (sm : List Int) (a2 : Int) (hf : fi.length ≤ 9223372036854775807) (he : ed.length ≤ 9223372036854775807) (hx : ∀ x ∈ go, x.length ≤ 9223372036854775807) (hs : sm.length ≤ 1048576) :
    ∃ r, Ev (fun k => spec_StepAuto.f k n fi ed go sm a2) r ∧ Ev (fun k => impl_StepAuto.f k n fi ed go sm a2) r ∧ r.1.length ≤ 96 := by
  have hno : Ev (fun k => impl_StepAuto.j0 k sm a2 true n fi ed go) ([], false) := Ev.step (f := fun _ => some ([], false)) (fun k => by simp only [impl_StepAuto.j0, if_true]) (Ev.now _)
  have g1 := spec_GoodAuto_tells n fi ed go hf he hx
  have g2 := impl_GoodAuto_tells n fi ed go hf he hx
  by_cases h : GoodA n fi ed go
  · obtain ⟨u, rfl⟩ := Int.eq_ofNat_of_zero_le (show 0 ≤ n by have := h.1; omega)
    have hu : u ≤ 96 := by have := h.1; omega
    have hp := l11Points_tells sm u (by omega) (by omega)
    have hi := isIncreasing_tells sm (u : Int) (by omega)
    by_cases hn : Rising sm 0 ((u : Int) - 1)
    · by_cases ha : 0 ≤ a2 ∧ a2 ≤ 7
      · refine ⟨(trues 0 (stepTo a2 sm ed (List.replicate u false)), true), ?_, ?_, ?_⟩
        · exact Ev.bind (tells_ev g1 h) (ev_pos rfl (Ev.bind (tells_ev hp hn) (ev_pos rfl (Ev.bind (tells_ev (l1In_tells a2 0 7) ha) (ev_pos rfl (Ev.bind (l12Step_ev u hu a2 sm fi go hs (rising_at hn) ed h.2.2.1 h.2.2.2.2) (Ev.now _)))))))
        · refine Ev.bind (tells_ev g2 h) (ev_pos rfl (Ev.bind (tells_ev hi hn) (ev_pos rfl (Ev.bind (tells_ev (isOneLetter_tells a2) ha) ?_))))
          refine Ev.step (f := fun k => impl_StepAuto.l0 k sm a2 (List.replicate u false) ed (ed.length : Int) 0) (fun k => by simp only [impl_StepAuto.j0]; rw [if_neg (by simp), if_pos (by omega), if_pos (by omega)]; rfl) ?_
          exact implStep_l0 u hu a2 sm hs ed h.2.2.1 h.2.2.2.2 ed.length 0 _ (by simp) (by omega)
        · have := trues_length (stepTo a2 sm ed (List.replicate u false)) 0
          rw [stepTo_length, List.length_replicate] at this
          simp only; omega
      · exact ⟨([], false), Ev.bind (tells_ev g1 h) (ev_pos rfl (Ev.bind (tells_ev hp hn) (ev_pos rfl (Ev.bind (tells_ev_not (l1In_tells a2 0 7) ha) (ev_neg (by simp) (Ev.now _)))))), Ev.bind (tells_ev g2 h) (ev_pos rfl (Ev.bind (tells_ev hi hn) (ev_pos rfl (Ev.bind (tells_ev_not (isOneLetter_tells a2) ha) hno)))), by simp⟩
    · exact ⟨([], false), Ev.bind (tells_ev g1 h) (ev_pos rfl (Ev.bind (tells_ev_not hp hn) (ev_neg (by simp) (Ev.now _)))), Ev.bind (tells_ev g2 h) (ev_pos rfl (Ev.bind (tells_ev_not hi hn) (ev_neg (by simp) hno))), by simp⟩
  · exact ⟨([], false), Ev.bind (tells_ev_not g1 h) (ev_neg (by simp) (Ev.now _)), Ev.bind (tells_ev_not g2 h) (ev_neg (by simp) hno), by simp⟩

theorem eqIntS_l0 (l : List Int) (hl : l.length ≤ 9223372036854775807) (d : Nat) : ∀ (j : Nat), j + d = l.length → Ev (fun k => laws_eqIntS.l0 k l l (j : Int)) true := by
  induction d with
  | zero => exact fun j hd => Ev.step (f := fun _ => some true) (fun k => by simp only [laws_eqIntS.l0]; rw [if_neg (by omega)]) (Ev.now _)
  | succ d ih => exact fun j hd => Ev.step (fun k => by simp only [laws_eqIntS.l0, if_true]; rw [if_pos (by omega), if_pos (by omega), if_pos (by omega), wsucc (by omega)]) (ih (j + 1) (by omega))
theorem eqIntS_ev (l : List Int) (hl : l.length ≤ 9223372036854775807) : Ev (fun k => laws_eqIntS.f k l l) true :=
  Ev.congr (fun k => by simp only [laws_eqIntS.f, if_true]; rfl) (eqIntS_l0 l hl l.length 0 (by omega))

theorem eqEdgeS_l0 (l : List S51) (hl : l.length ≤ 9223372036854775807) (d : Nat) : ∀ (j : Nat), j + d = l.length → Ev (fun k => laws_eqEdgeS.l0 k l l (j : Int)) true := by
  induction d with
  | zero => exact fun j hd => Ev.step (f := fun _ => some true) (fun k => by simp only [laws_eqEdgeS.l0]; rw [if_neg (by omega)]) (Ev.now _)
  | succ d ih => exact fun j hd => Ev.step (fun k => by simp only [laws_eqEdgeS.l0, laws_eqEdge.f, if_true, Option.bind_some]; rw [if_pos (by omega), if_pos (by omega), if_pos (by omega), wsucc (by omega)]) (ih (j + 1) (by omega))
theorem eqEdgeS_ev (l : List S51) (hl : l.length ≤ 9223372036854775807) : Ev (fun k => laws_eqEdgeS.f k l l) true :=
  Ev.congr (fun k => by simp only [laws_eqEdgeS.f, if_true]; rfl) (eqEdgeS_l0 l hl l.length 0 (by omega))

theorem eqIntSS_l0 (l : List (List Int)) (hl : l.length ≤ 9223372036854775807) (hx : ∀ x ∈ l, x.length ≤ 9223372036854775807) (d : Nat) : ∀ (j : Nat), j + d = l.length → Ev (fun k => laws_eqIntSS.l0 k l l (j : Int)) true := by
  induction d with
  | zero => exact fun j hd => Ev.step (f := fun _ => some true) (fun k => by simp only [laws_eqIntSS.l0]; rw [if_neg (by omega)]) (Ev.now _)
  | succ d ih =>
    intro j hd
    have er : rd_L2 l (j : Int) = l.getD j [] := by simp [rd_L2]
    exact Ev.step (fun k => by simp only [laws_eqIntSS.l0]; rw [if_pos (by omega), if_pos (by omega), if_pos (by omega), wsucc (by omega), er]) (Ev.bind (eqIntS_ev _ (hx _ (getD_mem (by omega) _))) (ev_pos rfl (ih (j + 1) (by omega))))
theorem eqIntSS_ev (l : List (List Int)) (hl : l.length ≤ 9223372036854775807) (hx : ∀ x ∈ l, x.length ≤ 9223372036854775807) : Ev (fun k => laws_eqIntSS.f k l l) true :=
  Ev.congr (fun k => by simp only [laws_eqIntSS.f, if_true]; rfl) (eqIntSS_l0 l hl hx l.length 0 (by omega))

theorem eqAuto_ev (n : Int) (fi : List Int) (ed : List S51) (go : List (List Int)) (hf : fi.length ≤ 9223372036854775807) (he : ed.length ≤ 9223372036854775807) (hg : go.length ≤ 9223372036854775807) (hx : ∀ x ∈ go, x.length ≤ 9223372036854775807) :
    Ev (fun k => laws_eqAuto.f k n fi ed go n fi ed go) true :=
  ev_pos rfl (Ev.bind (eqIntS_ev fi hf) (ev_pos rfl (Ev.bind (eqEdgeS_ev ed he) (ev_pos rfl (Ev.bind (eqIntSS_ev go hg hx) (ev_pos rfl (Ev.now _)))))))

theorem markIntS_l0 (d : Nat) : ∀ (j : Nat) (y : List Int) (a : Int), j + d = y.length → y.length ≤ 1048576 → 0 ≤ a → a + d ≤ 4611686018427387904 → Ev (fun k => laws_markIntS.l0 k y a (j : Int)) (a + d, y.take j ++ cnt d a) := by
  induction d with
  | zero =>
    intro j y a hd hy h0 h1
    refine ev_eq (Ev.step (f := fun _ => some (a, y)) (fun k => by simp only [laws_markIntS.l0]; rw [if_neg (by omega)]) (Ev.now _)) ?_
    rw [List.take_of_length_le (by omega)]; simp [cnt]
  | succ d ih =>
    intro j y a hd hy h0 h1
    refine Ev.step (fun k => by simp only [laws_markIntS.l0]; rw [if_pos (by omega), if_pos (by omega), wsucc (by omega), wid (x := a + 1) (by omega) (by omega)]) ?_
    refine ev_eq (ih (j + 1) (y.set ((j : Int)).toNat a) (a + 1) (by simp; omega) (by simpa using hy) (by omega) (by omega)) ?_
    simp only [Int.toNat_natCast]
    rw [List.take_succ_eq_append_getElem (by simp; omega), List.take_set_of_le (Nat.le_refl j)]
    simp [cnt]; omega
theorem markIntS_ev (y : List Int) (a : Int) (hy : y.length ≤ 1048576) (h0 : 0 ≤ a) (h1 : a ≤ 2305843009213693952) : Ev (fun k => laws_markIntS.f k y a) (a + y.length, cnt y.length a) :=
  ev_eq (markIntS_l0 y.length 0 y a (by omega) hy h0 (by omega)) (by simp)

def cntE : Nat → Int → List S51
  | 0, _ => []
  | n + 1, a => ⟨a, a + 1, a + 2⟩ :: cntE n (a + 3)
theorem rdE_set {y : List S51} {j : Nat} {s : S51} (h : j < y.length) : rd_T51 (y.set j s) (j : Int) = s := by
  simp [rd_T51, List.getD_eq_getElem?_getD, h]
theorem markEdgeS_l0 (d : Nat) : ∀ (j : Nat) (y : List S51) (a : Int), j + d = y.length → y.length ≤ 1048576 → 0 ≤ a → a + 3 * d ≤ 4611686018427387904 → Ev (fun k => laws_markEdgeS.l0 k y a (j : Int)) (a + 3 * d, y.take j ++ cntE d a) := by
  induction d with
  | zero =>
    intro j y a hd hy h0 h1
    refine ev_eq (Ev.step (f := fun _ => some (a, y)) (fun k => by simp only [laws_markEdgeS.l0]; rw [if_neg (by omega)]) (Ev.now _)) ?_
    rw [List.take_of_length_le (by omega)]; simp [cntE]
  | succ d ih =>
    intro j y a hd hy h0 h1
    have hj : j < y.length := by omega
    have hj2 : ∀ s : S51, j < (y.set j s).length := fun s => by simpa using hj
    refine Ev.step (f := fun k => laws_markEdgeS.l0 k (y.set j ⟨a, a + 1, a + 2⟩) (a + 3) ((j + 1 : Nat) : Int)) (fun k => by
      simp only [laws_markEdgeS.l0, Option.bind_some, Int.toNat_natCast]
      rw [if_pos (by omega), if_pos (by omega), wsucc (by omega), wid (x := a + 1) (by omega) (by omega), wid (x := a + 1 + 1) (by omega) (by omega), wid (x := a + 1 + 1 + 1) (by omega) (by omega), rdE_set hj, rdE_set (hj2 _), List.set_set, List.set_set, show a + 1 + 1 = a + 2 by omega, show a + 2 + 1 = a + 3 by omega]) ?_
    refine ev_eq (ih (j + 1) (y.set j ⟨a, a + 1, a + 2⟩) (a + 3) (by simp; omega) (by simpa using hy) (by omega) (by omega)) ?_
    rw [List.take_succ_eq_append_getElem (by simp; omega), List.take_set_of_le (Nat.le_refl j)]
    simp [cntE]; omega
theorem markEdgeS_ev (y : List S51) (a : Int) (hy : y.length ≤ 1048576) (h0 : 0 ≤ a) (h1 : a ≤ 1152921504606846976) : Ev (fun k => laws_markEdgeS.f k y a) (a + 3 * y.length, cntE y.length a) :=
  ev_eq (markEdgeS_l0 y.length 0 y a (by omega) hy h0 (by omega)) (by simp)

theorem markIntSS_ev : ∀ (l : List (List Int)) (a : Int), (∀ x ∈ l, x.length ≤ 1048576) → 0 ≤ a → a + tot l ≤ 2305843009213693952 → Ev (fun k => laws_markIntSS.f k l a) (a + tot l, cnt2 l a)
  | [], a, _, _, _ => ev_eq (Ev.now (a, [])) (by simp [tot, cnt2])
  | x :: t, a, hx, h0, h1 => by
    simp only [tot] at h1
    have e1 := markIntS_ev x a (hx x (by simp)) h0 (by omega)
    have e2 := markIntSS_ev t (a + x.length) (fun y hy => hx y (by simp [hy])) (by omega) (by omega)
    refine ev_eq (Ev.bind e1 (Ev.bind e2 (Ev.now _))) ?_
    simp only [tot, cnt2, Int.natCast_add, Int.add_assoc]
theorem tot_small {l : List (List Int)} (hl : l.length ≤ 1048576) (hx : ∀ x ∈ l, x.length ≤ 1048576) : tot l ≤ 1099511627776 := by
  have h2 := tot_le l hx
  have h3 : l.length * 1048576 ≤ 1048576 * 1048576 := Nat.mul_le_mul_right _ hl
  omega

theorem markAuto_ev (n : Int) (fi : List Int) (ed : List S51) (go : List (List Int)) (hf : fi.length ≤ 1048576) (he : ed.length ≤ 1048576) (hg : go.length ≤ 1048576) (hx : ∀ x ∈ go, x.length ≤ 1048576) :
    Ev (fun k => laws_markAuto.f k n fi ed go 1) (1 + fi.length + 3 * ed.length + tot go) := by
  have ht := tot_small hg hx
  exact Ev.bind (markIntS_ev fi 1 hf (by omega) (by omega)) (Ev.bind (markEdgeS_ev ed (1 + fi.length) he (by omega) (by omega)) (Ev.bind (markIntSS_ev go (1 + fi.length + 3 * ed.length) hx (by omega) (by omega)) (Ev.now _)))

theorem heldIntS_l0 (y : List Int) (hy : y.length ≤ 1048576) (d : Nat) : ∀ (j : Nat) (a : Int), j + d = y.length → y.drop j = cnt d a → 0 ≤ a → a + d ≤ 4611686018427387904 → Ev (fun k => laws_heldIntS.l0 k y a (j : Int)) (a + d) := by
  induction d with
  | zero =>
    intro j a hd hc h0 h1
    exact ev_eq (Ev.step (f := fun _ => some a) (fun k => by simp only [laws_heldIntS.l0]; rw [if_neg (by omega)]) (Ev.now _)) (by omega)
  | succ d ih =>
    intro j a hd hc h0 h1
    rw [drop_cons (by omega) 0, cnt] at hc
    obtain ⟨h2, h3⟩ := List.cons.inj hc
    refine Ev.step (fun k => by simp only [laws_heldIntS.l0]; rw [if_pos (by omega), if_pos (by omega), rd_nat, if_pos h2, wsucc (by omega), wid (x := a + 1) (by omega) (by omega)]) ?_
    exact ev_eq (ih (j + 1) (a + 1) (by omega) h3 (by omega) (by omega)) (by omega)
theorem heldIntS_ev (n : Nat) (a : Int) (hn : n ≤ 1048576) (h0 : 0 ≤ a) (h1 : a ≤ 2305843009213693952) : Ev (fun k => laws_heldIntS.f k (cnt n a) a) (a + n) :=
  heldIntS_l0 (cnt n a) (by rw [cnt_length]; exact hn) n 0 a (by rw [cnt_length]; omega) (by simp) h0 (by omega)

theorem FnExactStepAuto : ∀ (a0_0 : Int) (l0_1 : List (Int)) (l0_2 : List (S61)) (l0_3 : List (List (Int))) (l1 : List (Int)) (a2 : Int), (In64 a0_0) → (l0_1.length ≤ 9223372036854775807 ∧ ∀ x ∈ l0_1, In64 x) → (l0_2.length ≤ 9223372036854775807 ∧ ∀ x ∈ l0_2, (In64 x.f0) ∧ (In64 x.f1) ∧ (In64 x.f2)) → (l0_3.length ≤ 9223372036854775807 ∧ ∀ x ∈ l0_3, x.length ≤ 9223372036854775807 ∧ ∀ x' ∈ x, In64 x') → (l1.length ≤ 9223372036854775807 ∧ ∀ x ∈ l1, In64 x) → (In64 a2) → ∃ k, laws_FnExactStepAuto.Holds k a0_0 l0_1 l0_2 l0_3 l1 a2 := by
  intro n fi ed go sm a2 _ hf he hg hs _
  by_cases c : 1048576 < (sm.length : Int)
  · exact ⟨0, .inl c⟩
  obtain ⟨t, ht, hp⟩ := szAuto_ev n fi ed go hf.1 he.1 hg.1 (fun x hx => (hg.2 x hx).1)
  by_cases h : t < 0
  · obtain ⟨k, hk⟩ := ht.rounds
    exact ⟨k, .inr ⟨c, t, hk, .inl h⟩⟩
  obtain ⟨h1, h2, h3, h4⟩ := hp (by omega)
  have h5 : ∀ x ∈ go, x.length ≤ 9223372036854775807 := fun x hx => (hg.2 x hx).1
  have hm : (ed.map cEdge).length ≤ 1048576 := by simpa using h2
  obtain ⟨⟨b, ok⟩, hb, hb', hlen⟩ := StepAuto_both n fi (ed.map cEdge) go sm a2 hf.1 (by omega) h5 (by omega)
  have hlen : b.length ≤ 96 := hlen
  have ht2 := tot_small h3 h4
  have hma := markAuto_ev n fi (ed.map cEdge) go h1 hm h3 h4
  have hm2 := markIntS_ev sm (1 + fi.length + 3 * (ed.map cEdge).length + tot go) (by omega) (by omega) (by omega)
  have hm3 := markIntS_ev b 1 (by omega) (by omega) (by omega)
  have hh := heldIntS_ev b.length 1 (by omega) (by omega) (by omega)
  obtain ⟨k, a1, a2, a3, a4, a5, a6, a7, a8, a9, a10, a11, a12⟩ := ((ev_late ht).and ((ev_late (toAuto_ev n fi ed go h1 h2 h3 h4)).and ((ev_late (toIntS_ev sm (by omega))).and ((ev_late hb).and ((ev_late hb').and ((ev_late (eqIntS_ev b (by omega))).and ((ev_late (eqAuto_ev n fi (ed.map cEdge) go hf.1 (by omega) hg.1 h5)).and ((ev_late (eqIntS_ev sm (by omega))).and ((ev_late hma).and ((ev_late hm2).and ((ev_late hm3).and (ev_late hh)))))))))))).ex
  exact ⟨k, .inr ⟨c, t, a1, .inr ⟨h, _, b, ok, _, _, _, _, _, a2, a3, a4, a5, a6, a7, a8, a9, a10, a11, a12, by omega, by omega⟩⟩⟩

end Go.Proofs.Ytijgdncmancolaa.Pure
