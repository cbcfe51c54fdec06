/- The pure statement of the law FnExactShortPath: what the printed functions compute makes the law true, for every input. No condition. -/
import Derived.Test.YtbgbidgnlioomaaOpen
import Derived.Test.YtbgbidgnlioomaaAid
import Derived.Test.YtbgbidgnlioomaaMFnExactShortPath3
set_option linter.unusedVariables false
set_option linter.unusedSimpArgs false
namespace Go.Proofs.Ytbgbidgnlioomaa.Pure
open Go.RowKit Go.Proofs.YtbgbidgnlioomaaW.PrintWords Go.Proofs.Ytbgbidgnlioomaa.P Go.Proofs.Ytbgbidgnlioomaa.Hof Go.Proofs.Ytbgbidgnlioomaa.Open Go.Proofs.Ytbgbidgnlioomaa.Aid
-- LEMMAS
theorem szIntS_eq (l : List Int) (a : Int) (ha : 0 ≤ a ∧ a ≤ 1048576) (hl : l.length ≤ 9223372036854775807) : laws_szIntS.f l a = some (if (l.length : Int) ≤ a then a - l.length else -1) := by
  have e : wrap64 (a - (l.length : Int)) = a - l.length := wid (by omega) (by omega)
  simp only [laws_szIntS.f]
  rw [e]
  by_cases h : (l.length : Int) ≤ a
  · rw [if_neg (by omega), if_pos h]
  · rw [if_pos (by omega), if_neg h]

theorem szIntSS_l0 (l : List (List Int)) (hl : l.length ≤ 9223372036854775807) (hx : ∀ x ∈ l, x.length ≤ 9223372036854775807) (d : Nat) : ∀ (j : Nat) (a : Int), 0 ≤ a → a ≤ 1048576 → j + d = l.length →
    ∃ t, Ev (fun k => laws_szIntSS.l0 k l a (j : Int)) t ∧ (0 ≤ t → t ≤ a ∧ ∀ x ∈ l.drop j, (x.length : Int) ≤ a) := by
  induction d with
  | zero =>
    intro j a h0 h1 hd
    refine ⟨a, Ev.step (f := fun _ => some a) (fun k => by simp only [laws_szIntSS.l0]; rw [if_neg (by omega)]) (Ev.now a), fun _ => ⟨by omega, ?_⟩⟩
    rw [List.drop_of_length_le (by omega)]; simp
  | succ d ih =>
    intro j a h0 h1 hd
    have hj : j < l.length := by omega
    have e1 : ∀ k, laws_szIntSS.l0 (k + 1) l a (j : Int) = ((laws_szIntS.f (rd_L1 l (j : Int)) a).bind fun t => (if t < 0 then (some (-1)) else (laws_szIntSS.l0 k l t ((j + 1 : Nat) : Int)))) := fun k => by
      simp only [laws_szIntSS.l0]; rw [if_pos (by omega), if_pos (by omega), wsucc (by omega)]
    have er : rd_L1 l (j : Int) = l.getD j [] := by simp [rd_L1]
    have hm := getD_mem hj ([] : List Int)
    rw [er, szIntS_eq _ a ⟨h0, h1⟩ (hx _ hm)] at e1
    simp only [Option.bind_some] at e1
    by_cases h : ((l.getD j []).length : Int) ≤ a
    · rw [if_pos h] at e1
      obtain ⟨t, ht, hp⟩ := ih (j + 1) (a - (l.getD j []).length) (by omega) (by omega) (by omega)
      refine ⟨t, Ev.step e1 (ev_neg (by omega) ht), fun h2 => ?_⟩
      obtain ⟨h3, h4⟩ := hp h2
      refine ⟨by omega, fun x hx' => ?_⟩
      rw [drop_cons hj []] at hx'
      rcases List.mem_cons.1 hx' with rfl | hx'
      · exact h
      · have := h4 x hx'; omega
    · rw [if_neg h] at e1
      exact ⟨-1, Ev.step e1 (ev_pos (by omega) (Ev.now _)), fun h => by omega⟩
theorem szIntSS_ev (l : List (List Int)) (a : Int) (ha : 0 ≤ a ∧ a ≤ 1048576) (hl : l.length ≤ 9223372036854775807) (hx : ∀ x ∈ l, x.length ≤ 9223372036854775807) :
    ∃ t, Ev (fun k => laws_szIntSS.f k l a) t ∧ (0 ≤ t → t ≤ a ∧ (l.length : Int) ≤ a ∧ ∀ x ∈ l, (x.length : Int) ≤ a) := by
  have e : wrap64 (a - (l.length : Int)) = a - l.length := wid (by omega) (by omega)
  by_cases h : (l.length : Int) ≤ a
  · obtain ⟨t, ht, hp⟩ := szIntSS_l0 l hl hx l.length 0 (a - l.length) (by omega) (by omega) (by omega)
    refine ⟨t, Ev.congr (fun k => by simp only [laws_szIntSS.f]; rw [e, if_neg (by omega)]; rfl) ht, fun h2 => ?_⟩
    obtain ⟨h3, h4⟩ := hp h2
    exact ⟨by omega, h, fun x hx' => by have := h4 x (by simpa using hx'); omega⟩
  · exact ⟨-1, Ev.congr (f := fun _ => some (-1)) (fun k => by simp only [laws_szIntSS.f]; rw [e, if_pos (by omega)]) (Ev.now _), fun h => by omega⟩

theorem szGraph_ev (l : List (List Int)) (hl : l.length ≤ 9223372036854775807) (hx : ∀ x ∈ l, x.length ≤ 9223372036854775807) :
    ∃ t, Ev (fun k => laws_szGraph.f k l 1048576) t ∧ (0 ≤ t → t ≤ 1048576 ∧ l.length ≤ 1048576 ∧ ∀ x ∈ l, x.length ≤ 1048576) := by
  obtain ⟨t, ht, hp⟩ := szIntSS_ev l 1048576 (by omega) hl hx
  by_cases h : t < 0
  · exact ⟨-1, (Ev.bind ht (ev_pos h (Ev.now _))), fun h => by omega⟩
  · refine ⟨t, (Ev.bind ht (ev_neg h (Ev.now _))), fun h => ?_⟩
    obtain ⟨h1, h2, h3⟩ := hp h
    exact ⟨h1, by omega, fun x hx' => by have := h3 x hx'; omega⟩

theorem toIntS_l0 (l : List Int) (hl : l.length ≤ 1048576) (d : Nat) : ∀ (j : Nat) (y : List Int), y.length = l.length → j + d = l.length → Ev (fun k => laws_toIntS.l0 k l y (j : Int)) (y.take j ++ l.drop j) := by
  induction d with
  | zero =>
    intro j y hy hd
    rw [take_all_drop hy (by omega)]
    exact Ev.step (f := fun _ => some y) (fun k => by simp only [laws_toIntS.l0]; rw [if_neg (by omega)]) (Ev.now y)
  | succ d ih =>
    intro j y hy hd
    refine Ev.step (f := fun k => laws_toIntS.l0 k l (y.set j (rd l (j : Int))) ((j + 1 : Nat) : Int)) (fun k => by simp only [laws_toIntS.l0]; rw [if_pos (by omega), if_pos (by omega), if_pos (by omega), wsucc (by omega)]; rfl) ?_
    refine ev_eq (ih (j + 1) _ (by simpa using hy) (by omega)) (copy_step (by omega) (by omega) ?_)
    rw [rd_nat, getD_eq (by omega), getD_eq (by omega)]
theorem toIntS_ev (l : List Int) (hl : l.length ≤ 1048576) : Ev (fun k => laws_toIntS.f k l) l := by
  refine Ev.congr (f := fun k => laws_toIntS.l0 k l (List.replicate l.length 0) ((0 : Nat) : Int)) (fun k => by simp only [laws_toIntS.f]; rw [if_pos (by omega), if_pos (by simp only [Int.toNat_natCast]; omega)]; rfl) ?_
  exact ev_eq (toIntS_l0 l hl l.length 0 _ (by simp) (by omega)) (by simp)

theorem toIntSS_l0 (l : List (List Int)) (hl : l.length ≤ 1048576) (hx : ∀ x ∈ l, x.length ≤ 1048576) (d : Nat) : ∀ (j : Nat) (y : List (List Int)), y.length = l.length → j + d = l.length → Ev (fun k => laws_toIntSS.l0 k l y (j : Int)) (y.take j ++ l.drop j) := by
  induction d with
  | zero =>
    intro j y hy hd
    rw [take_all_drop hy (by omega)]
    exact Ev.step (f := fun _ => some y) (fun k => by simp only [laws_toIntSS.l0]; rw [if_neg (by omega)]) (Ev.now y)
  | succ d ih =>
    intro j y hy hd
    have er : rd_L1 l (j : Int) = l.getD j [] := by simp [rd_L1]
    refine Ev.step (f := fun k => (laws_toIntS.f k (l.getD j [])).bind fun t => laws_toIntSS.l0 k l (y.set j t) ((j + 1 : Nat) : Int)) (fun k => by simp only [laws_toIntSS.l0]; rw [if_pos (by omega), if_pos (by omega), er, wsucc (by omega)]; simp only [if_pos (show (j : Int) < (y.length : Int) by omega)]; rfl) ?_
    refine Ev.bind (toIntS_ev _ (hx _ (getD_mem (by omega) _))) ?_
    exact ev_eq (ih (j + 1) _ (by simpa using hy) (by omega)) (copy_step (by omega) (by omega) (by rw [getD_eq (by omega), getD_eq (by omega)]))
theorem toIntSS_ev (l : List (List Int)) (hl : l.length ≤ 1048576) (hx : ∀ x ∈ l, x.length ≤ 1048576) : Ev (fun k => laws_toIntSS.f k l) l := by
  refine Ev.congr (f := fun k => laws_toIntSS.l0 k l (List.replicate l.length []) ((0 : Nat) : Int)) (fun k => by simp only [laws_toIntSS.f]; rw [if_pos (by omega), if_pos (by simp only [Int.toNat_natCast]; omega)]; rfl) ?_
  exact ev_eq (toIntSS_l0 l hl hx l.length 0 _ (by simp) (by omega)) (by simp)

theorem toGraph_ev (l : List (List Int)) (hl : l.length ≤ 1048576) (hx : ∀ x ∈ l, x.length ≤ 1048576) : Ev (fun k => laws_toGraph.f k l) l :=
  (Ev.bind (toIntSS_ev l hl hx) (Ev.now l))

theorem eqIntS_l0 (l : List Int) (hl : l.length ≤ 9223372036854775807) (d : Nat) : ∀ (j : Nat), j + d = l.length → Ev (fun k => laws_eqIntS.l0 k l l (j : Int)) true := by
  induction d with
  | zero => exact fun j hd => Ev.step (f := fun _ => some true) (fun k => by simp only [laws_eqIntS.l0]; rw [if_neg (by omega)]) (Ev.now _)
  | succ d ih => exact fun j hd => Ev.step (fun k => by simp only [laws_eqIntS.l0, if_true]; rw [if_pos (by omega), if_pos (by omega), if_pos (by omega), wsucc (by omega)]) (ih (j + 1) (by omega))
theorem eqIntS_ev (l : List Int) (hl : l.length ≤ 9223372036854775807) : Ev (fun k => laws_eqIntS.f k l l) true :=
  Ev.congr (fun k => by simp only [laws_eqIntS.f, if_true]; rfl) (eqIntS_l0 l hl l.length 0 (by omega))

theorem eqIntSS_l0 (l : List (List Int)) (hl : l.length ≤ 9223372036854775807) (hx : ∀ x ∈ l, x.length ≤ 9223372036854775807) (d : Nat) : ∀ (j : Nat), j + d = l.length → Ev (fun k => laws_eqIntSS.l0 k l l (j : Int)) true := by
  induction d with
  | zero => exact fun j hd => Ev.step (f := fun _ => some true) (fun k => by simp only [laws_eqIntSS.l0]; rw [if_neg (by omega)]) (Ev.now _)
  | succ d ih =>
    intro j hd
    have er : rd_L1 l (j : Int) = l.getD j [] := by simp [rd_L1]
    exact Ev.step (fun k => by simp only [laws_eqIntSS.l0]; rw [if_pos (by omega), if_pos (by omega), if_pos (by omega), wsucc (by omega), er]) (Ev.bind (eqIntS_ev _ (hx _ (getD_mem (by omega) _))) (ev_pos rfl (ih (j + 1) (by omega))))
theorem eqIntSS_ev (l : List (List Int)) (hl : l.length ≤ 9223372036854775807) (hx : ∀ x ∈ l, x.length ≤ 9223372036854775807) : Ev (fun k => laws_eqIntSS.f k l l) true :=
  Ev.congr (fun k => by simp only [laws_eqIntSS.f, if_true]; rfl) (eqIntSS_l0 l hl hx l.length 0 (by omega))

theorem eqGraph_ev (l : List (List Int)) (hl : l.length ≤ 9223372036854775807) (hx : ∀ x ∈ l, x.length ≤ 9223372036854775807) : Ev (fun k => laws_eqGraph.f k l l) true :=
  (Ev.bind (eqIntSS_ev l hl hx) (ev_pos rfl (Ev.now _)))

theorem markIntS_l0 (d : Nat) : ∀ (j : Nat) (y : List Int) (a : Int), j + d = y.length → y.length ≤ 1048576 → 0 ≤ a → a + d ≤ 4611686018427387904 → Ev (fun k => laws_markIntS.l0 k y a (j : Int)) (a + d, y.take j ++ cnt d a) := by
  induction d with
  | zero =>
    intro j y a hd hy h0 h1
    refine ev_eq (Ev.step (f := fun _ => some (a, y)) (fun k => by simp only [laws_markIntS.l0]; rw [if_neg (by omega)]) (Ev.now _)) ?_
    rw [List.take_of_length_le (by omega)]; simp [cnt]
  | succ d ih =>
    intro j y a hd hy h0 h1
    refine Ev.step (fun k => by simp only [laws_markIntS.l0]; rw [if_pos (by omega), if_pos (by omega), wsucc (by omega), wid (x := a + 1) (by omega) (by omega)]) ?_
    refine ev_eq (ih (j + 1) (y.set ((j : Int)).toNat a) (a + 1) (by simp; omega) (by simpa using hy) (by omega) (by omega)) ?_
    simp only [Int.toNat_natCast]
    rw [List.take_succ_eq_append_getElem (by simp; omega), List.take_set_of_le (Nat.le_refl j)]
    simp [cnt]; omega
theorem markIntS_ev (y : List Int) (a : Int) (hy : y.length ≤ 1048576) (h0 : 0 ≤ a) (h1 : a ≤ 2305843009213693952) : Ev (fun k => laws_markIntS.f k y a) (a + y.length, cnt y.length a) :=
  ev_eq (markIntS_l0 y.length 0 y a (by omega) hy h0 (by omega)) (by simp)

theorem markIntSS_ev : ∀ (l : List (List Int)) (a : Int), (∀ x ∈ l, x.length ≤ 1048576) → 0 ≤ a → a + tot l ≤ 2305843009213693952 → Ev (fun k => laws_markIntSS.f k l a) (a + tot l, cnt2 l a)
  | [], a, _, _, _ => ev_eq (Ev.now (a, [])) (by simp [tot, cnt2])
  | x :: t, a, hx, h0, h1 => by
    simp only [tot] at h1
    have e1 := markIntS_ev x a (hx x (by simp)) h0 (by omega)
    have e2 := markIntSS_ev t (a + x.length) (fun y hy => hx y (by simp [hy])) (by omega) (by omega)
    refine ev_eq (Ev.bind e1 (Ev.bind e2 (Ev.now _))) ?_
    simp only [tot, cnt2, Int.natCast_add, Int.add_assoc]

theorem markGraph_ev (l : List (List Int)) (a : Int) (hl : l.length ≤ 1048576) (hx : ∀ x ∈ l, x.length ≤ 1048576) (h0 : 0 ≤ a) (h1 : a ≤ 2305841000000000000) : Ev (fun k => laws_markGraph.f k l a) (a + tot l, cnt2 l a) := by
  have h2 := tot_le l hx
  have h3 : l.length * 1048576 ≤ 1048576 * 1048576 := Nat.mul_le_mul_right _ hl
  exact markIntSS_ev l a hx h0 (by omega)
theorem tot_small {l : List (List Int)} (hl : l.length ≤ 1048576) (hx : ∀ x ∈ l, x.length ≤ 1048576) : tot l ≤ 1099511627776 := by
  have h2 := tot_le l hx
  have h3 : l.length * 1048576 ≤ 1048576 * 1048576 := Nat.mul_le_mul_right _ hl
  omega

theorem heldIntS_l0 (y : List Int) (hy : y.length ≤ 1048576) (d : Nat) : ∀ (j : Nat) (a : Int), j + d = y.length → y.drop j = cnt d a → 0 ≤ a → a + d ≤ 4611686018427387904 → Ev (fun k => laws_heldIntS.l0 k y a (j : Int)) (a + d) := by
  induction d with
  | zero =>
    intro j a hd hc h0 h1
    exact ev_eq (Ev.step (f := fun _ => some a) (fun k => by simp only [laws_heldIntS.l0]; rw [if_neg (by omega)]) (Ev.now _)) (by omega)
  | succ d ih =>
    intro j a hd hc h0 h1
    rw [drop_cons (by omega) 0, cnt] at hc
    obtain ⟨h2, h3⟩ := List.cons.inj hc
    refine Ev.step (fun k => by simp only [laws_heldIntS.l0]; rw [if_pos (by omega), if_pos (by omega), rd_nat, if_pos h2, wsucc (by omega), wid (x := a + 1) (by omega) (by omega)]) ?_
    exact ev_eq (ih (j + 1) (a + 1) (by omega) h3 (by omega) (by omega)) (by omega)
theorem heldIntS_ev (n : Nat) (a : Int) (hn : n ≤ 1048576) (h0 : 0 ≤ a) (h1 : a ≤ 2305843009213693952) : Ev (fun k => laws_heldIntS.f k (cnt n a) a) (a + n) :=
  heldIntS_l0 (cnt n a) (by rw [cnt_length]; exact hn) n 0 a (by rw [cnt_length]; omega) (by simp) h0 (by omega)

theorem l1In_eq (n lo hi : Int) : spec_l1In.f n lo hi = some (decide (lo ≤ n ∧ n ≤ hi)) := by
  simp only [spec_l1In.f]
  by_cases h : n ≥ lo
  · rw [if_pos h]; congr 1; simp; intro _; exact h
  · rw [if_neg h]; congr 1; simp; intro h'; omega
theorem l1In_tells (n lo hi : Int) : Tells (fun _ => spec_l1In.f n lo hi) (lo ≤ n ∧ n ≤ hi) := by
  simp only [l1In_eq]; exact tells_some (by simp)

/-- Element i lies within the bounds, and above the one ahead of it. -/
def RiseAt (l : List Int) (lo hi : Int) (i : Nat) : Prop := (lo ≤ l.getD i 0 ∧ l.getD i 0 ≤ hi) ∧ (0 < i → l.getD (i - 1) 0 < l.getD i 0)
def Rising (l : List Int) (lo hi : Int) : Prop := ∀ i, i < l.length → RiseAt l lo hi i
theorem from_here {n j : Nat} {P : Nat → Prop} (hj : j < n) : (∀ i, j ≤ i → i < n → P i) ↔ P j ∧ ∀ i, j + 1 ≤ i → i < n → P i :=
  ⟨fun h => ⟨h j (Nat.le_refl _) hj, fun i h1 h2 => h i (by omega) h2⟩, fun ⟨h0, h⟩ i h1 h2 => by
    rcases Nat.eq_or_lt_of_le h1 with e | e
    · exact e ▸ h0
    · exact h i e h2⟩
theorem l1Rising_l0 (l : List Int) (lo hi : Int) (hl : l.length ≤ 9223372036854775807) (d : Nat) : ∀ (j : Nat), j + d = l.length →
    Tells (fun k => spec_l1Rising.l0 k l lo hi l (l.length : Int) (j : Int)) (∀ i, j ≤ i → i < l.length → RiseAt l lo hi i) := by
  induction d with
  | zero => exact fun j hd => tells_step (f := fun _ => some true) (fun k => by simp only [spec_l1Rising.l0]; rw [if_neg (by omega)]) (tells_yes (fun i h1 h2 => by omega))
  | succ d ih =>
    intro j hd
    have hj : j < l.length := by omega
    refine tells_step (fun k => by simp only [spec_l1Rising.l0]; rw [if_pos (by omega), if_pos (by omega), if_pos (by omega), wsucc (by omega), rd_nat]) ?_
    refine tells_iff ?_ (from_here hj).symm
    refine tells_ask (l1In_tells _ lo hi) (fun hin => ?_) (fun hin => ?_)
    · refine tells_pos rfl ?_
      by_cases h0 : 0 < j
      · refine tells_pos (by omega) ?_
        rw [wpred h0 (by omega), rd_nat]
        refine tells_pos (by omega) (tells_pos (by omega) (tells_if (fun hc => ?_) (fun hc => ?_)))
        · exact tells_no (fun h => by have := h.1.2 h0; omega)
        · exact tells_iff (ih (j + 1) (by omega)) ⟨fun h => ⟨⟨hin, fun _ => by omega⟩, h⟩, fun h => h.2⟩
      · refine tells_neg (by omega) ?_
        exact tells_iff (ih (j + 1) (by omega)) ⟨fun h => ⟨⟨hin, fun h1 => absurd h1 h0⟩, h⟩, fun h => h.2⟩
    · exact tells_neg (by simp) (tells_no (fun h => hin h.1.1))
theorem l1Rising_tells (l : List Int) (lo hi : Int) (hl : l.length ≤ 9223372036854775807) : Tells (fun k => spec_l1Rising.f k l lo hi) (Rising l lo hi) :=
  (tells_iff (l1Rising_l0 l lo hi hl l.length 0 (by omega)) ⟨fun h i hi => h i (Nat.zero_le _) hi, fun h i _ hi => h i hi⟩)
theorem rising_ge {l : List Int} {lo hi : Int} (h : Rising l lo hi) : ∀ i, i < l.length → lo + i ≤ l.getD i 0
  | 0, hi => by have := (h 0 hi).1.1; omega
  | i + 1, hi => by
    have h1 := rising_ge h i (by omega)
    have h2 := (h (i + 1) hi).2 (by omega)
    simp only [Nat.add_sub_cancel] at h2
    omega
theorem rising_len {l : List Int} {lo hi : Int} (h : Rising l lo hi) (hb : lo ≤ hi + 1) : (l.length : Int) ≤ hi - lo + 1 := by
  by_cases h0 : l.length = 0
  · omega
  · have h1 := rising_ge h (l.length - 1) (by omega)
    have h2 := (h (l.length - 1) (by omega)).1.2
    omega

theorem l11Points_tells (l : List Int) (n : Nat) (hl : l.length ≤ 9223372036854775807) (hn : n ≤ 9223372036854775807) : Tells (fun k => spec_l11Points.f k l (n : Int)) (Rising l 0 ((n : Int) - 1)) := by
  have e : wrap64 ((n : Int) - 1) = (n : Int) - 1 := wid (by omega) (by omega)
  refine tells_congr (fun k => by simp only [spec_l11Points.f]; rw [e]) ?_
  exact tells_ask (l1Rising_tells l 0 _ hl) (fun h => tells_yes h) (fun h => tells_no h)

/-- How many arrows. -/
def arcs (l : List (List Int)) : Nat := (l.map List.length).sum
def GG (l : List (List Int)) : Prop := l.length ≤ 1200 ∧ (∀ x ∈ l, Rising x 0 ((l.length : Int) - 1)) ∧ arcs l ≤ 20000
theorem arcs_cons (x : List Int) (l : List (List Int)) : arcs (x :: l) = x.length + arcs l := by simp [arcs]
theorem row_short {x : List Int} {n : Nat} (h : Rising x 0 ((n : Int) - 1)) : x.length ≤ n := by have := rising_len h (by omega); omega
theorem spec_GoodGraph_l0 (l : List (List Int)) (hn : l.length ≤ 1200) (hx : ∀ x ∈ l, x.length ≤ 9223372036854775807) (d : Nat) : ∀ (j : Nat) (a : Nat), a ≤ 1200 * j → j + d = l.length →
    Tells (fun k => spec_GoodGraph.l0 k (a : Int) l (l.length : Int) (j : Int) l) ((∀ x ∈ l.drop j, Rising x 0 ((l.length : Int) - 1)) ∧ a + arcs (l.drop j) ≤ 20000) := by
  induction d with
  | zero =>
    intro j a ha hd
    refine tells_step (f := fun _ => some (decide ((a : Int) ≤ 20000))) (fun k => by simp only [spec_GoodGraph.l0]; rw [if_neg (by omega)]) (tells_some ?_)
    rw [List.drop_of_length_le (by omega)]
    simp [arcs] <;> omega
  | succ d ih =>
    intro j a ha hd
    have hj : j < l.length := by omega
    have er : rd_L1 l (j : Int) = l.getD j [] := by simp [rd_L1]
    have hm := hx _ (getD_mem hj [])
    refine tells_step (fun k => by simp only [spec_GoodGraph.l0]; rw [if_pos (by omega), if_pos (by omega), if_pos (by omega), er, wsucc (by omega)]) ?_
    rw [drop_cons hj [], arcs_cons]
    generalize l.getD j [] = x at hm ⊢
    refine tells_if (fun h => tells_no (fun h2 => ?_)) (fun h => ?_)
    · have := row_short (h2.1 x (by simp)); omega
    · refine tells_ask (l11Points_tells x l.length hm (by omega)) (fun hr => tells_pos rfl ?_) (fun hr => tells_neg (by simp) (tells_no (fun h2 => hr (h2.1 x (by simp)))))
      have hs := row_short hr
      rw [wid (x := (a : Int) + (x.length : Int)) (by omega) (by omega)]
      have e : (a : Int) + (x.length : Int) = ((a + x.length : Nat) : Int) := by omega
      rw [e]
      refine tells_iff (ih (j + 1) (a + x.length) (by omega) (by omega)) ⟨fun ⟨h1, h2⟩ => ⟨fun y hy => ?_, by omega⟩, fun ⟨h1, h2⟩ => ⟨fun y hy => h1 y (List.mem_cons_of_mem _ hy), by omega⟩⟩
      rcases List.mem_cons.1 hy with rfl | hy
      · exact hr
      · exact h1 y hy
theorem spec_GoodGraph_tells (l : List (List Int)) (hx : ∀ x ∈ l, x.length ≤ 9223372036854775807) : Tells (fun k => spec_GoodGraph.f k l) (GG l) := by
  refine tells_if (fun h => tells_no (fun h2 => by have := h2.1; omega)) (fun h => ?_)
  exact tells_iff (spec_GoodGraph_l0 l (by omega) hx l.length 0 0 (by omega) (by omega)) ⟨fun ⟨h1, h2⟩ => ⟨by omega, by simpa using h1, by simpa using h2⟩, fun ⟨_, h1, h2⟩ => ⟨by simpa using h1, by simpa using h2⟩⟩

/-! ### a search in breadth -/
def neg (l : List Int) : Nat := l.countP (fun x => decide (x < 0))
/-- The steps from a point of distance d along its arrows ws: distances and queue. -/
def relax (d : Int) : List Int → List Int → List Int → List Int × List Int
  | [], st, q => (st, q)
  | w :: t, st, q => if st.getD w.toNat 0 < 0 then relax d t (st.set w.toNat (d + 1)) (q ++ [w]) else relax d t st q
/-- Distances so far and the queue; n points; at most N steps in all. -/
structure BI (n N : Nat) (c : Int) (st q : List Int) : Prop where
  len : st.length = n
  hi : ∀ x ∈ st, x ≤ c
  lo : ∀ x ∈ st, -1 ≤ x
  ok : ∀ v ∈ q, 0 ≤ v ∧ v < n ∧ 0 ≤ st.getD v.toNat 0
  sum : neg st + q.length ≤ N
theorem getD_set {l : List Int} {i j : Nat} {x d : Int} : (l.set i x).getD j d = if i = j ∧ j < l.length then x else l.getD j d := by
  simp only [List.getD_eq_getElem?_getD, List.getElem?_set]
  by_cases h : i = j
  · subst h
    by_cases h2 : i < l.length
    · simp [h2]
    · simp [h2]
  · simp [h]
theorem neg_set {l : List Int} {i : Nat} {x : Int} (hi : i < l.length) (h : l.getD i 0 < 0) (hx : 0 ≤ x) : neg (l.set i x) + 1 = neg l := by
  have e : l.getD i 0 = l[i] := getD_eq hi 0
  rw [e] at h
  have h1 : 0 < l.countP (fun x => decide (x < 0)) := List.countP_pos_iff.2 ⟨l[i], List.getElem_mem hi, by simpa using h⟩
  unfold neg
  rw [List.countP_set hi]
  simp only [h, show ¬ x < 0 by omega, decide_true, decide_false, if_true]
  simp only [Bool.false_eq_true, if_false]
  omega
theorem BI.set {n N : Nat} {c d : Int} {st q : List Int} (h : BI n N c st q) {w : Int} (hw0 : 0 ≤ w) (hw1 : w < n) (hn : st.getD w.toNat 0 < 0) (hd : d + 1 ≤ c) (hd0 : 0 ≤ d) : BI n N c (st.set w.toNat (d + 1)) (q ++ [w]) := by
  have hl := h.len
  refine ⟨by simpa using hl, fun x hx => ?_, fun x hx => ?_, fun v hv => ?_, ?_⟩
  · rcases List.mem_or_eq_of_mem_set hx with hx | rfl
    · exact h.hi x hx
    · exact hd
  · rcases List.mem_or_eq_of_mem_set hx with hx | rfl
    · exact h.lo x hx
    · omega
  · rw [getD_set]
    rcases List.mem_append.1 hv with hv | hv
    · obtain ⟨h1, h2, h3⟩ := h.ok v hv
      refine ⟨h1, h2, ?_⟩
      split
      · omega
      · exact h3
    · rw [List.mem_singleton.1 hv]
      refine ⟨hw0, hw1, ?_⟩
      rw [if_pos ⟨rfl, by omega⟩]; omega
  · have h1 := neg_set (l := st) (i := w.toNat) (x := d + 1) (by omega) hn (by omega)
    have h2 := h.sum
    simp only [List.length_append, List.length_singleton]; omega
theorem BI.pop {n N : Nat} {c : Int} {st q : List Int} {v : Int} (h : BI n (N + 1) c st (v :: q)) : BI n N c st q :=
  ⟨h.len, h.hi, h.lo, fun x hx => h.ok x (List.mem_cons_of_mem _ hx), by have := h.sum; simp only [List.length_cons] at this; omega⟩
theorem BI.up {n N : Nat} {c c' : Int} {st q : List Int} (h : BI n N c st q) (hc : c ≤ c') : BI n N c' st q := ⟨h.len, fun x hx => by have := h.hi x hx; omega, h.lo, h.ok, h.sum⟩
/-- All arrows lead to points. -/
def Arrows (g : List (List Int)) : Prop := ∀ x ∈ g, x.length ≤ 1048576 ∧ ∀ w ∈ x, 0 ≤ w ∧ w < (g.length : Int)
theorem GG.arrows {g : List (List Int)} (h : GG g) : Arrows g := by
  intro x hx
  have h1 := h.2.1 x hx
  have h2 := row_short h1
  have h3 := h.1
  refine ⟨by omega, fun w hw => ?_⟩
  obtain ⟨i, hi, rfl⟩ := List.getElem_of_mem hw
  have := (h1 i hi).1
  rw [getD_eq hi] at this
  omega
/-- The points that have a distance. -/
def reached : Nat → List Int → List Int
  | _, [] => []
  | j, x :: t => if 0 ≤ x then (j : Int) :: reached (j + 1) t else reached (j + 1) t
theorem reached_length : ∀ (l : List Int) (j : Nat), (reached j l).length ≤ l.length
  | [], _ => by simp [reached]
  | x :: t, j => by
    have := reached_length t (j + 1)
    unfold reached; split <;> simp <;> omega
/-- Each point of a distance above 0 is led to by one that is one nearer. -/
def Par (g : List (List Int)) (st : List Int) : Prop := ∀ v : Nat, 0 < st.getD v 0 → ∃ u : Nat, u < g.length ∧ (v : Int) ∈ g.getD u [] ∧ st.getD u 0 = st.getD v 0 - 1
theorem Par.of_le {g : List (List Int)} {st : List Int} (h : ∀ x ∈ st, x ≤ 0) : Par g st := fun v hv => by
  rcases Nat.lt_or_ge v st.length with h1 | h1
  · have := h _ (getD_mem h1 0); omega
  · rw [List.getD_eq_getElem?_getD, List.getElem?_eq_none h1] at hv; simp at hv
theorem Par.set {g : List (List Int)} {st : List Int} (h : Par g st) {v w : Nat} (hl : st.length = g.length) (hv : v < g.length) (hw : (w : Int) ∈ g.getD v []) (hn : st.getD w 0 < 0) (h0 : 0 ≤ st.getD v 0) : Par g (st.set w (st.getD v 0 + 1)) := fun x hx => by
  have hvw : v ≠ w := fun e => by subst e; omega
  rw [getD_set] at hx
  by_cases hxw : w = x ∧ x < st.length
  · obtain ⟨rfl, h2⟩ := hxw
    refine ⟨v, hv, hw, ?_⟩
    rw [getD_set, if_neg (fun h3 => hvw h3.1.symm), getD_set, if_pos ⟨rfl, h2⟩]; omega
  · rw [if_neg hxw] at hx
    obtain ⟨u, h1, h2, h3⟩ := h x hx
    refine ⟨u, h1, h2, ?_⟩
    have huw : w ≠ u := fun e => by subst e; omega
    rw [getD_set, if_neg (fun h4 => huw h4.1), getD_set, if_neg hxw]; exact h3
theorem rising_in {fr : List Int} {n : Nat} (hn : Rising fr 0 ((n : Int) - 1)) : ∀ v ∈ fr, 0 ≤ v ∧ v < (n : Int) := fun v hv => by
  obtain ⟨i, hi, rfl⟩ := List.getElem_of_mem hv
  have h1 := (hn i hi).1
  rw [getD_eq hi] at h1
  omega

/-! ### arrows turned -/
def putArcs (k : Int) : List Int → List (List Int) → List (List Int)
  | [], y => y
  | w :: t, y => putArcs k t (y.set w.toNat (y.getD w.toNat [] ++ [k]))
def turnFrom : Nat → List (List Int) → List (List Int) → List (List Int)
  | _, [], y => y
  | j, x :: t, y => turnFrom (j + 1) t (putArcs (j : Int) x y)
def turnedOf (l : List (List Int)) : List (List Int) := turnFrom 0 l (List.replicate l.length [])
theorem putArcs_length (k : Int) : ∀ (x : List Int) (y : List (List Int)), (putArcs k x y).length = y.length
  | [], _ => rfl
  | w :: t, y => by rw [putArcs, putArcs_length k t]; simp
theorem turnFrom_length : ∀ (l : List (List Int)) (j : Nat) (y : List (List Int)), (turnFrom j l y).length = y.length
  | [], _, _ => rfl
  | x :: t, j, y => by rw [turnFrom, turnFrom_length t, putArcs_length]
theorem turnedOf_length (l : List (List Int)) : (turnedOf l).length = l.length := by rw [turnedOf, turnFrom_length]; simp
theorem getD_row {y : List (List Int)} {c : Nat} (h : ∀ z ∈ y, z.length ≤ c) (i : Nat) : (y.getD i []).length ≤ c := by
  rcases Nat.lt_or_ge i y.length with hi | hi
  · rw [getD_eq hi]; exact h _ (List.getElem_mem hi)
  · rw [List.getD_eq_getElem?_getD, List.getElem?_eq_none hi]; simp
theorem put_row {y : List (List Int)} {c : Nat} (h : ∀ z ∈ y, z.length ≤ c) (i : Nat) (k : Int) : ∀ z ∈ y.set i (y.getD i [] ++ [k]), z.length ≤ c + 1 := fun z hz => by
  rcases List.mem_or_eq_of_mem_set hz with hz | rfl
  · have := h z hz; omega
  · have := getD_row h i; simp only [List.length_append, List.length_singleton]; omega
theorem putArcs_rows (k : Int) : ∀ (x : List Int) (y : List (List Int)) (c : Nat), (∀ z ∈ y, z.length ≤ c) → ∀ z ∈ putArcs k x y, z.length ≤ c + x.length
  | [], y, c, h => by simpa [putArcs] using h
  | w :: t, y, c, h => fun z hz => by
    have := putArcs_rows k t _ (c + 1) (put_row h w.toNat k) z hz
    simp only [List.length_cons]; omega
theorem turnFrom_rows : ∀ (l : List (List Int)) (j : Nat) (y : List (List Int)) (c : Nat), (∀ z ∈ y, z.length ≤ c) → ∀ z ∈ turnFrom j l y, z.length ≤ c + tot l
  | [], j, y, c, h => by simpa [turnFrom, tot] using h
  | x :: t, j, y, c, h => fun z hz => by
    have := turnFrom_rows t (j + 1) _ (c + x.length) (putArcs_rows (j : Int) x y c h) z hz
    simp only [tot]; omega
theorem turnedOf_rows (l : List (List Int)) : ∀ z ∈ turnedOf l, z.length ≤ tot l := fun z hz => by
  have := turnFrom_rows l 0 (List.replicate l.length []) 0 (fun z hz => by rw [List.eq_of_mem_replicate hz]; simp) z hz
  omega
theorem tot_arcs : ∀ l : List (List Int), tot l = arcs l
  | [] => by simp [tot, arcs]
  | x :: t => by rw [tot, tot_arcs t, arcs_cons]

theorem l11Turn_l1 (l row : List (List Int)) (n j : Nat) (x : List Int) (hn : n ≤ 1048576) (hxl : x.length ≤ 1048576) (hx : ∀ w ∈ x, 0 ≤ w ∧ w < (n : Int)) (c : Nat) (hc : c ≤ 1099511627776) (hj : j < 1048576) (r : List (List Int)) (d : Nat) : ∀ (i : Nat) (y : List (List Int)), i + d = x.length → y.length = n → (∀ z ∈ y, z.length ≤ c + i) →
    Ev (fun k => spec_l11Turn.l0 k (putArcs (j : Int) (x.drop i) y) l (n : Int) ((j + 1 : Nat) : Int)) r → Ev (fun k => spec_l11Turn.l1 k y (j : Int) l (n : Int) (j : Int) x (x.length : Int) (i : Int)) r := by
  induction d with
  | zero =>
    intro i y hi hy hz h
    rw [List.drop_of_length_le (by omega), putArcs] at h
    exact Ev.step (fun k => by simp only [spec_l11Turn.l1]; rw [if_neg (by omega), wsucc (by omega)]) h
  | succ d ih =>
    intro i y hi hy hz h
    rw [drop_cons (by omega) 0, putArcs] at h
    obtain ⟨h0, h1⟩ := hx _ (getD_mem (show i < x.length by omega) 0)
    have er : rd_L1 y (x.getD i 0) = y.getD (x.getD i 0).toNat [] := by simp [rd_L1]
    have hl := getD_row hz (x.getD i 0).toNat
    refine Ev.step (fun k => by simp only [spec_l11Turn.l1]; rw [if_pos (by omega), if_pos (by omega), if_pos (by omega), rd_nat, if_pos h0, if_pos (by omega), er, if_pos (by omega), wsucc (by omega)]) ?_
    exact ih (i + 1) _ (by omega) (by simpa using hy) (fun z hz2 => by have := put_row hz _ _ z hz2; omega) h
theorem l11Turn_l0 (l : List (List Int)) (hn : l.length ≤ 1048576) (ha : Arrows l) : ∀ (t : List (List Int)) (j : Nat) (y : List (List Int)) (c : Nat), j + t.length = l.length → l.drop j = t → y.length = l.length → (∀ z ∈ y, z.length ≤ c) → c + tot t ≤ 1099511627776 →
    Ev (fun k => spec_l11Turn.l0 k y l (l.length : Int) (j : Int)) (turnFrom j t y)
  | [], j, y, c, hj, ht, hy, hz, hc => by
    simp only [List.length_nil] at hj
    exact Ev.step (f := fun _ => some y) (fun k => by simp only [spec_l11Turn.l0]; rw [if_neg (by omega)]) (Ev.now _)
  | x :: t, j, y, c, hj, ht, hy, hz, hc => by
    simp only [List.length_cons] at hj
    simp only [tot] at hc
    rw [drop_cons (by omega) []] at ht
    obtain ⟨e1, e2⟩ := List.cons.inj ht
    have hm : x ∈ l := e1 ▸ getD_mem (by omega) []
    obtain ⟨hxl, hx⟩ := ha x hm
    have er : rd_L1 l (j : Int) = x := by rw [← e1]; simp [rd_L1]
    refine Ev.step (fun k => by simp only [spec_l11Turn.l0]; rw [if_pos (by omega), if_pos (by omega), if_pos (by omega), er]) ?_
    refine l11Turn_l1 l [] l.length j x (by omega) hxl hx c (by omega) (by omega) _ x.length 0 y (by omega) hy (fun z h => by have := hz z h; omega) ?_
    exact l11Turn_l0 l hn ha t (j + 1) _ (c + x.length) (by omega) e2 (by rw [putArcs_length]; exact hy) (putArcs_rows _ x y c hz) (by omega)
theorem l11Turn_ev (l : List (List Int)) (hn : l.length ≤ 1048576) (ha : Arrows l) (ht : tot l ≤ 1099511627776) : Ev (fun k => spec_l11Turn.f k l) (turnedOf l) := by
  refine ev_pos (by omega) (ev_pos (by omega) ?_)
  have e : ((l.length : Int)).toNat = l.length := by omega
  rw [e]
  exact l11Turn_l0 l hn ha l 0 _ 0 (by omega) (by simp) (by simp) (fun z hz => by rw [List.eq_of_mem_replicate hz]; simp) (by omega)

theorem l1Own_eq (l : List Int) (h : l.length ≤ 1048576) : spec_l1Own.f l = some l := by
  simp only [spec_l1Own.f, Option.bind_some, List.nil_append, List.length_nil]
  rw [if_pos (by omega)]

theorem relax_both (g : List (List Int)) (hg : g.length ≤ 1048576) (v : Int) (ws : List Int) (hw : ∀ w ∈ ws, 0 ≤ w ∧ w < (g.length : Int)) (hwl : ws.length ≤ 1048576) (N : Nat) (hN : N ≤ 4194304) (c : Int) (hc : c ≤ 4194304) (hv0 : 0 ≤ v) (hv1 : v < (g.length : Int)) (hwv : ws = g.getD v.toNat []) {Rz : List Int → Prop}
    (M : ∀ st q, BI g.length N (c + 1) st q → Par g st → ∃ r', Rz r' ∧ Ev (fun k => impl_stepsFrom.l1 k g st q) r' ∧ Ev (fun k => spec_l11Far.l2 k g st q) r') (d : Nat) : ∀ (j : Nat) (st q : List Int), j + d = ws.length → BI g.length N (c + 1) st q → Par g st → 0 ≤ st.getD v.toNat 0 → st.getD v.toNat 0 ≤ c →
    ∃ r', Rz r' ∧ Ev (fun k => impl_stepsFrom.l2 k g st (v :: q) ws (ws.length : Int) (j : Int)) r' ∧ Ev (fun k => spec_l11Far.l3 k g st q v ws (ws.length : Int) (j : Int)) r' := by
  induction d with
  | zero =>
    intro j st q hj hb hp h0 h1
    obtain ⟨r', hr, e1, e2⟩ := M st q hb hp
    exact ⟨r', hr, Ev.step (fun k => by simp only [impl_stepsFrom.l2]; rw [if_neg (by omega), if_pos (by simp only [List.length_cons]; omega)]; rfl) e1, Ev.step (fun k => by simp only [spec_l11Far.l3]; rw [if_neg (by omega)]) e2⟩
  | succ d ih =>
    intro j st q hj hb hp h0 h1
    have hl := hb.len
    have hm := hw _ (getD_mem (l := ws) (j := j) (by omega) 0)
    have hs := hb.sum
    obtain ⟨u, hu⟩ := Int.eq_ofNat_of_zero_le hm.1
    have er : rd st (ws.getD j 0) = st.getD (ws.getD j 0).toNat 0 := by rw [hu, rd_nat]; rfl
    have ev : rd st v = st.getD v.toNat 0 := by obtain ⟨u', rfl⟩ := Int.eq_ofNat_of_zero_le hv0; rw [rd_nat]; rfl
    have eh : rd (v :: q) 0 = v := by simp [rd]
    by_cases hn : st.getD (ws.getD j 0).toNat 0 < 0
    · have hb2 := hb.set (d := st.getD v.toNat 0) hm.1 hm.2 hn (by omega) h0
      have hne : ¬ ((ws.getD j 0).toNat = v.toNat ∧ v.toNat < st.length) := fun h => by rw [h.1] at hn; omega
      obtain ⟨r', hr, e1, e2⟩ := ih (j + 1) _ _ (by omega) hb2 (hp.set hl (by omega) (by rw [← hwv, show (((ws.getD j 0).toNat : Nat) : Int) = ws.getD j 0 by omega]; exact getD_mem (by omega) 0) hn h0) (by rw [getD_set, if_neg hne]; exact h0) (by rw [getD_set, if_neg hne]; exact h1)
      have ew : wrap64 (st.getD v.toNat 0 + 1) = st.getD v.toNat 0 + 1 := wid (by omega) (by omega)
      refine ⟨r', hr, ?_, ?_⟩
      · exact Ev.step (fun k => by simp only [impl_stepsFrom.l2]; rw [if_pos (by omega), if_pos (by omega), if_pos (by omega), rd_nat, if_pos hm.1, if_pos (by omega), er, if_pos hn, if_pos (by simp only [List.length_cons]; omega), eh, if_pos hv0, if_pos (by omega), if_pos (by simp only [List.length_cons]; omega), ev, ew, wsucc (by omega)]; rfl) e1
      · exact Ev.step (fun k => by simp only [spec_l11Far.l3]; rw [if_pos (by omega), if_pos (by omega), if_pos (by omega), rd_nat, if_pos hm.1, if_pos (by omega), er, if_pos hn, if_pos hv0, if_pos (by omega), if_pos (by omega), ev, ew, wsucc (by omega)]) e2
    · obtain ⟨r', hr, e1, e2⟩ := ih (j + 1) st q (by omega) hb hp h0 h1
      refine ⟨r', hr, ?_, ?_⟩
      · exact Ev.step (fun k => by simp only [impl_stepsFrom.l2]; rw [if_pos (by omega), if_pos (by omega), if_pos (by omega), rd_nat, if_pos hm.1, if_pos (by omega), er, if_neg hn, wsucc (by omega)]) e1
      · exact Ev.step (fun k => by simp only [spec_l11Far.l3]; rw [if_pos (by omega), if_pos (by omega), if_pos (by omega), rd_nat, if_pos hm.1, if_pos (by omega), er, if_neg hn, wsucc (by omega)]) e2
theorem bfs_both (g : List (List Int)) (hg : g.length ≤ 1048576) (ha : Arrows g) : ∀ (N : Nat) (st q : List Int) (c : Int), 0 ≤ c → c + N ≤ 4194304 → BI g.length N c st q → Par g st →
    ∃ r, (r.length = g.length ∧ Par g r ∧ ∀ x ∈ r, x ≤ c + N) ∧ Ev (fun k => impl_stepsFrom.l1 k g st q) r ∧ Ev (fun k => spec_l11Far.l2 k g st q) r
  | N, st, [], c, _, _, hb, hp => ⟨st, ⟨hb.len, hp, fun x hx => by have := hb.hi x hx; omega⟩, Ev.step (f := fun _ => some st) (fun k => by simp only [impl_stepsFrom.l1]; rw [if_neg (by simp)]) (Ev.now _), Ev.step (f := fun _ => some st) (fun k => by simp only [spec_l11Far.l2]; rw [if_neg (by simp)]) (Ev.now _)⟩
  | 0, st, v :: q, c, _, _, hb, _ => by have := hb.sum; simp only [List.length_cons] at this; omega
  | N + 1, st, v :: q, c, h0, hc, hb, hp => by
    obtain ⟨h1, h2, h3⟩ := hb.ok v (by simp)
    have hl := hb.len
    obtain ⟨u, hu⟩ := Int.eq_ofNat_of_zero_le h1
    have hug : u < g.length := by omega
    have eh : rd (v :: q) 0 = v := by simp [rd]
    have er : rd_L1 g v = g.getD u [] := by rw [hu]; simp [rd_L1]
    obtain ⟨hwl, hws⟩ := ha _ (getD_mem hug [])
    have hlv : st.getD v.toNat 0 ≤ c := hb.hi _ (getD_mem (by omega) 0)
    obtain ⟨r, hr, e1, e2⟩ := relax_both g hg v (g.getD u []) hws hwl N (by omega) c (by omega) h1 h2 (by rw [hu]; rfl) (Rz := fun r => r.length = g.length ∧ Par g r ∧ ∀ x ∈ r, x ≤ c + (N + 1 : Nat)) (fun st' q' hb' hp' => by
      obtain ⟨r, ⟨z1, z2, z3⟩, z4⟩ := bfs_both g hg ha N st' q' (c + 1) (by omega) (by omega) hb' hp'
      exact ⟨r, ⟨z1, z2, fun x hx => by have := z3 x hx; omega⟩, z4⟩) (g.getD u []).length 0 st q (by omega) (hb.pop.up (by omega)) hp h3 hlv
    refine ⟨r, hr, ?_, ?_⟩
    · exact Ev.step (fun k => by simp only [impl_stepsFrom.l1]; rw [if_pos (by simp only [List.length_cons]; omega), if_pos (by simp only [List.length_cons]; omega), eh, if_pos h1, if_pos (by omega), er]; rfl) e1
    · exact Ev.step (fun k => by simp only [spec_l11Far.l2]; rw [if_pos (by simp only [List.length_cons]; omega), if_pos (by simp only [List.length_cons]; omega), if_pos (by simp only [List.length_cons]; omega), eh, if_pos h1, if_pos (by omega), er]; rfl) e2

theorem isIncreasing_l0 (l : List Int) (b : Int) (hl : l.length ≤ 9223372036854775807) (d : Nat) : ∀ (j : Nat), j + d = l.length →
    Tells (fun k => impl_isIncreasing.l0 k l b l (l.length : Int) (j : Int)) (∀ i, j ≤ i → i < l.length → RiseAt l 0 (b - 1) i) := by
  induction d with
  | zero => exact fun j hd => tells_step (f := fun _ => some true) (fun k => by simp only [impl_isIncreasing.l0]; rw [if_neg (by omega)]) (tells_yes (fun i h1 h2 => by omega))
  | succ d ih =>
    intro j hd
    have hj : j < l.length := by omega
    refine tells_step (fun k => by simp only [impl_isIncreasing.l0]; rw [if_pos (by omega), if_pos (by omega), if_pos (by omega), wsucc (by omega), rd_nat]) ?_
    refine tells_iff ?_ (from_here hj).symm
    refine tells_if (fun h1 => tells_no (fun h => by have := h.1.1.1; omega)) (fun h1 => ?_)
    refine tells_if (fun h2 => tells_no (fun h => by have := h.1.1.2; omega)) (fun h2 => ?_)
    by_cases h0 : 0 < j
    · refine tells_pos (by omega) ?_
      rw [wpred h0 (by omega), rd_nat]
      refine tells_pos (by omega) (tells_pos (by omega) (tells_if (fun hc => ?_) (fun hc => ?_)))
      · exact tells_no (fun h => by have := h.1.2 h0; omega)
      · exact tells_iff (ih (j + 1) (by omega)) ⟨fun h => ⟨⟨⟨by omega, by omega⟩, fun _ => by omega⟩, h⟩, fun h => h.2⟩
    · refine tells_neg (by omega) ?_
      exact tells_iff (ih (j + 1) (by omega)) ⟨fun h => ⟨⟨⟨by omega, by omega⟩, fun h1 => absurd h1 h0⟩, h⟩, fun h => h.2⟩
theorem isIncreasing_tells (l : List Int) (b : Int) (hl : l.length ≤ 9223372036854775807) : Tells (fun k => impl_isIncreasing.f k l b) (Rising l 0 (b - 1)) :=
  (tells_iff (isIncreasing_l0 l b hl l.length 0 (by omega)) ⟨fun h i hi => h i (Nat.zero_le _) hi, fun h i _ hi => h i hi⟩)

theorem impl_GoodGraph_l0 (l : List (List Int)) (hn : l.length ≤ 1200) (hx : ∀ x ∈ l, x.length ≤ 9223372036854775807) (d : Nat) : ∀ (j : Nat) (a : Nat), a ≤ 1200 * j → j + d = l.length →
    Tells (fun k => impl_GoodGraph.l0 k (a : Int) l (l.length : Int) (j : Int) l) ((∀ x ∈ l.drop j, Rising x 0 ((l.length : Int) - 1)) ∧ a + arcs (l.drop j) ≤ 20000) := by
  induction d with
  | zero =>
    intro j a ha hd
    refine tells_step (f := fun _ => some (decide ((a : Int) ≤ 20000))) (fun k => by simp only [impl_GoodGraph.l0]; rw [if_neg (by omega)]) (tells_some ?_)
    rw [List.drop_of_length_le (by omega)]
    simp [arcs] <;> omega
  | succ d ih =>
    intro j a ha hd
    have hj : j < l.length := by omega
    have er : rd_L1 l (j : Int) = l.getD j [] := by simp [rd_L1]
    have hm := hx _ (getD_mem hj [])
    refine tells_step (fun k => by simp only [impl_GoodGraph.l0]; rw [if_pos (by omega), if_pos (by omega), if_pos (by omega), er, wsucc (by omega)]) ?_
    rw [drop_cons hj [], arcs_cons]
    generalize l.getD j [] = x at hm ⊢
    refine tells_ask (isIncreasing_tells x (l.length : Int) hm) (fun hr => tells_pos rfl ?_) (fun hr => tells_neg (by simp) (tells_no (fun h2 => hr (h2.1 x (by simp)))))
    have hs := row_short hr
    rw [wid (x := (a : Int) + (x.length : Int)) (by omega) (by omega)]
    have e : (a : Int) + (x.length : Int) = ((a + x.length : Nat) : Int) := by omega
    rw [e]
    refine tells_iff (ih (j + 1) (a + x.length) (by omega) (by omega)) ⟨fun ⟨h1, h2⟩ => ⟨fun y hy => ?_, by omega⟩, fun ⟨h1, h2⟩ => ⟨fun y hy => h1 y (List.mem_cons_of_mem _ hy), by omega⟩⟩
    rcases List.mem_cons.1 hy with rfl | hy
    · exact hr
    · exact h1 y hy
theorem impl_GoodGraph_tells (l : List (List Int)) (hx : ∀ x ∈ l, x.length ≤ 9223372036854775807) : Tells (fun k => impl_GoodGraph.f k l) (GG l) := by
  refine tells_if (fun h => tells_no (fun h2 => by have := h2.1; omega)) (fun h => ?_)
  exact tells_iff (impl_GoodGraph_l0 l (by omega) hx l.length 0 0 (by omega) (by omega)) ⟨fun ⟨h1, h2⟩ => ⟨by omega, by simpa using h1, by simpa using h2⟩, fun ⟨_, h1, h2⟩ => ⟨by simpa using h1, by simpa using h2⟩⟩

theorem isGraphFrom_tells (g : List (List Int)) (fr : List Int) (hx : ∀ x ∈ g, x.length ≤ 9223372036854775807) (hf : fr.length ≤ 9223372036854775807) : Tells (fun k => impl_isGraphFrom.f k g fr) (GG g ∧ Rising fr 0 ((g.length : Int) - 1)) := by
  refine tells_ask (impl_GoodGraph_tells g hx) (fun h => tells_pos rfl ?_) (fun h => tells_neg (by simp) (tells_no (fun h2 => h h2.1)))
  obtain ⟨b, hb, e⟩ := isIncreasing_tells fr (g.length : Int) hf
  exact ⟨b, Ev.bind hb (Ev.now _), e.trans ⟨fun h2 => ⟨h, h2⟩, fun h2 => h2.2⟩⟩

theorem turned_same : ∀ k, (∀ a b c d, impl_turned.l0 k a b c d = spec_l11Turn.l0 k a b c d) ∧ (∀ a b c d e f g h, impl_turned.l1 k a b c d e f g h = spec_l11Turn.l1 k a b c d e f g h)
  | 0 => ⟨fun _ _ _ _ => by simp only [impl_turned.l0, spec_l11Turn.l0], fun _ _ _ _ _ _ _ _ => by simp only [impl_turned.l1, spec_l11Turn.l1]⟩
  | k + 1 => by
    obtain ⟨h0, h1⟩ := turned_same k
    exact ⟨fun _ _ _ _ => by simp only [impl_turned.l0, spec_l11Turn.l0, h1], fun _ _ _ _ _ _ _ _ => by simp only [impl_turned.l1, spec_l11Turn.l1, h0, h1]⟩
theorem turned_ev (l : List (List Int)) (hn : l.length ≤ 1048576) (ha : Arrows l) (ht : tot l ≤ 1099511627776) : Ev (fun k => impl_turned.f k l) (turnedOf l) := by
  refine Ev.congr (fun k => ?_) (l11Turn_ev l hn ha ht)
  simp only [impl_turned.f, spec_l11Turn.f, (turned_same k).1]

theorem cloneInt_eq (l : List Int) (h : l.length < 17592186044416) : slices_Clone_int_int.f l = some l := by
  rw [slices_Clone_int_int.f, if_pos h]

theorem repeatNeg_eq (n : Nat) (h : n ≤ 1048576) : slices_Repeat_int_int.f [(-1)] (n : Int) = some (List.replicate n (-1)) := by
  rw [slices_Repeat_int_int.f, if_pos ⟨rfl, by omega, by omega⟩]; rfl
theorem far_init (g : List (List Int)) (fr : List Int) (hg : g.length ≤ 1048576) (ha : Arrows g) (hfr : ∀ v ∈ fr, 0 ≤ v ∧ v < (g.length : Int)) (hfl : fr.length ≤ 1048576) (d : Nat) : ∀ (j : Nat) (st : List Int), j + d = fr.length → st.length = g.length → (∀ x ∈ st, x ≤ 0) → (∀ x ∈ st, -1 ≤ x) → (∀ i, i < j → st.getD (fr.getD i 0).toNat 0 = 0) →
    ∃ r, (r.length = g.length ∧ Par g r ∧ ∀ x ∈ r, x ≤ ((g.length + fr.length : Nat) : Int)) ∧ Ev (fun k => impl_stepsFrom.l0 k g st fr fr (fr.length : Int) (j : Int)) r ∧ Ev (fun k => spec_l11Far.l1 k g fr st fr (fr.length : Int) (j : Int)) r := by
  induction d with
  | zero =>
    intro j st hj hl h1 h2 h3
    have hb : BI g.length (g.length + fr.length) 0 st fr := ⟨hl, h1, h2, fun v hv => by
      obtain ⟨i, hi, rfl⟩ := List.getElem_of_mem hv
      have h4 := h3 i (by omega)
      rw [getD_eq hi] at h4
      exact ⟨(hfr _ hv).1, (hfr _ hv).2, by omega⟩, by have := List.countP_le_length (p := fun x : Int => decide (x < 0)) (l := st); unfold neg; omega⟩
    obtain ⟨r, hr, e1, e2⟩ := bfs_both g hg ha (g.length + fr.length) st fr 0 (by omega) (by omega) hb (Par.of_le h1)
    refine ⟨r, ⟨hr.1, hr.2.1, fun x hx => by have := hr.2.2 x hx; omega⟩, Ev.step (fun k => by simp only [impl_stepsFrom.l0]; rw [if_neg (by omega)]) e1, Ev.step (fun k => by simp only [spec_l11Far.l1]; rw [if_neg (by omega), l1Own_eq fr hfl, Option.bind_some]) e2⟩
  | succ d ih =>
    intro j st hj hl h1 h2 h3
    have hm := hfr _ (getD_mem (l := fr) (j := j) (by omega) 0)
    obtain ⟨r, hr, e1, e2⟩ := ih (j + 1) (st.set (fr.getD j 0).toNat 0) (by omega) (by simpa using hl)
      (fun x hx => by
        rcases List.mem_or_eq_of_mem_set hx with hx | rfl
        · exact h1 x hx
        · omega)
      (fun x hx => by
        rcases List.mem_or_eq_of_mem_set hx with hx | rfl
        · exact h2 x hx
        · omega)
      (fun i hi => by
        rw [getD_set]
        split
        · rfl
        · rename_i h
          rcases Nat.lt_or_ge i j with h4 | h4
          · exact h3 i h4
          · obtain rfl : i = j := by omega
            exact absurd ⟨rfl, by omega⟩ h)
    refine ⟨r, hr, ?_, ?_⟩
    · exact Ev.step (fun k => by simp only [impl_stepsFrom.l0]; rw [if_pos (by omega), if_pos (by omega), if_pos (by omega), rd_nat, if_pos hm.1, if_pos (by omega), wsucc (by omega)]) e1
    · exact Ev.step (fun k => by simp only [spec_l11Far.l1]; rw [if_pos (by omega), if_pos (by omega), if_pos (by omega), rd_nat, if_pos hm.1, if_pos (by omega), wsucc (by omega)]) e2
theorem far_neg (g : List (List Int)) (fr : List Int) (hg : g.length ≤ 1048576) {r : List Int} (h : Ev (fun k => spec_l11Far.l1 k g fr (List.replicate g.length (-1)) fr (fr.length : Int) ((0 : Nat) : Int)) r) (d : Nat) : ∀ (j : Nat) (st : List Int), j + d = g.length → st = List.replicate j (-1) ++ List.replicate d 0 →
    Ev (fun k => spec_l11Far.l0 k g fr st (g.length : Int) (j : Int)) r := by
  induction d with
  | zero =>
    intro j st hj hst
    have e : st = List.replicate g.length (-1) := by rw [hst, show j = g.length by omega]; simp
    subst e
    exact Ev.step (fun k => by simp only [spec_l11Far.l0]; rw [if_neg (by omega)]; rfl) h
  | succ d ih =>
    intro j st hj hst
    have hl : st.length = g.length := by rw [hst]; simp; omega
    refine Ev.step (fun k => by simp only [spec_l11Far.l0]; rw [if_pos (by omega), if_pos (by omega), if_pos (by omega), wsucc (by omega), Int.toNat_natCast]) (ih (j + 1) _ (by omega) ?_)
    rw [hst, List.replicate_succ, List.set_append_right _ _ (by simp), List.length_replicate, Nat.sub_self, List.set_cons_zero, List.replicate_succ', List.append_assoc]; rfl
theorem steps_par (g : List (List Int)) (fr : List Int) (hg : g.length ≤ 1048576) (ha : Arrows g) (hfr : ∀ v ∈ fr, 0 ≤ v ∧ v < (g.length : Int)) (hfl : fr.length ≤ 1048576) :
    ∃ r, (r.length = g.length ∧ Par g r ∧ ∀ x ∈ r, x ≤ ((g.length + fr.length : Nat) : Int)) ∧ Ev (fun k => impl_stepsFrom.f k g fr) r ∧ Ev (fun k => spec_l11Far.f k g fr) r := by
  obtain ⟨r, hr, e1, e2⟩ := far_init g fr hg ha hfr hfl fr.length 0 (List.replicate g.length (-1)) (by omega) (by simp) (fun x hx => by rw [List.eq_of_mem_replicate hx]; omega) (fun x hx => by rw [List.eq_of_mem_replicate hx]; omega) (fun i hi => by omega)
  refine ⟨r, hr, Ev.bind (ev_const (repeatNeg_eq g.length hg)) (Ev.bind (ev_const (cloneInt_eq fr (by omega))) e1), ?_⟩
  have e3 := far_neg g fr hg e2 g.length 0 (List.replicate g.length 0) (by omega) (by simp)
  refine ev_pos (by omega) (ev_pos (by simp only [Int.toNat_natCast]; omega) (Ev.bind (Ev.now _) ?_))
  simp only [Int.toNat_natCast, List.length_replicate]
  exact e3
theorem steps_both (g : List (List Int)) (fr : List Int) (hg : g.length ≤ 1048576) (ha : Arrows g) (hfr : ∀ v ∈ fr, 0 ≤ v ∧ v < (g.length : Int)) (hfl : fr.length ≤ 1048576) :
    ∃ r, r.length = g.length ∧ Ev (fun k => impl_stepsFrom.f k g fr) r ∧ Ev (fun k => spec_l11Far.f k g fr) r := by
  obtain ⟨r, hr, e⟩ := steps_par g fr hg ha hfr hfl
  exact ⟨r, hr.1, e⟩

/-! ### what is turned leads back; ways of fewest arrows -/
theorem putArcs_mem (k : Int) : ∀ (x : List Int) (y : List (List Int)) (u : Nat) (v : Int), v ∈ (putArcs k x y).getD u [] → v ∈ y.getD u [] ∨ (v = k ∧ ∃ w ∈ x, w.toNat = u)
  | [], y, u, v, h => .inl h
  | w :: t, y, u, v, h => by
    rw [putArcs] at h
    rcases putArcs_mem k t _ u v h with h | ⟨h1, w2, h2, h3⟩
    · by_cases e : w.toNat = u
      · rw [List.getD_eq_getElem?_getD, List.getElem?_set] at h
        rw [if_pos e] at h
        split at h
        · simp only [Option.getD_some, List.mem_append, List.mem_singleton] at h
          rcases h with h | h
          · exact .inl (by rw [← e]; exact h)
          · exact .inr ⟨h, w, by simp, e⟩
        · simp at h
      · rw [List.getD_eq_getElem?_getD, List.getElem?_set, if_neg e, ← List.getD_eq_getElem?_getD] at h
        exact .inl h
    · exact .inr ⟨h1, w2, by simp [h2], h3⟩
theorem turnFrom_mem : ∀ (t : List (List Int)) (j : Nat) (y : List (List Int)) (u : Nat) (v : Int), v ∈ (turnFrom j t y).getD u [] → v ∈ y.getD u [] ∨ ∃ i, i < t.length ∧ v = ((j + i : Nat) : Int) ∧ ∃ w ∈ t.getD i [], w.toNat = u
  | [], j, y, u, v, h => .inl h
  | x :: t, j, y, u, v, h => by
    rw [turnFrom] at h
    rcases turnFrom_mem t (j + 1) _ u v h with h | ⟨i, h1, h2, w, h3, h4⟩
    · rcases putArcs_mem _ x y u v h with h | ⟨h1, w, h2, h3⟩
      · exact .inl h
      · exact .inr ⟨0, by simp, by simpa using h1, w, by simpa using h2, h3⟩
    · exact .inr ⟨i + 1, by simp; omega, by rw [h2]; congr 1; omega, w, by simpa using h3, h4⟩
/-- An arrow of the turned graph, back in the graph. -/
theorem turned_mem {g : List (List Int)} (ha : Arrows g) {u : Nat} {v : Int} (h : v ∈ (turnedOf g).getD u []) : ∃ i : Nat, i < g.length ∧ v = (i : Int) ∧ (u : Int) ∈ g.getD i [] := by
  rcases turnFrom_mem g 0 _ u v h with h | ⟨i, h1, h2, w, h3, h4⟩
  · rw [List.getD_eq_getElem?_getD, List.getElem?_replicate] at h
    split at h <;> simp at h
  · refine ⟨i, h1, by simpa using h2, ?_⟩
    have hw := (ha _ (getD_mem h1 [])).2 w h3
    rw [show (u : Int) = w by omega]
    exact h3
theorem turned_arrows {g : List (List Int)} (ha : Arrows g) (ht : tot g ≤ 1048576) : Arrows (turnedOf g) := fun x hx => by
  refine ⟨by have := turnedOf_rows g x hx; omega, fun w hw => ?_⟩
  obtain ⟨u, hu, rfl⟩ := List.getElem_of_mem hx
  rw [← getD_eq hu []] at hw
  obtain ⟨i, h1, rfl, _⟩ := turned_mem ha hw
  rw [turnedOf_length]; omega
/-- Where there is a distance above 0, an arrow leads one nearer. -/
theorem nearer {g : List (List Int)} (ha : Arrows g) {st : List Int} (hp : Par (turnedOf g) st) {v : Nat} (hv : 0 < st.getD v 0) : ∃ u : Nat, (u : Int) ∈ g.getD v [] ∧ st.getD u 0 = st.getD v 0 - 1 := by
  obtain ⟨u, h1, h2, h3⟩ := hp v hv
  obtain ⟨i, _, h4, h5⟩ := turned_mem ha h2
  obtain rfl : v = i := by omega
  exact ⟨u, h5, h3⟩
/-- The first of a list that is so near. -/
theorem first_near (st : List Int) (m : Int) : ∀ (ws : List Int), (∃ x ∈ ws, st.getD x.toNat 0 = m) → ∃ i, i < ws.length ∧ st.getD (ws.getD i 0).toNat 0 = m ∧ ∀ j, j < i → st.getD (ws.getD j 0).toNat 0 ≠ m
  | [], h => by obtain ⟨x, hx, _⟩ := h; simp at hx
  | w :: t, h => by
    by_cases e : st.getD w.toNat 0 = m
    · exact ⟨0, by simp, e, fun j hj => by omega⟩
    · obtain ⟨i, h1, h2, h3⟩ := first_near st m t (by
        obtain ⟨x, hx, h4⟩ := h
        rcases List.mem_cons.1 hx with rfl | hx
        · exact absurd h4 e
        · exact ⟨x, hx, h4⟩)
      refine ⟨i + 1, by simp; omega, h2, fun j hj => ?_⟩
      cases j with
      | zero => exact e
      | succ j => exact h3 j (by omega)

theorem rd_toNat {l : List Int} {x : Int} (h : 0 ≤ x) : rd l x = l.getD x.toNat 0 := by obtain ⟨u, rfl⟩ := Int.eq_ofNat_of_zero_le h; rw [rd_nat]; rfl
theorem idx_near (st : List Int) (v m : Int) (hv0 : 0 ≤ v) (hv1 : v < (st.length : Int)) (hm : wrap64 (rd st v - 1) = m) : ∀ (ws : List Int) (s : Int) (i : Nat), (∀ w ∈ ws, 0 ≤ w ∧ w < (st.length : Int)) → i < ws.length → st.getD (ws.getD i 0).toNat 0 = m → (∀ j, j < i → st.getD (ws.getD j 0).toNat 0 ≠ m) → idxO (fun x_ => impl_leastWay_1.f x_ st v) ws s = some (s + i)
  | [], s, i, _, hi, _, _ => by simp at hi
  | w :: t, s, i, hw, hi, h1, h2 => by
    have h3 := hw w (by simp)
    have e : impl_leastWay_1.f w st v = some (st.getD w.toNat 0 == m) := by
      simp only [impl_leastWay_1.f]; rw [if_pos h3.1, if_pos h3.2, if_pos hv0, if_pos hv1, hm, rd_toNat h3.1]
    rw [idxO, e, Option.bind_some]
    cases i with
    | zero =>
      have h4 : st.getD w.toNat 0 = m := h1
      rw [if_pos (by rw [h4]; exact beq_self_eq_true m)]; simp
    | succ i =>
      have h4 : st.getD w.toNat 0 ≠ m := h2 0 (by omega)
      rw [if_neg (by simpa using h4), idx_near st v m hv0 hv1 hm t (s + 1) i (fun x hx => hw x (by simp [hx])) (by simpa using hi) h1 (fun j hj => h2 (j + 1) (by omega))]
      congr 1; omega
theorem path_scan (g : List (List Int)) (st : List Int) (v m : Int) (way ws : List Int) (hv0 : 0 ≤ v) (hv1 : v < (st.length : Int)) (hm : wrap64 (rd st v - 1) = m) (hws : ∀ w ∈ ws, 0 ≤ w ∧ w < (st.length : Int)) (hwl : ws.length ≤ 1048576) (hway : way.length ≤ 1048576) (i : Nat) (hi : i < ws.length) (h1 : st.getD (ws.getD i 0).toNat 0 = m) (h2 : ∀ j, j < i → st.getD (ws.getD j 0).toNat 0 ≠ m) {r : List Int × Bool}
    (h : Ev (fun k => spec_l11Path.l1 k g st (ws.getD i 0) (way ++ [ws.getD i 0])) r) (d : Nat) : ∀ (j : Nat), j + d = i → Ev (fun k => spec_l11Path.l2 k g st v way ws (ws.length : Int) (j : Int)) r := by
  induction d with
  | zero =>
    intro j hj
    obtain rfl : j = i := by omega
    have h3 := hws _ (getD_mem hi 0)
    exact Ev.step (fun k => by simp only [spec_l11Path.l2]; rw [if_pos (by omega), if_pos (by omega), if_pos (by omega), rd_nat, if_pos h3.1, if_pos h3.2, if_pos hv0, if_pos hv1, hm, rd_toNat h3.1, if_pos h1, if_pos (by omega)]) h
  | succ d ih =>
    intro j hj
    have h3 := hws _ (getD_mem (l := ws) (j := j) (by omega) 0)
    exact Ev.step (fun k => by simp only [spec_l11Path.l2]; rw [if_pos (by omega), if_pos (by omega), if_pos (by omega), rd_nat, if_pos h3.1, if_pos h3.2, if_pos hv0, if_pos hv1, hm, rd_toNat h3.1, if_neg (h2 j (by omega)), wsucc (by omega)]) (ih (j + 1) (by omega))
theorem path_both (g : List (List Int)) (st : List Int) (hg : g.length ≤ 1048576) (ha : Arrows g) (hl : st.length = g.length) (hp : Par (turnedOf g) st) : ∀ (m : Nat) (v : Int) (way : List Int), m ≤ 4194304 → 0 ≤ v → v < (g.length : Int) → st.getD v.toNat 0 = m → way ≠ [] → way.length + m ≤ 1048576 →
    ∃ r, r ≠ [] ∧ r.length = way.length + m ∧ Ev (fun k => impl_leastWay.l1 k g way st v) r ∧ Ev (fun k => spec_l11Path.l1 k g st v way) (r, true)
  | 0, v, way, _, hv0, hv1, hm, hw, _ => by
    have e := rd_toNat (l := st) hv0
    exact ⟨way, hw, by omega, Ev.step (f := fun _ => some way) (fun k => by simp only [impl_leastWay.l1]; rw [if_pos hv0, if_pos (by omega), e, hm, if_neg (by omega)]) (Ev.now _), Ev.step (f := fun _ => some (way, true)) (fun k => by simp only [spec_l11Path.l1]; rw [if_pos hv0, if_pos (by omega), e, hm, if_neg (by omega)]) (Ev.now _)⟩
  | m + 1, v, way, hmb, hv0, hv1, hm, hw, hwl => by
    have e := rd_toNat (l := st) hv0
    have hvu : v.toNat < g.length := by omega
    obtain ⟨u, hu1, hu2⟩ := nearer ha hp (v := v.toNat) (by omega)
    have er : rd_L1 g v = g.getD v.toNat [] := by obtain ⟨z, rfl⟩ := Int.eq_ofNat_of_zero_le hv0; simp [rd_L1]
    obtain ⟨hxl, hx⟩ := ha _ (getD_mem hvu [])
    generalize g.getD v.toNat [] = ws at hu1 er hxl hx
    obtain ⟨i, hi, h1, h2⟩ := first_near st (m : Int) ws ⟨(u : Int), hu1, by rw [Int.toNat_natCast, hu2, hm]; omega⟩
    have hx2 : ∀ w ∈ ws, 0 ≤ w ∧ w < (st.length : Int) := fun w hw2 => by have := hx w hw2; omega
    have ew : wrap64 (rd st v - 1) = (m : Int) := by rw [e, hm, wid (by omega) (by omega)]; omega
    have hwi := hx2 _ (getD_mem hi 0)
    obtain ⟨r, r1, r2, r3, r4⟩ := path_both g st hg ha hl hp m (ws.getD i 0) (way ++ [ws.getD i 0]) (by omega) hwi.1 (by omega) h1 (by simp) (by simp; omega)
    refine ⟨r, r1, by rw [r2]; simp; omega, ?_, ?_⟩
    · refine Ev.step (fun k => by simp only [impl_leastWay.l1]; rw [if_pos hv0, if_pos (by omega), e, hm, if_pos (by omega), if_pos (by omega), er]) ?_
      refine Ev.bind (ev_const (idx_near st v m hv0 (by omega) ew ws 0 i hx2 hi h1 h2)) ?_
      have e2 : rd ws (0 + (i : Int)) = ws.getD i 0 := by rw [Int.zero_add, rd_nat]
      rw [e2]
      exact ev_pos (by omega) (ev_pos (by omega) (ev_pos (by omega) r3))
    · refine Ev.step (fun k => by simp only [spec_l11Path.l1]; rw [if_pos hv0, if_pos (by omega), e, hm, if_pos (by omega), if_pos (by omega), er]) ?_
      exact path_scan g st v m way ws hv0 (by omega) ew hx2 hxl (by omega) i hi h1 h2 r4 i 0 (by omega)
theorem best_both (g : List (List Int)) (st fr : List Int) (hg : g.length ≤ 1048576) (ha : Arrows g) (hl : st.length = g.length) (hp : Par (turnedOf g) st) (hb : ∀ x ∈ st, x ≤ 524288) (hfr : ∀ v ∈ fr, 0 ≤ v ∧ v < (g.length : Int)) (hfl : fr.length ≤ 1048576) (d : Nat) : ∀ (j : Nat) (b : Int), j + d = fr.length → (b = -1 ∨ (0 ≤ b ∧ b < (g.length : Int) ∧ 0 ≤ st.getD b.toNat 0)) →
    ∃ r, r.length ≤ 1048576 ∧ Ev (fun k => impl_leastWay.l0 k g b fr (fr.length : Int) (j : Int) st) r ∧ Ev (fun k => spec_l11Path.l0 k g st b fr (fr.length : Int) (j : Int)) (r, !r.isEmpty) := by
  induction d with
  | zero =>
    intro j b hj hbb
    rcases hbb with rfl | ⟨h1, h2, h3⟩
    · exact ⟨[], by simp, Ev.step (f := fun _ => some []) (fun k => by simp only [impl_leastWay.l0]; rw [if_neg (by omega), if_pos (by omega)]) (Ev.now _), Ev.step (f := fun _ => some ([], false)) (fun k => by simp only [spec_l11Path.l0]; rw [if_neg (by omega), if_pos (by omega)]) (Ev.now _)⟩
    · obtain ⟨m, hm⟩ := Int.eq_ofNat_of_zero_le h3
      have hm2 := hb _ (getD_mem (l := st) (j := b.toNat) (by omega) 0)
      obtain ⟨r, r1, r2, r3, r4⟩ := path_both g st hg ha hl hp m b [b] (by omega) h1 h2 hm (by simp) (by simp; omega)
      refine ⟨r, by rw [r2]; simp; omega, Ev.step (fun k => by simp only [impl_leastWay.l0]; rw [if_neg (by omega), if_neg (by omega)]) r3, ?_⟩
      refine Ev.step (fun k => by simp only [spec_l11Path.l0]; rw [if_neg (by omega), if_neg (by omega)]) (ev_eq r4 ?_)
      cases r with
      | nil => exact absurd rfl r1
      | cons x t => rfl
  | succ d ih =>
    intro j b hj hbb
    have h3 := hfr _ (getD_mem (l := fr) (j := j) (by omega) 0)
    have e := rd_toNat (l := st) h3.1
    by_cases hn : st.getD (fr.getD j 0).toNat 0 ≥ 0
    · rcases hbb with rfl | ⟨h1, h2, h4⟩
      · obtain ⟨r, r0, r1, r2⟩ := ih (j + 1) (fr.getD j 0) (by omega) (.inr ⟨h3.1, h3.2, hn⟩)
        exact ⟨r, r0, Ev.step (fun k => by simp only [impl_leastWay.l0]; rw [if_pos (by omega), if_pos (by omega), if_pos (by omega), rd_nat, if_pos h3.1, if_pos (by omega), e, if_pos hn, if_pos (by omega), wsucc (by omega)]) r1, Ev.step (fun k => by simp only [spec_l11Path.l0]; rw [if_pos (by omega), if_pos (by omega), if_pos (by omega), rd_nat, if_pos h3.1, if_pos (by omega), e, if_pos hn, if_pos (by omega), wsucc (by omega)]) r2⟩
      · have eb := rd_toNat (l := st) h1
        by_cases hlt : st.getD (fr.getD j 0).toNat 0 < st.getD b.toNat 0
        · obtain ⟨r, r0, r1, r2⟩ := ih (j + 1) (fr.getD j 0) (by omega) (.inr ⟨h3.1, h3.2, hn⟩)
          exact ⟨r, r0, Ev.step (fun k => by simp only [impl_leastWay.l0]; rw [if_pos (by omega), if_pos (by omega), if_pos (by omega), rd_nat, if_pos h3.1, if_pos (by omega), e, if_pos hn, if_neg (by omega), if_pos h1, if_pos (by omega), eb, if_pos hlt, wsucc (by omega)]) r1, Ev.step (fun k => by simp only [spec_l11Path.l0]; rw [if_pos (by omega), if_pos (by omega), if_pos (by omega), rd_nat, if_pos h3.1, if_pos (by omega), e, if_pos hn, if_neg (by omega), if_pos h1, if_pos (by omega), eb, if_pos hlt, wsucc (by omega)]) r2⟩
        · obtain ⟨r, r0, r1, r2⟩ := ih (j + 1) b (by omega) (.inr ⟨h1, h2, h4⟩)
          exact ⟨r, r0, Ev.step (fun k => by simp only [impl_leastWay.l0]; rw [if_pos (by omega), if_pos (by omega), if_pos (by omega), rd_nat, if_pos h3.1, if_pos (by omega), e, if_pos hn, if_neg (by omega), if_pos h1, if_pos (by omega), eb, if_neg hlt, wsucc (by omega)]) r1, Ev.step (fun k => by simp only [spec_l11Path.l0]; rw [if_pos (by omega), if_pos (by omega), if_pos (by omega), rd_nat, if_pos h3.1, if_pos (by omega), e, if_pos hn, if_neg (by omega), if_pos h1, if_pos (by omega), eb, if_neg hlt, wsucc (by omega)]) r2⟩
    · obtain ⟨r, r0, r1, r2⟩ := ih (j + 1) b (by omega) hbb
      exact ⟨r, r0, Ev.step (fun k => by simp only [impl_leastWay.l0]; rw [if_pos (by omega), if_pos (by omega), if_pos (by omega), rd_nat, if_pos h3.1, if_pos (by omega), e, if_neg hn, wsucc (by omega)]) r1, Ev.step (fun k => by simp only [spec_l11Path.l0]; rw [if_pos (by omega), if_pos (by omega), if_pos (by omega), rd_nat, if_pos h3.1, if_pos (by omega), e, if_neg hn, wsucc (by omega)]) r2⟩
theorem way_both (g : List (List Int)) (fr tg : List Int) (hg : g.length ≤ 200000) (ht : tot g ≤ 1048576) (ha : Arrows g) (hfr : ∀ v ∈ fr, 0 ≤ v ∧ v < (g.length : Int)) (hfl : fr.length ≤ 1048576) (hto : ∀ v ∈ tg, 0 ≤ v ∧ v < (g.length : Int)) (htl : tg.length ≤ 200000) :
    ∃ r, r.length ≤ 1048576 ∧ Ev (fun k => impl_leastWay.f k g fr tg) r ∧ Ev (fun k => spec_l11Path.f k g fr tg) (r, !r.isEmpty) := by
  obtain ⟨st, ⟨h1, h2, h3⟩, e1, e2⟩ := steps_par (turnedOf g) tg (by rw [turnedOf_length]; omega) (turned_arrows ha ht) (by rw [turnedOf_length]; exact hto) (by omega)
  rw [turnedOf_length] at h1 h3
  obtain ⟨r, r0, r1, r2⟩ := best_both g st fr (by omega) ha h1 h2 (fun x hx => by have := h3 x hx; omega) hfr hfl fr.length 0 (-1) (by omega) (.inl rfl)
  exact ⟨r, r0, Ev.bind (turned_ev g (by omega) ha (by omega)) (Ev.bind e1 r1), Ev.bind (l11Turn_ev g (by omega) ha (by omega)) (Ev.bind e2 r2)⟩

theorem ShortPath_both (g : List (List Int)) (fr tg : List Int) (hx : ∀ x ∈ g, x.length ≤ 9223372036854775807) (hf : fr.length ≤ 1048576) (ht : tg.length ≤ 1048576) :
    ∃ r, Ev (fun k => spec_ShortPath.f k g fr tg) r ∧ Ev (fun k => impl_ShortPath.f k g fr tg) r ∧ r.1.length ≤ 1048576 := by
  have hi := isGraphFrom_tells g fr hx (by omega)
  have hit := isIncreasing_tells tg (g.length : Int) (by omega)
  by_cases h : GG g
  · have hlen := h.1
    have hs := tells_ev (spec_GoodGraph_tells g hx) h
    have hp := l11Points_tells fr g.length (by omega) (by omega)
    have hpt := l11Points_tells tg g.length (by omega) (by omega)
    have htt : tot g ≤ 20000 := by have := h.2.2; rw [tot_arcs]; omega
    by_cases hn : Rising fr 0 ((g.length : Int) - 1)
    · by_cases hn2 : Rising tg 0 ((g.length : Int) - 1)
      · have htl := rising_len hn2 (by omega)
        obtain ⟨r, r0, r1, r2⟩ := way_both g fr tg (by omega) (by omega) h.arrows (rising_in hn) hf (rising_in hn2) (by omega)
        exact ⟨(r, !r.isEmpty), Ev.bind hs (ev_pos rfl (Ev.bind (tells_ev hp hn) (ev_pos rfl (Ev.bind (tells_ev hpt hn2) (ev_pos rfl (Ev.bind r2 (Ev.now _))))))), Ev.bind (tells_ev hi ⟨h, hn⟩) (ev_pos rfl (Ev.bind (tells_ev hit hn2) (ev_pos rfl (Ev.bind r1 (Ev.now _))))), r0⟩
      · exact ⟨([], false), Ev.bind hs (ev_pos rfl (Ev.bind (tells_ev hp hn) (ev_pos rfl (Ev.bind (tells_ev_not hpt hn2) (ev_neg (by simp) (Ev.now _)))))), Ev.bind (tells_ev hi ⟨h, hn⟩) (ev_pos rfl (Ev.bind (tells_ev_not hit hn2) (ev_neg (by simp) (Ev.now _)))), by simp⟩
    · exact ⟨([], false), Ev.bind hs (ev_pos rfl (Ev.bind (tells_ev_not hp hn) (ev_neg (by simp) (Ev.now _)))), Ev.bind (tells_ev_not hi (fun h2 => hn h2.2)) (ev_neg (by simp) (Ev.now _)), by simp⟩
  · exact ⟨([], false), Ev.bind (tells_ev_not (spec_GoodGraph_tells g hx) h) (ev_neg (by simp) (Ev.now _)), Ev.bind (tells_ev_not hi (fun h2 => h h2.1)) (ev_neg (by simp) (Ev.now _)), by simp⟩

theorem FnExactShortPath : ∀ (l0_0 : List (List (Int))) (l1 : List (Int)) (l2 : List (Int)), (l0_0.length ≤ 9223372036854775807 ∧ ∀ x ∈ l0_0, x.length ≤ 9223372036854775807 ∧ ∀ x' ∈ x, In64 x') → (l1.length ≤ 9223372036854775807 ∧ ∀ x ∈ l1, In64 x) → (l2.length ≤ 9223372036854775807 ∧ ∀ x ∈ l2, In64 x) → ∃ k, laws_FnExactShortPath.Holds k l0_0 l1 l2 := by
  intro l fr tg hg hf hto
  by_cases c : 1048576 < (fr.length : Int)
  · exact ⟨0, .inl c⟩
  by_cases c2 : 1048576 < (tg.length : Int)
  · exact ⟨0, .inr ⟨c, .inl c2⟩⟩
  obtain ⟨t, ht, hp⟩ := szGraph_ev l hg.1 (fun x hx => (hg.2 x hx).1)
  by_cases h : t < 0
  · obtain ⟨k, hk⟩ := ht.rounds
    exact ⟨k, .inr ⟨c, .inr ⟨c2, t, hk, .inl h⟩⟩⟩
  obtain ⟨_, h1, h2⟩ := hp (by omega)
  have h3 : ∀ x ∈ l, x.length ≤ 9223372036854775807 := fun x hx => by have := h2 x hx; omega
  obtain ⟨⟨b, ok⟩, hb, hb', hlen⟩ := ShortPath_both l fr tg h3 (by omega) (by omega)
  have hlen : b.length ≤ 1048576 := hlen
  have hm := markGraph_ev l 1 h1 h2 (by omega) (by omega)
  have ht2 := tot_small h1 h2
  have hm2 := markIntS_ev fr (1 + tot l) (by omega) (by omega) (by omega)
  have hm4 := markIntS_ev tg (1 + tot l + fr.length) (by omega) (by omega) (by omega)
  have hm3 := markIntS_ev b 1 (by omega) (by omega) (by omega)
  have hh := heldIntS_ev b.length 1 (by omega) (by omega) (by omega)
  obtain ⟨k, a1, a2, a3, a4, a5, a6, a7, a8, a9, a10, a11, a12, a13, a14, a15⟩ := ((ev_late ht).and ((ev_late (toGraph_ev l h1 h2)).and ((ev_late (toIntS_ev fr (by omega))).and ((ev_late (toIntS_ev tg (by omega))).and ((ev_late hb).and ((ev_late hb').and ((ev_late (eqIntS_ev b (by omega))).and ((ev_late (eqGraph_ev l (by omega) h3)).and ((ev_late (eqIntS_ev fr (by omega))).and ((ev_late (eqIntS_ev tg (by omega))).and ((ev_late hm).and ((ev_late hm2).and ((ev_late hm4).and ((ev_late hm3).and (ev_late hh))))))))))))))).ex
  exact ⟨k, .inr ⟨c, .inr ⟨c2, t, a1, .inr ⟨h, b, ok, _, _, _, _, _, _, _, _, a2, a3, a4, a5, a6, a7, a8, a9, a10, a11, a12, a13, a14, a15, by omega, by omega⟩⟩⟩⟩

end Go.Proofs.Ytbgbidgnlioomaa.Pure
