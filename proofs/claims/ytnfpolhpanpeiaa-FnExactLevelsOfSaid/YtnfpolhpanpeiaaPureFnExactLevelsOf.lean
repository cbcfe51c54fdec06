/- The pure statement of the law FnExactLevelsOf: what the printed functions compute makes the law true, for every input. No condition. -/
import Derived.Test.YtnfpolhpanpeiaaOpen
import Derived.Test.YtnfpolhpanpeiaaAid
import Derived.Test.YtnfpolhpanpeiaaMFnExactLevelsOf3
set_option linter.unusedVariables false
set_option linter.unusedSimpArgs false
namespace Go.Proofs.Ytnfpolhpanpeiaa.Pure
open Go.RowKit Go.Proofs.YtnfpolhpanpeiaaW.PrintWords Go.Proofs.Ytnfpolhpanpeiaa.P Go.Proofs.Ytnfpolhpanpeiaa.Hof Go.Proofs.Ytnfpolhpanpeiaa.Open Go.Proofs.Ytnfpolhpanpeiaa.Aid
-- LEMMAS
theorem szIntS_eq (l : List Int) (a : Int) (ha : 0 ≤ a ∧ a ≤ 1048576) (hl : l.length ≤ 9223372036854775807) : laws_szIntS.f l a = some (if (l.length : Int) ≤ a then a - l.length else -1) := by
 have e : wrap64 (a - (l.length : Int)) = a - l.length := wid (by omega) (by omega)
 simp only [laws_szIntS.f]
 rw [e]
 by_cases h : (l.length : Int) ≤ a
 ·rw [if_neg (by omega), if_pos h]
 ·rw [if_pos (by omega), if_neg h]
theorem szIntSS_l0 (l : List (List Int)) (hl : l.length ≤ 9223372036854775807) (hx : ∀ x ∈ l, x.length ≤ 9223372036854775807) (d : Nat) : ∀ (j : Nat) (a : Int), 0 ≤ a → a ≤ 1048576 → j + d = l.length →
  ∃ t, Ev (fun k => laws_szIntSS.l0 k l a (j : Int)) t ∧ (0 ≤ t → t ≤ a ∧ ∀ x ∈ l.drop j, (x.length : Int) ≤ a) := by
 induction d with
 | zero =>
  intro j a h0 h1 hd
  refine ⟨a, Ev.step (f := fun _ => some a) (fun k => by simp only [laws_szIntSS.l0]; rw [if_neg (by omega)]) (Ev.now a), fun _ => ⟨by omega, ?_⟩⟩
  rw [List.drop_of_length_le (by omega)]; simp
 | succ d ih =>
  intro j a h0 h1 hd
  have hj : j < l.length := by omega
  have e1 : ∀ k, laws_szIntSS.l0 (k + 1) l a (j : Int) = ((laws_szIntS.f (rd_L1 l (j : Int)) a).bind fun t => (if t < 0 then (some (-1)) else (laws_szIntSS.l0 k l t ((j + 1 : Nat) : Int)))) := fun k => by
   simp only [laws_szIntSS.l0]; rw [if_pos (by omega), if_pos (by omega), wsucc (by omega)]
  have er : rd_L1 l (j : Int) = l.getD j [] := by simp [rd_L1]
  have hm := getD_mem hj ([] : List Int)
  rw [er, szIntS_eq _ a ⟨h0, h1⟩ (hx _ hm)] at e1
  simp only [Option.bind_some] at e1
  by_cases h : ((l.getD j []).length : Int) ≤ a
  ·rw [if_pos h] at e1
   obtain ⟨t, ht, hp⟩ := ih (j + 1) (a - (l.getD j []).length) (by omega) (by omega) (by omega)
   refine ⟨t, Ev.step e1 (ev_neg (by omega) ht), fun h2 => ?_⟩
   obtain ⟨h3, h4⟩ := hp h2
   refine ⟨by omega, fun x hx' => ?_⟩
   rw [drop_cons hj []] at hx'
   rcases List.mem_cons.1 hx' with rfl | hx'
   ·exact h
   ·have := h4 x hx'; omega
  ·rw [if_neg h] at e1
   exact ⟨-1, Ev.step e1 (ev_pos (by omega) (Ev.now _)), fun h => by omega⟩
theorem szIntSS_ev (l : List (List Int)) (a : Int) (ha : 0 ≤ a ∧ a ≤ 1048576) (hl : l.length ≤ 9223372036854775807) (hx : ∀ x ∈ l, x.length ≤ 9223372036854775807) :
  ∃ t, Ev (fun k => laws_szIntSS.f k l a) t ∧ (0 ≤ t → t ≤ a ∧ (l.length : Int) ≤ a ∧ ∀ x ∈ l, (x.length : Int) ≤ a) := by
 have e : wrap64 (a - (l.length : Int)) = a - l.length := wid (by omega) (by omega)
 by_cases h : (l.length : Int) ≤ a
 ·obtain ⟨t, ht, hp⟩ := szIntSS_l0 l hl hx l.length 0 (a - l.length) (by omega) (by omega) (by omega)
  refine ⟨t, Ev.congr (fun k => by simp only [laws_szIntSS.f]; rw [e, if_neg (by omega)]; rfl) ht, fun h2 => ?_⟩
  obtain ⟨h3, h4⟩ := hp h2
  exact ⟨by omega, h, fun x hx' => by have := h4 x (by simpa using hx'); omega⟩
 ·exact ⟨-1, Ev.congr (f := fun _ => some (-1)) (fun k => by simp only [laws_szIntSS.f]; rw [e, if_pos (by omega)]) (Ev.now _), fun h => by omega⟩
theorem szGraph_ev (l : List (List Int)) (hl : l.length ≤ 9223372036854775807) (hx : ∀ x ∈ l, x.length ≤ 9223372036854775807) :
  ∃ t, Ev (fun k => laws_szGraph.f k l 1048576) t ∧ (0 ≤ t → t ≤ 1048576 ∧ l.length ≤ 1048576 ∧ ∀ x ∈ l, x.length ≤ 1048576) := by
 obtain ⟨t, ht, hp⟩ := szIntSS_ev l 1048576 (by omega) hl hx
 by_cases h : t < 0
 ·exact ⟨-1, (Ev.bind ht (ev_pos h (Ev.now _))), fun h => by omega⟩
 ·refine ⟨t, (Ev.bind ht (ev_neg h (Ev.now _))), fun h => ?_⟩
  obtain ⟨h1, h2, h3⟩ := hp h
  exact ⟨h1, by omega, fun x hx' => by have := h3 x hx'; omega⟩
theorem toIntS_l0 (l : List Int) (hl : l.length ≤ 1048576) (d : Nat) : ∀ (j : Nat) (y : List Int), y.length = l.length → j + d = l.length → Ev (fun k => laws_toIntS.l0 k l y (j : Int)) (y.take j ++ l.drop j) := by
 induction d with
 | zero =>
  intro j y hy hd
  rw [take_all_drop hy (by omega)]
  exact Ev.step (f := fun _ => some y) (fun k => by simp only [laws_toIntS.l0]; rw [if_neg (by omega)]) (Ev.now y)
 | succ d ih =>
  intro j y hy hd
  refine Ev.step (f := fun k => laws_toIntS.l0 k l (y.set j (rd l (j : Int))) ((j + 1 : Nat) : Int)) (fun k => by simp only [laws_toIntS.l0]; rw [if_pos (by omega), if_pos (by omega), if_pos (by omega), wsucc (by omega)]; rfl) ?_
  refine ev_eq (ih (j + 1) _ (by simpa using hy) (by omega)) (copy_step (by omega) (by omega) ?_)
  rw [rd_nat, getD_eq (by omega), getD_eq (by omega)]
theorem toIntS_ev (l : List Int) (hl : l.length ≤ 1048576) : Ev (fun k => laws_toIntS.f k l) l := by
 refine Ev.congr (f := fun k => laws_toIntS.l0 k l (List.replicate l.length 0) ((0 : Nat) : Int)) (fun k => by simp only [laws_toIntS.f]; rw [if_pos (by omega), if_pos (by simp only [Int.toNat_natCast]; omega)]; rfl) ?_
 exact ev_eq (toIntS_l0 l hl l.length 0 _ (by simp) (by omega)) (by simp)
theorem toIntSS_l0 (l : List (List Int)) (hl : l.length ≤ 1048576) (hx : ∀ x ∈ l, x.length ≤ 1048576) (d : Nat) : ∀ (j : Nat) (y : List (List Int)), y.length = l.length → j + d = l.length → Ev (fun k => laws_toIntSS.l0 k l y (j : Int)) (y.take j ++ l.drop j) := by
 induction d with
 | zero =>
  intro j y hy hd
  rw [take_all_drop hy (by omega)]
  exact Ev.step (f := fun _ => some y) (fun k => by simp only [laws_toIntSS.l0]; rw [if_neg (by omega)]) (Ev.now y)
 | succ d ih =>
  intro j y hy hd
  have er : rd_L1 l (j : Int) = l.getD j [] := by simp [rd_L1]
  refine Ev.step (f := fun k => (laws_toIntS.f k (l.getD j [])).bind fun t => laws_toIntSS.l0 k l (y.set j t) ((j + 1 : Nat) : Int)) (fun k => by simp only [laws_toIntSS.l0]; rw [if_pos (by omega), if_pos (by omega), er, wsucc (by omega)]; simp only [if_pos (show (j : Int) < (y.length : Int) by omega)]; rfl) ?_
  refine Ev.bind (toIntS_ev _ (hx _ (getD_mem (by omega) _))) ?_
  exact ev_eq (ih (j + 1) _ (by simpa using hy) (by omega)) (copy_step (by omega) (by omega) (by rw [getD_eq (by omega), getD_eq (by omega)]))
theorem toIntSS_ev (l : List (List Int)) (hl : l.length ≤ 1048576) (hx : ∀ x ∈ l, x.length ≤ 1048576) : Ev (fun k => laws_toIntSS.f k l) l := by
 refine Ev.congr (f := fun k => laws_toIntSS.l0 k l (List.replicate l.length []) ((0 : Nat) : Int)) (fun k => by simp only [laws_toIntSS.f]; rw [if_pos (by omega), if_pos (by simp only [Int.toNat_natCast]; omega)]; rfl) ?_
 exact ev_eq (toIntSS_l0 l hl hx l.length 0 _ (by simp) (by omega)) (by simp)
theorem toGraph_ev (l : List (List Int)) (hl : l.length ≤ 1048576) (hx : ∀ x ∈ l, x.length ≤ 1048576) : Ev (fun k => laws_toGraph.f k l) l :=
 (Ev.bind (toIntSS_ev l hl hx) (Ev.now l))
theorem eqIntS_l0 (l : List Int) (hl : l.length ≤ 9223372036854775807) (d : Nat) : ∀ (j : Nat), j + d = l.length → Ev (fun k => laws_eqIntS.l0 k l l (j : Int)) true := by
 induction d with
 | zero => exact fun j hd => Ev.step (f := fun _ => some true) (fun k => by simp only [laws_eqIntS.l0]; rw [if_neg (by omega)]) (Ev.now _)
 | succ d ih => exact fun j hd => Ev.step (fun k => by simp only [laws_eqIntS.l0, if_true]; rw [if_pos (by omega), if_pos (by omega), if_pos (by omega), wsucc (by omega)]) (ih (j + 1) (by omega))
theorem eqIntS_ev (l : List Int) (hl : l.length ≤ 9223372036854775807) : Ev (fun k => laws_eqIntS.f k l l) true :=
 Ev.congr (fun k => by simp only [laws_eqIntS.f, if_true]; rfl) (eqIntS_l0 l hl l.length 0 (by omega))
theorem eqIntSS_l0 (l : List (List Int)) (hl : l.length ≤ 9223372036854775807) (hx : ∀ x ∈ l, x.length ≤ 9223372036854775807) (d : Nat) : ∀ (j : Nat), j + d = l.length → Ev (fun k => laws_eqIntSS.l0 k l l (j : Int)) true := by
 induction d with
 | zero => exact fun j hd => Ev.step (f := fun _ => some true) (fun k => by simp only [laws_eqIntSS.l0]; rw [if_neg (by omega)]) (Ev.now _)
 | succ d ih =>
  intro j hd
  have er : rd_L1 l (j : Int) = l.getD j [] := by simp [rd_L1]
  exact Ev.step (fun k => by simp only [laws_eqIntSS.l0]; rw [if_pos (by omega), if_pos (by omega), if_pos (by omega), wsucc (by omega), er]) (Ev.bind (eqIntS_ev _ (hx _ (getD_mem (by omega) _))) (ev_pos rfl (ih (j + 1) (by omega))))
theorem eqIntSS_ev (l : List (List Int)) (hl : l.length ≤ 9223372036854775807) (hx : ∀ x ∈ l, x.length ≤ 9223372036854775807) : Ev (fun k => laws_eqIntSS.f k l l) true :=
 Ev.congr (fun k => by simp only [laws_eqIntSS.f, if_true]; rfl) (eqIntSS_l0 l hl hx l.length 0 (by omega))
theorem eqGraph_ev (l : List (List Int)) (hl : l.length ≤ 9223372036854775807) (hx : ∀ x ∈ l, x.length ≤ 9223372036854775807) : Ev (fun k => laws_eqGraph.f k l l) true :=
 (Ev.bind (eqIntSS_ev l hl hx) (ev_pos rfl (Ev.now _)))
theorem markIntS_l0 (d : Nat) : ∀ (j : Nat) (y : List Int) (a : Int), j + d = y.length → y.length ≤ 1048576 → 0 ≤ a → a + d ≤ 4611686018427387904 → Ev (fun k => laws_markIntS.l0 k y a (j : Int)) (a + d, y.take j ++ cnt d a) := by
 induction d with
 | zero =>
  intro j y a hd hy h0 h1
  refine ev_eq (Ev.step (f := fun _ => some (a, y)) (fun k => by simp only [laws_markIntS.l0]; rw [if_neg (by omega)]) (Ev.now _)) ?_
  rw [List.take_of_length_le (by omega)]; simp [cnt]
 | succ d ih =>
  intro j y a hd hy h0 h1
  refine Ev.step (fun k => by simp only [laws_markIntS.l0]; rw [if_pos (by omega), if_pos (by omega), wsucc (by omega), wid (x := a + 1) (by omega) (by omega)]) ?_
  refine ev_eq (ih (j + 1) (y.set ((j : Int)).toNat a) (a + 1) (by simp; omega) (by simpa using hy) (by omega) (by omega)) ?_
  simp only [Int.toNat_natCast]
  rw [List.take_succ_eq_append_getElem (by simp; omega), List.take_set_of_le (Nat.le_refl j)]
  simp [cnt]; omega
theorem markIntS_ev (y : List Int) (a : Int) (hy : y.length ≤ 1048576) (h0 : 0 ≤ a) (h1 : a ≤ 2305843009213693952) : Ev (fun k => laws_markIntS.f k y a) (a + y.length, cnt y.length a) :=
 ev_eq (markIntS_l0 y.length 0 y a (by omega) hy h0 (by omega)) (by simp)
theorem markIntS_ev' (y : List Int) (a : Int) (hy : y.length ≤ 1048576) (h0 : 0 ≤ a) (h1 : a + y.length ≤ 4611686018427387904) : Ev (fun k => laws_markIntS.f k y a) (a + y.length, cnt y.length a) :=
 ev_eq (markIntS_l0 y.length 0 y a (by omega) hy h0 h1) (by simp)
theorem markIntSS_ev : ∀ (l : List (List Int)) (a : Int), (∀ x ∈ l, x.length ≤ 1048576) → 0 ≤ a → a + tot l ≤ 2305843009213693952 → Ev (fun k => laws_markIntSS.f k l a) (a + tot l, cnt2 l a)
 | [], a, _, _, _ => ev_eq (Ev.now (a, [])) (by simp [tot, cnt2])
 | x :: t, a, hx, h0, h1 => by
  simp only [tot] at h1
  have e1 := markIntS_ev x a (hx x (by simp)) h0 (by omega)
  have e2 := markIntSS_ev t (a + x.length) (fun y hy => hx y (by simp [hy])) (by omega) (by omega)
  refine ev_eq (Ev.bind e1 (Ev.bind e2 (Ev.now _))) ?_
  simp only [tot, cnt2, Int.natCast_add, Int.add_assoc]
theorem tot_small {l : List (List Int)} (hl : l.length ≤ 1048576) (hx : ∀ x ∈ l, x.length ≤ 1048576) : tot l ≤ 1099511627776 := by
 have h2 := tot_le l hx
 have h3 : l.length * 1048576 ≤ 1048576 * 1048576 := Nat.mul_le_mul_right _ hl
 omega
theorem markGraph_ev (l : List (List Int)) (a : Int) (hl : l.length ≤ 1048576) (hx : ∀ x ∈ l, x.length ≤ 1048576) (h0 : 0 ≤ a) (h1 : a ≤ 2305841000000000000) : Ev (fun k => laws_markGraph.f k l a) (a + tot l, cnt2 l a) := by
 have h2 := tot_le l hx
 have h3 : l.length * 1048576 ≤ 1048576 * 1048576 := Nat.mul_le_mul_right _ hl
 exact markIntSS_ev l a hx h0 (by omega)
theorem heldIntS_l0 (y : List Int) (hy : y.length ≤ 1048576) (d : Nat) : ∀ (j : Nat) (a : Int), j + d = y.length → y.drop j = cnt d a → 0 ≤ a → a + d ≤ 4611686018427387904 → Ev (fun k => laws_heldIntS.l0 k y a (j : Int)) (a + d) := by
 induction d with
 | zero =>
  intro j a hd hc h0 h1
  exact ev_eq (Ev.step (f := fun _ => some a) (fun k => by simp only [laws_heldIntS.l0]; rw [if_neg (by omega)]) (Ev.now _)) (by omega)
 | succ d ih =>
  intro j a hd hc h0 h1
  rw [drop_cons (by omega) 0, cnt] at hc
  obtain ⟨h2, h3⟩ := List.cons.inj hc
  refine Ev.step (fun k => by simp only [laws_heldIntS.l0]; rw [if_pos (by omega), if_pos (by omega), rd_nat, if_pos h2, wsucc (by omega), wid (x := a + 1) (by omega) (by omega)]) ?_
  exact ev_eq (ih (j + 1) (a + 1) (by omega) h3 (by omega) (by omega)) (by omega)
theorem heldIntS_ev (n : Nat) (a : Int) (hn : n ≤ 1048576) (h0 : 0 ≤ a) (h1 : a ≤ 2305843009213693952) : Ev (fun k => laws_heldIntS.f k (cnt n a) a) (a + n) :=
 heldIntS_l0 (cnt n a) (by rw [cnt_length]; exact hn) n 0 a (by rw [cnt_length]; omega) (by simp) h0 (by omega)
theorem l1In_eq (n lo hi : Int) : spec_l1In.f n lo hi = some (decide (lo ≤ n ∧ n ≤ hi)) := by
 simp only [spec_l1In.f]
 by_cases h : n ≥ lo
 ·rw [if_pos h]; congr 1; simp; intro _; exact h
 ·rw [if_neg h]; congr 1; simp; intro h'; omega
theorem l1In_tells (n lo hi : Int) : Tells (fun _ => spec_l1In.f n lo hi) (lo ≤ n ∧ n ≤ hi) := by
 simp only [l1In_eq]; exact tells_some (by simp)
def RiseAt (l : List Int) (lo hi : Int) (i : Nat) : Prop := (lo ≤ l.getD i 0 ∧ l.getD i 0 ≤ hi) ∧ (0 < i → l.getD (i - 1) 0 < l.getD i 0)
def Rising (l : List Int) (lo hi : Int) : Prop := ∀ i, i < l.length → RiseAt l lo hi i
theorem from_here {n j : Nat} {P : Nat → Prop} (hj : j < n) : (∀ i, j ≤ i → i < n → P i) ↔ P j ∧ ∀ i, j + 1 ≤ i → i < n → P i :=
 ⟨fun h => ⟨h j (Nat.le_refl _) hj, fun i h1 h2 => h i (by omega) h2⟩, fun ⟨h0, h⟩ i h1 h2 => by
  rcases Nat.eq_or_lt_of_le h1 with e | e
  ·exact e ▸ h0
  ·exact h i e h2⟩
theorem l1Rising_l0 (l : List Int) (lo hi : Int) (hl : l.length ≤ 9223372036854775807) (d : Nat) : ∀ (j : Nat), j + d = l.length →
  Tells (fun k => spec_l1Rising.l0 k l lo hi l (l.length : Int) (j : Int)) (∀ i, j ≤ i → i < l.length → RiseAt l lo hi i) := by
 induction d with
 | zero => exact fun j hd => tells_step (f := fun _ => some true) (fun k => by simp only [spec_l1Rising.l0]; rw [if_neg (by omega)]) (tells_yes (fun i h1 h2 => by omega))
 | succ d ih =>
  intro j hd
  have hj : j < l.length := by omega
  refine tells_step (fun k => by simp only [spec_l1Rising.l0]; rw [if_pos (by omega), if_pos (by omega), if_pos (by omega), wsucc (by omega), rd_nat]) ?_
  refine tells_iff ?_ (from_here hj).symm
  refine tells_ask (l1In_tells _ lo hi) (fun hin => ?_) (fun hin => ?_)
  ·refine tells_pos rfl ?_
   by_cases h0 : 0 < j
   ·refine tells_pos (by omega) ?_
    rw [wpred h0 (by omega), rd_nat]
    refine tells_pos (by omega) (tells_pos (by omega) (tells_if (fun hc => ?_) (fun hc => ?_)))
    ·exact tells_no (fun h => by have := h.1.2 h0; omega)
    ·exact tells_iff (ih (j + 1) (by omega)) ⟨fun h => ⟨⟨hin, fun _ => by omega⟩, h⟩, fun h => h.2⟩
   ·refine tells_neg (by omega) ?_
    exact tells_iff (ih (j + 1) (by omega)) ⟨fun h => ⟨⟨hin, fun h1 => absurd h1 h0⟩, h⟩, fun h => h.2⟩
  ·exact tells_neg (by simp) (tells_no (fun h => hin h.1.1))
theorem l1Rising_tells (l : List Int) (lo hi : Int) (hl : l.length ≤ 9223372036854775807) : Tells (fun k => spec_l1Rising.f k l lo hi) (Rising l lo hi) :=
 (tells_iff (l1Rising_l0 l lo hi hl l.length 0 (by omega)) ⟨fun h i hi => h i (Nat.zero_le _) hi, fun h i _ hi => h i hi⟩)
theorem rising_ge {l : List Int} {lo hi : Int} (h : Rising l lo hi) : ∀ i, i < l.length → lo + i ≤ l.getD i 0
 | 0, hi => by have := (h 0 hi).1.1; omega
 | i + 1, hi => by
  have h1 := rising_ge h i (by omega)
  have h2 := (h (i + 1) hi).2 (by omega)
  simp only [Nat.add_sub_cancel] at h2
  omega
theorem rising_len {l : List Int} {lo hi : Int} (h : Rising l lo hi) (hb : lo ≤ hi + 1) : (l.length : Int) ≤ hi - lo + 1 := by
 by_cases h0 : l.length = 0
 ·omega
 ·have h1 := rising_ge h (l.length - 1) (by omega)
  have h2 := (h (l.length - 1) (by omega)).1.2
  omega
theorem l11Points_tells (l : List Int) (n : Nat) (hl : l.length ≤ 9223372036854775807) (hn : n ≤ 9223372036854775807) : Tells (fun k => spec_l11Points.f k l (n : Int)) (Rising l 0 ((n : Int) - 1)) := by
 have e : wrap64 ((n : Int) - 1) = (n : Int) - 1 := wid (by omega) (by omega)
 refine tells_congr (fun k => by simp only [spec_l11Points.f]; rw [e]) ?_
 exact tells_ask (l1Rising_tells l 0 _ hl) (fun h => tells_yes h) (fun h => tells_no h)
def arcs (l : List (List Int)) : Nat := (l.map List.length).sum
def GG (l : List (List Int)) : Prop := l.length ≤ 1200 ∧ (∀ x ∈ l, Rising x 0 ((l.length : Int) - 1)) ∧ arcs l ≤ 20000
theorem arcs_cons (x : List Int) (l : List (List Int)) : arcs (x :: l) = x.length + arcs l := by simp [arcs]
theorem row_short {x : List Int} {n : Nat} (h : Rising x 0 ((n : Int) - 1)) : x.length ≤ n := by have := rising_len h (by omega); omega
theorem spec_GoodGraph_l0 (l : List (List Int)) (hn : l.length ≤ 1200) (hx : ∀ x ∈ l, x.length ≤ 9223372036854775807) (d : Nat) : ∀ (j : Nat) (a : Nat), a ≤ 1200 * j → j + d = l.length →
  Tells (fun k => spec_GoodGraph.l0 k (a : Int) l (l.length : Int) (j : Int) l) ((∀ x ∈ l.drop j, Rising x 0 ((l.length : Int) - 1)) ∧ a + arcs (l.drop j) ≤ 20000) := by
 induction d with
 | zero =>
  intro j a ha hd
  refine tells_step (f := fun _ => some (decide ((a : Int) ≤ 20000))) (fun k => by simp only [spec_GoodGraph.l0]; rw [if_neg (by omega)]) (tells_some ?_)
  rw [List.drop_of_length_le (by omega)]
  simp [arcs] <;> omega
 | succ d ih =>
  intro j a ha hd
  have hj : j < l.length := by omega
  have er : rd_L1 l (j : Int) = l.getD j [] := by simp [rd_L1]
  have hm := hx _ (getD_mem hj [])
  refine tells_step (fun k => by simp only [spec_GoodGraph.l0]; rw [if_pos (by omega), if_pos (by omega), if_pos (by omega), er, wsucc (by omega)]) ?_
  rw [drop_cons hj [], arcs_cons]
  generalize l.getD j [] = x at hm ⊢
  refine tells_if (fun h => tells_no (fun h2 => ?_)) (fun h => ?_)
  ·have := row_short (h2.1 x (by simp)); omega
  ·refine tells_ask (l11Points_tells x l.length hm (by omega)) (fun hr => tells_pos rfl ?_) (fun hr => tells_neg (by simp) (tells_no (fun h2 => hr (h2.1 x (by simp)))))
   have hs := row_short hr
   rw [wid (x := (a : Int) + (x.length : Int)) (by omega) (by omega)]
   have e : (a : Int) + (x.length : Int) = ((a + x.length : Nat) : Int) := by omega
   rw [e]
   refine tells_iff (ih (j + 1) (a + x.length) (by omega) (by omega)) ⟨fun ⟨h1, h2⟩ => ⟨fun y hy => ?_, by omega⟩, fun ⟨h1, h2⟩ => ⟨fun y hy => h1 y (List.mem_cons_of_mem _ hy), by omega⟩⟩
   rcases List.mem_cons.1 hy with rfl | hy
   ·exact hr
   ·exact h1 y hy
theorem spec_GoodGraph_tells (l : List (List Int)) (hx : ∀ x ∈ l, x.length ≤ 9223372036854775807) : Tells (fun k => spec_GoodGraph.f k l) (GG l) := by
 refine tells_if (fun h => tells_no (fun h2 => by have := h2.1; omega)) (fun h => ?_)
 exact tells_iff (spec_GoodGraph_l0 l (by omega) hx l.length 0 0 (by omega) (by omega)) ⟨fun ⟨h1, h2⟩ => ⟨by omega, by simpa using h1, by simpa using h2⟩, fun ⟨_, h1, h2⟩ => ⟨by simpa using h1, by simpa using h2⟩⟩
def neg (l : List Int) : Nat := l.countP (fun x => decide (x < 0))
def relax (d : Int) : List Int → List Int → List Int → List Int × List Int
 | [], st, q => (st, q)
 | w :: t, st, q => if st.getD w.toNat 0 < 0 then relax d t (st.set w.toNat (d + 1)) (q ++ [w]) else relax d t st q
structure BI (n N : Nat) (c : Int) (st q : List Int) : Prop where
 len : st.length = n
 hi : ∀ x ∈ st, x ≤ c
 lo : ∀ x ∈ st, -1 ≤ x
 ok : ∀ v ∈ q, 0 ≤ v ∧ v < n ∧ 0 ≤ st.getD v.toNat 0
 sum : neg st + q.length ≤ N
theorem getD_set {l : List Int} {i j : Nat} {x d : Int} : (l.set i x).getD j d = if i = j ∧ j < l.length then x else l.getD j d := by
 simp only [List.getD_eq_getElem?_getD, List.getElem?_set]
 by_cases h : i = j
 ·subst h
  by_cases h2 : i < l.length
  ·simp [h2]
  ·simp [h2]
 ·simp [h]
theorem neg_set {l : List Int} {i : Nat} {x : Int} (hi : i < l.length) (h : l.getD i 0 < 0) (hx : 0 ≤ x) : neg (l.set i x) + 1 = neg l := by
 have e : l.getD i 0 = l[i] := getD_eq hi 0
 rw [e] at h
 have h1 : 0 < l.countP (fun x => decide (x < 0)) := List.countP_pos_iff.2 ⟨l[i], List.getElem_mem hi, by simpa using h⟩
 unfold neg
 rw [List.countP_set hi]
 simp only [h, show ¬ x < 0 by omega, decide_true, decide_false, if_true]
 simp only [Bool.false_eq_true, if_false]
 omega
theorem BI.set {n N : Nat} {c d : Int} {st q : List Int} (h : BI n N c st q) {w : Int} (hw0 : 0 ≤ w) (hw1 : w < n) (hn : st.getD w.toNat 0 < 0) (hd : d + 1 ≤ c) (hd0 : 0 ≤ d) : BI n N c (st.set w.toNat (d + 1)) (q ++ [w]) := by
 have hl := h.len
 refine ⟨by simpa using hl, fun x hx => ?_, fun x hx => ?_, fun v hv => ?_, ?_⟩
 ·rcases List.mem_or_eq_of_mem_set hx with hx | rfl
  ·exact h.hi x hx
  ·exact hd
 ·rcases List.mem_or_eq_of_mem_set hx with hx | rfl
  ·exact h.lo x hx
  ·omega
 ·rw [getD_set]
  rcases List.mem_append.1 hv with hv | hv
  ·obtain ⟨h1, h2, h3⟩ := h.ok v hv
   refine ⟨h1, h2, ?_⟩
   split
   ·omega
   ·exact h3
  ·rw [List.mem_singleton.1 hv]
   refine ⟨hw0, hw1, ?_⟩
   rw [if_pos ⟨rfl, by omega⟩]; omega
 ·have h1 := neg_set (l := st) (i := w.toNat) (x := d + 1) (by omega) hn (by omega)
  have h2 := h.sum
  simp only [List.length_append, List.length_singleton]; omega
theorem BI.pop {n N : Nat} {c : Int} {st q : List Int} {v : Int} (h : BI n (N + 1) c st (v :: q)) : BI n N c st q :=
 ⟨h.len, h.hi, h.lo, fun x hx => h.ok x (List.mem_cons_of_mem _ hx), by have := h.sum; simp only [List.length_cons] at this; omega⟩
theorem BI.up {n N : Nat} {c c' : Int} {st q : List Int} (h : BI n N c st q) (hc : c ≤ c') : BI n N c' st q := ⟨h.len, fun x hx => by have := h.hi x hx; omega, h.lo, h.ok, h.sum⟩
def Arrows (g : List (List Int)) : Prop := ∀ x ∈ g, x.length ≤ 1048576 ∧ ∀ w ∈ x, 0 ≤ w ∧ w < (g.length : Int)
theorem GG.arrows {g : List (List Int)} (h : GG g) : Arrows g := by
 intro x hx
 have h1 := h.2.1 x hx
 have h2 := row_short h1
 have h3 := h.1
 refine ⟨by omega, fun w hw => ?_⟩
 obtain ⟨i, hi, rfl⟩ := List.getElem_of_mem hw
 have := (h1 i hi).1
 rw [getD_eq hi] at this
 omega
def reached : Nat → List Int → List Int
 | _, [] => []
 | j, x :: t => if 0 ≤ x then (j : Int) :: reached (j + 1) t else reached (j + 1) t
theorem reached_length : ∀ (l : List Int) (j : Nat), (reached j l).length ≤ l.length
 | [], _ => by simp [reached]
 | x :: t, j => by
  have := reached_length t (j + 1)
  unfold reached; split <;> simp <;> omega
def Par (g : List (List Int)) (st : List Int) : Prop := ∀ v : Nat, 0 < st.getD v 0 → ∃ u : Nat, u < g.length ∧ (v : Int) ∈ g.getD u [] ∧ st.getD u 0 = st.getD v 0 - 1
theorem Par.of_le {g : List (List Int)} {st : List Int} (h : ∀ x ∈ st, x ≤ 0) : Par g st := fun v hv => by
 rcases Nat.lt_or_ge v st.length with h1 | h1
 ·have := h _ (getD_mem h1 0); omega
 ·rw [List.getD_eq_getElem?_getD, List.getElem?_eq_none h1] at hv; simp at hv
theorem Par.set {g : List (List Int)} {st : List Int} (h : Par g st) {v w : Nat} (hl : st.length = g.length) (hv : v < g.length) (hw : (w : Int) ∈ g.getD v []) (hn : st.getD w 0 < 0) (h0 : 0 ≤ st.getD v 0) : Par g (st.set w (st.getD v 0 + 1)) := fun x hx => by
 have hvw : v ≠ w := fun e => by subst e; omega
 rw [getD_set] at hx
 by_cases hxw : w = x ∧ x < st.length
 ·obtain ⟨rfl, h2⟩ := hxw
  refine ⟨v, hv, hw, ?_⟩
  rw [getD_set, if_neg (fun h3 => hvw h3.1.symm), getD_set, if_pos ⟨rfl, h2⟩]; omega
 ·rw [if_neg hxw] at hx
  obtain ⟨u, h1, h2, h3⟩ := h x hx
  refine ⟨u, h1, h2, ?_⟩
  have huw : w ≠ u := fun e => by subst e; omega
  rw [getD_set, if_neg (fun h4 => huw h4.1), getD_set, if_neg hxw]; exact h3
theorem rising_in {fr : List Int} {n : Nat} (hn : Rising fr 0 ((n : Int) - 1)) : ∀ v ∈ fr, 0 ≤ v ∧ v < (n : Int) := fun v hv => by
 obtain ⟨i, hi, rfl⟩ := List.getElem_of_mem hv
 have h1 := (hn i hi).1
 rw [getD_eq hi] at h1
 omega
def putArcs (k : Int) : List Int → List (List Int) → List (List Int)
 | [], y => y
 | w :: t, y => putArcs k t (y.set w.toNat (y.getD w.toNat [] ++ [k]))
def turnFrom : Nat → List (List Int) → List (List Int) → List (List Int)
 | _, [], y => y
 | j, x :: t, y => turnFrom (j + 1) t (putArcs (j : Int) x y)
def turnedOf (l : List (List Int)) : List (List Int) := turnFrom 0 l (List.replicate l.length [])
theorem putArcs_length (k : Int) : ∀ (x : List Int) (y : List (List Int)), (putArcs k x y).length = y.length
 | [], _ => rfl
 | w :: t, y => by rw [putArcs, putArcs_length k t]; simp
theorem turnFrom_length : ∀ (l : List (List Int)) (j : Nat) (y : List (List Int)), (turnFrom j l y).length = y.length
 | [], _, _ => rfl
 | x :: t, j, y => by rw [turnFrom, turnFrom_length t, putArcs_length]
theorem turnedOf_length (l : List (List Int)) : (turnedOf l).length = l.length := by rw [turnedOf, turnFrom_length]; simp
theorem getD_row {y : List (List Int)} {c : Nat} (h : ∀ z ∈ y, z.length ≤ c) (i : Nat) : (y.getD i []).length ≤ c := by
 rcases Nat.lt_or_ge i y.length with hi | hi
 ·rw [getD_eq hi]; exact h _ (List.getElem_mem hi)
 ·rw [List.getD_eq_getElem?_getD, List.getElem?_eq_none hi]; simp
theorem put_row {y : List (List Int)} {c : Nat} (h : ∀ z ∈ y, z.length ≤ c) (i : Nat) (k : Int) : ∀ z ∈ y.set i (y.getD i [] ++ [k]), z.length ≤ c + 1 := fun z hz => by
 rcases List.mem_or_eq_of_mem_set hz with hz | rfl
 ·have := h z hz; omega
 ·have := getD_row h i; simp only [List.length_append, List.length_singleton]; omega
theorem putArcs_rows (k : Int) : ∀ (x : List Int) (y : List (List Int)) (c : Nat), (∀ z ∈ y, z.length ≤ c) → ∀ z ∈ putArcs k x y, z.length ≤ c + x.length
 | [], y, c, h => by simpa [putArcs] using h
 | w :: t, y, c, h => fun z hz => by
  have := putArcs_rows k t _ (c + 1) (put_row h w.toNat k) z hz
  simp only [List.length_cons]; omega
theorem turnFrom_rows : ∀ (l : List (List Int)) (j : Nat) (y : List (List Int)) (c : Nat), (∀ z ∈ y, z.length ≤ c) → ∀ z ∈ turnFrom j l y, z.length ≤ c + tot l
 | [], j, y, c, h => by simpa [turnFrom, tot] using h
 | x :: t, j, y, c, h => fun z hz => by
  have := turnFrom_rows t (j + 1) _ (c + x.length) (putArcs_rows (j : Int) x y c h) z hz
  simp only [tot]; omega
theorem turnedOf_rows (l : List (List Int)) : ∀ z ∈ turnedOf l, z.length ≤ tot l := fun z hz => by
 have := turnFrom_rows l 0 (List.replicate l.length []) 0 (fun z hz => by rw [List.eq_of_mem_replicate hz]; simp) z hz
 omega
theorem tot_arcs : ∀ l : List (List Int), tot l = arcs l
 | [] => by simp [tot, arcs]
 | x :: t => by rw [tot, tot_arcs t, arcs_cons]
theorem l11Turn_l1 (l row : List (List Int)) (n j : Nat) (x : List Int) (hn : n ≤ 1048576) (hxl : x.length ≤ 1048576) (hx : ∀ w ∈ x, 0 ≤ w ∧ w < (n : Int)) (c : Nat) (hc : c ≤ 1099511627776) (hj : j < 1048576) (r : List (List Int)) (d : Nat) : ∀ (i : Nat) (y : List (List Int)), i + d = x.length → y.length = n → (∀ z ∈ y, z.length ≤ c + i) →
  Ev (fun k => spec_l11Turn.l0 k (putArcs (j : Int) (x.drop i) y) l (n : Int) ((j + 1 : Nat) : Int)) r → Ev (fun k => spec_l11Turn.l1 k y (j : Int) l (n : Int) (j : Int) x (x.length : Int) (i : Int)) r := by
 induction d with
 | zero =>
  intro i y hi hy hz h
  rw [List.drop_of_length_le (by omega), putArcs] at h
  exact Ev.step (fun k => by simp only [spec_l11Turn.l1]; rw [if_neg (by omega), wsucc (by omega)]) h
 | succ d ih =>
  intro i y hi hy hz h
  rw [drop_cons (by omega) 0, putArcs] at h
  obtain ⟨h0, h1⟩ := hx _ (getD_mem (show i < x.length by omega) 0)
  have er : rd_L1 y (x.getD i 0) = y.getD (x.getD i 0).toNat [] := by simp [rd_L1]
  have hl := getD_row hz (x.getD i 0).toNat
  refine Ev.step (fun k => by simp only [spec_l11Turn.l1]; rw [if_pos (by omega), if_pos (by omega), if_pos (by omega), rd_nat, if_pos h0, if_pos (by omega), er, if_pos (by omega), wsucc (by omega)]) ?_
  exact ih (i + 1) _ (by omega) (by simpa using hy) (fun z hz2 => by have := put_row hz _ _ z hz2; omega) h
theorem l11Turn_l0 (l : List (List Int)) (hn : l.length ≤ 1048576) (ha : Arrows l) : ∀ (t : List (List Int)) (j : Nat) (y : List (List Int)) (c : Nat), j + t.length = l.length → l.drop j = t → y.length = l.length → (∀ z ∈ y, z.length ≤ c) → c + tot t ≤ 1099511627776 →
  Ev (fun k => spec_l11Turn.l0 k y l (l.length : Int) (j : Int)) (turnFrom j t y)
 | [], j, y, c, hj, ht, hy, hz, hc => by
  simp only [List.length_nil] at hj
  exact Ev.step (f := fun _ => some y) (fun k => by simp only [spec_l11Turn.l0]; rw [if_neg (by omega)]) (Ev.now _)
 | x :: t, j, y, c, hj, ht, hy, hz, hc => by
  simp only [List.length_cons] at hj
  simp only [tot] at hc
  rw [drop_cons (by omega) []] at ht
  obtain ⟨e1, e2⟩ := List.cons.inj ht
  have hm : x ∈ l := e1 ▸ getD_mem (by omega) []
  obtain ⟨hxl, hx⟩ := ha x hm
  have er : rd_L1 l (j : Int) = x := by rw [← e1]; simp [rd_L1]
  refine Ev.step (fun k => by simp only [spec_l11Turn.l0]; rw [if_pos (by omega), if_pos (by omega), if_pos (by omega), er]) ?_
  refine l11Turn_l1 l [] l.length j x (by omega) hxl hx c (by omega) (by omega) _ x.length 0 y (by omega) hy (fun z h => by have := hz z h; omega) ?_
  exact l11Turn_l0 l hn ha t (j + 1) _ (c + x.length) (by omega) e2 (by rw [putArcs_length]; exact hy) (putArcs_rows _ x y c hz) (by omega)
theorem l11Turn_ev (l : List (List Int)) (hn : l.length ≤ 1048576) (ha : Arrows l) (ht : tot l ≤ 1099511627776) : Ev (fun k => spec_l11Turn.f k l) (turnedOf l) := by
 refine ev_pos (by omega) (ev_pos (by omega) ?_)
 have e : ((l.length : Int)).toNat = l.length := by omega
 rw [e]
 exact l11Turn_l0 l hn ha l 0 _ 0 (by omega) (by simp) (by simp) (fun z hz => by rw [List.eq_of_mem_replicate hz]; simp) (by omega)
theorem gdE {α : Type} {l : List α} {d : α} {i : Nat} (h : i < l.length) : l.getD i d = l[i] := by rw [List.getD_eq_getElem?_getD, List.getElem?_eq_getElem h, Option.getD_some]
def Ed (g : List (List Int)) (v w : Int) : Prop := 0 ≤ v ∧ v < (g.length : Int) ∧ w ∈ g.getD v.toNat []
inductive Rch (g : List (List Int)) : Int → Int → Prop
 | refl (v : Int) : Rch g v v
 | tail {u v w : Int} : Rch g u v → Ed g v w → Rch g u w
theorem Rch.closed {g : List (List Int)} {X : Int → Prop} (hX : ∀ x y, X x → Ed g x y → X y) {u v : Int} (h : Rch g u v) (hu : X u) : X v := by
 induction h with
 | refl => exact hu
 | tail _ e ih => exact hX _ _ ih e
theorem Rch.trans {g : List (List Int)} {u v w : Int} (h : Rch g u v) (k : Rch g v w) : Rch g u w := by
 induction k with
 | refl => exact h
 | tail _ e ih => exact .tail ih e
theorem Rch.one {g : List (List Int)} {u v : Int} (h : Ed g u v) : Rch g u v := .tail (.refl u) h
theorem Rch.head {g : List (List Int)} {u v w : Int} (h : Ed g u v) (k : Rch g v w) : Rch g u w := (Rch.one h).trans k
theorem Ed.lt {g : List (List Int)} (ha : Arrows g) {u v : Int} (h : Ed g u v) : 0 ≤ v ∧ v < (g.length : Int) := by
 obtain ⟨h0, h1, h2⟩ := h
 exact (ha _ (getD_mem (show u.toNat < g.length by omega) [])).2 v h2
theorem Rch.lt {g : List (List Int)} (ha : Arrows g) {u v : Int} (h : Rch g u v) (hu : 0 ≤ u ∧ u < (g.length : Int)) : 0 ≤ v ∧ v < (g.length : Int) := h.closed (X := fun x => 0 ≤ x ∧ x < (g.length : Int)) (fun _ _ _ e => e.lt ha) hu
def Scc (g : List (List Int)) (u v : Int) : Prop := Rch g u v ∧ Rch g v u
def Least (g : List (List Int)) (v m : Int) : Prop := Scc g v m ∧ ∀ w, Scc g v w → m ≤ w
def IsPart (g : List (List Int)) (out : List Int) : Prop := out.length = g.length ∧ ∀ v : Nat, v < g.length → Least g (v : Int) (out.getD v 0)
theorem Least.uniq {g : List (List Int)} {v m m' : Int} (h : Least g v m) (h' : Least g v m') : m = m' := by
 have h1 := h.2 _ h'.1
 have h2 := h'.2 _ h.1
 omega
theorem IsPart.uniq {g : List (List Int)} {a b : List Int} (h : IsPart g a) (k : IsPart g b) : a = b := by
 refine List.ext_getElem (by rw [h.1, k.1]) fun i h1 h2 => ?_
 have e := (h.2 i (by rw [← h.1]; exact h1)).uniq (k.2 i (by rw [← h.1]; exact h1))
 rwa [gdE h1, gdE h2] at e
theorem mem_putArcs (k : Int) : ∀ (x : List Int) (y : List (List Int)), (∀ w ∈ x, 0 ≤ w ∧ w < (y.length : Int)) → ∀ (j : Nat) (u : Int), u ∈ (putArcs k x y).getD j [] ↔ u ∈ y.getD j [] ∨ (u = k ∧ (j : Int) ∈ x)
 | [], y, _, j, u => by simp [putArcs]
 | w :: x, y, hx, j, u => by
  have hw := hx w (by simp)
  rw [putArcs, mem_putArcs k x _ (by intro z hz; rw [List.length_set]; exact hx z (by simp [hz])) j u]
  by_cases hj : w.toNat = j
  ·subst hj
   have e : ((w.toNat : Nat) : Int) = w := by omega
   rw [e, List.getD_eq_getElem?_getD, List.getElem?_set_self (by omega), Option.getD_some]
   simp only [List.mem_append, List.mem_singleton, List.mem_cons, true_or, and_true]
   constructor
   ·rintro ((h | h) | h)
    ·exact .inl h
    ·exact .inr (by simpa using h)
    ·exact .inr h.1
   ·rintro (h | h)
    ·exact .inl (.inl h)
    ·exact .inl (.inr (by simpa using h))
  ·rw [List.getD_eq_getElem?_getD, List.getElem?_set_ne hj, ← List.getD_eq_getElem?_getD]
   have e : (j : Int) ≠ w := by omega
   simp only [List.mem_cons, e, false_or]
theorem mem_turnFrom : ∀ (l : List (List Int)) (j : Nat) (y : List (List Int)), (∀ x ∈ l, ∀ w ∈ x, 0 ≤ w ∧ w < (y.length : Int)) → ∀ (i : Nat) (u : Int), u ∈ (turnFrom j l y).getD i [] ↔ u ∈ y.getD i [] ∨ ∃ m : Nat, m < l.length ∧ u = ((j + m : Nat) : Int) ∧ (i : Int) ∈ l.getD m []
 | [], j, y, _, i, u => by simp [turnFrom]
 | x :: l, j, y, h, i, u => by
  rw [turnFrom, mem_turnFrom l (j + 1) _ (by intro z hz w hw; rw [putArcs_length]; exact h z (by simp [hz]) w hw) i u, mem_putArcs _ x y (fun w hw => h x (by simp) w hw) i u]
  constructor
  ·rintro ((h1 | ⟨h1, h2⟩) | ⟨m, h1, h2, h3⟩)
   ·exact .inl h1
   ·exact .inr ⟨0, by simp, by simpa using h1, by simpa using h2⟩
   ·exact .inr ⟨m + 1, by simpa using h1, by rw [h2]; congr 1; omega, by simpa using h3⟩
  ·rintro (h1 | ⟨m, h1, h2, h3⟩)
   ·exact .inl (.inl h1)
   ·cases m with
    | zero => exact .inl (.inr ⟨by simpa using h2, by simpa using h3⟩)
    | succ m => exact .inr ⟨m, by simpa using h1, by rw [h2]; congr 1; omega, by simpa using h3⟩
theorem Ed.turned {g : List (List Int)} (ha : Arrows g) {u v : Int} : Ed (turnedOf g) u v ↔ Ed g v u := by
 have key : ∀ i : Nat, i < g.length → ∀ x : Int, x ∈ (turnedOf g).getD i [] ↔ ∃ m : Nat, m < g.length ∧ x = (m : Int) ∧ (i : Int) ∈ g.getD m [] := by
  intro i hi x
  rw [turnedOf, mem_turnFrom g 0 _ (by intro z hz w hw; rw [List.length_replicate]; exact (ha z hz).2 w hw) i x]
  have e : (List.replicate g.length ([] : List Int)).getD i [] = [] := by
   rw [List.getD_eq_getElem?_getD, List.getElem?_replicate]; split <;> rfl
  rw [e]
  simp only [List.not_mem_nil, false_or, Nat.zero_add]
 constructor
 ·rintro ⟨h0, h1, h2⟩
  rw [turnedOf_length] at h1
  obtain ⟨m, h3, h4, h5⟩ := (key u.toNat (by omega) v).1 h2
  have e : ((u.toNat : Nat) : Int) = u := by omega
  rw [e] at h5
  exact ⟨by omega, by omega, by rw [h4]; simpa using h5⟩
 ·intro h
  have hu := h.lt ha
  obtain ⟨h0, h1, h2⟩ := h
  have e : ((u.toNat : Nat) : Int) = u := by omega
  exact ⟨hu.1, by rw [turnedOf_length]; exact hu.2, (key u.toNat (by omega) v).2 ⟨v.toNat, by omega, by omega, by rw [e]; exact h2⟩⟩
theorem Rch.turned {g : List (List Int)} (ha : Arrows g) {u v : Int} (h : Rch (turnedOf g) u v) : Rch g v u := by
 induction h with
 | refl => exact .refl _
 | tail _ e ih => exact Rch.head ((Ed.turned ha).1 e) ih
theorem Rch.turned' {g : List (List Int)} (ha : Arrows g) {u v : Int} (h : Rch g u v) : Rch (turnedOf g) v u := by
 induction h with
 | refl => exact .refl _
 | tail _ e ih => exact Rch.head ((Ed.turned ha).2 e) ih
theorem scc_turned {g : List (List Int)} (ha : Arrows g) (ht : tot g ≤ 1048576) : Arrows (turnedOf g) := fun x hx => by
 refine ⟨by have := turnedOf_rows g x hx; omega, fun w hw => ?_⟩
 obtain ⟨i, hi, e⟩ := List.mem_iff_getElem.1 hx
 have h2 : Ed (turnedOf g) (i : Int) w := ⟨by omega, by omega, by rw [Int.toNat_natCast, gdE hi, e]; exact hw⟩
 have h3 := (Ed.turned ha).1 h2
 exact ⟨h3.1, by rw [turnedOf_length]; exact h3.2.1⟩
def sn (g : List (List Int)) (Sn : List Bool) (x : Int) : Prop := 0 ≤ x ∧ x < (g.length : Int) ∧ Sn.getD x.toNat false = true
theorem bset {l : List Bool} {i j : Nat} : (l.set i true).getD j false = true ↔ (i = j ∧ j < l.length) ∨ l.getD j false = true := by
 rw [List.getD_eq_getElem?_getD, List.getD_eq_getElem?_getD, List.getElem?_set]
 by_cases h : i = j
 ·subst h
  by_cases hl : i < l.length
  ·simp [hl]
  ·simp [hl]
 ·simp [h]
theorem cset : ∀ {l : List Bool} {i : Nat}, i < l.length → l.getD i false = false → (l.set i true).count false + 1 = l.count false
 | [], i, h, _ => by simp at h
 | x :: l, 0, _, h => by
  simp only [List.getD_cons_zero] at h
  subst h
  simp
 | x :: l, i + 1, h, k => by
  have ih := cset (l := l) (i := i) (by simpa using h) (by simpa using k)
  simp only [List.set_cons_succ, List.count_cons]
  omega
structure Wk (g : List (List Int)) (B G : Int → Prop) (Sn : List Bool) (O : List Int) : Prop where
 len : Sn.length = g.length
 a : ∀ x, sn g Sn x ↔ (B x ∨ G x ∨ x ∈ O)
 bb : ∀ x y, B x → Ed g x y → B y
 b : ∀ x y, x ∈ O → Ed g x y → sn g Sn y
 d : ∀ x ∈ O, ¬ B x
 k : ∀ A r C, O = A ++ r :: C → ∀ x ∈ A, Rch g x r → (∃ y ∈ C, Rch g x y) ∨ (∃ y, (G y ∨ B y) ∧ Rch g x y) ∨ Rch g r x
theorem Wk.mono {g : List (List Int)} {B G : Int → Prop} {Sn Sn' : List Bool} {O T : List Int} (h : Wk g B G Sn O) (k : Wk g B G Sn' (O ++ T)) {x : Int} (hx : sn g Sn x) : sn g Sn' x := by
 rw [k.a]
 rcases (h.a x).1 hx with h1 | h1 | h1
 ·exact .inl h1
 ·exact .inr (.inl h1)
 ·exact .inr (.inr (List.mem_append_left _ h1))
theorem Wk.enter {g : List (List Int)} {B G : Int → Prop} {Sn : List Bool} {O : List Int} (h : Wk g B G Sn O) {m : Int} (h0 : 0 ≤ m) (h1 : m < (g.length : Int)) : Wk g B (fun x => G x ∨ x = m) (Sn.set m.toNat true) O where
 len := by rw [List.length_set]; exact h.len
 a x := by
  have hl := h.len
  have hx := h.a x
  constructor
  ·rintro ⟨p, q, r⟩
   rcases bset.1 r with ⟨e, _⟩ | e
   ·exact .inr (.inl (.inr (by omega)))
   ·rcases hx.1 ⟨p, q, e⟩ with h2 | h2 | h2
    ·exact .inl h2
    ·exact .inr (.inl (.inl h2))
    ·exact .inr (.inr h2)
  ·rintro (h2 | (h2 | h2) | h2)
   ·obtain ⟨p, q, r⟩ := hx.2 (.inl h2)
    exact ⟨p, q, bset.2 (.inr r)⟩
   ·obtain ⟨p, q, r⟩ := hx.2 (.inr (.inl h2))
    exact ⟨p, q, bset.2 (.inr r)⟩
   ·subst h2
    exact ⟨h0, h1, bset.2 (.inl ⟨rfl, by omega⟩)⟩
   ·obtain ⟨p, q, r⟩ := hx.2 (.inr (.inr h2))
    exact ⟨p, q, bset.2 (.inr r)⟩
 bb := h.bb
 b x y hx e := by
  obtain ⟨p, q, r⟩ := h.b x y hx e
  exact ⟨p, q, bset.2 (.inr r)⟩
 d := h.d
 k A r C e x hx hr := by
  rcases h.k A r C e x hx hr with h2 | ⟨y, h2, h3⟩ | h2
  ·exact .inl h2
  ·exact .inr (.inl ⟨y, h2.elim (fun h4 => .inl (.inl h4)) .inr, h3⟩)
  ·exact .inr (.inr h2)
theorem Wk.leave {g : List (List Int)} {B G : Int → Prop} {Sn Sn2 : List Bool} {O T : List Int} {m : Int} (h0 : Wk g B G Sn O) (hm : ¬ sn g Sn m) (h : Wk g B (fun x => G x ∨ x = m) Sn2 (O ++ T)) (hT : ∀ x ∈ T, Rch g m x) (hr : ∀ y, Ed g m y → sn g Sn2 y) : Wk g B G Sn2 (O ++ T ++ [m]) where
 len := h.len
 a x := by
  have e1 : x ∈ O ++ T ++ [m] ↔ x ∈ O ++ T ∨ x = m := by simp only [List.mem_append, List.mem_singleton]
  rw [h.a x, e1]
  constructor
  ·rintro (h2 | (h2 | h2) | h2)
   ·exact .inl h2
   ·exact .inr (.inl h2)
   ·exact .inr (.inr (.inr h2))
   ·exact .inr (.inr (.inl h2))
  ·rintro (h2 | h2 | (h2 | h2))
   ·exact .inl h2
   ·exact .inr (.inl (.inl h2))
   ·exact .inr (.inr h2)
   ·exact .inr (.inl (.inr h2))
 bb := h.bb
 b x y hx e := by
  rcases List.mem_append.1 hx with h2 | h2
  ·exact h.b x y h2 e
  ·rw [List.mem_singleton] at h2; subst h2; exact hr y e
 d x hx := by
  rcases List.mem_append.1 hx with h2 | h2
  ·exact h.d x h2
  ·rw [List.mem_singleton] at h2; subst h2
   exact fun hb => hm ((h0.a x).2 (.inl hb))
 k A r C e x hx hxr := by
  rcases List.eq_nil_or_concat C with rfl | ⟨C1, z, rfl⟩
  ·have e2 : O ++ T = A ∧ m = r := by
    have := List.append_inj' e (by simp)
    exact ⟨this.1, by simpa using this.2⟩
   obtain ⟨rfl, rfl⟩ := e2
   rcases List.mem_append.1 hx with h2 | h2
   ·refine Classical.byContradiction fun hn => ?_
    have hng : ¬ ∃ y, (G y ∨ B y) ∧ Rch g x y := fun h4 => hn (.inr (.inl h4))
    have key := hxr.closed (X := fun y => y ∈ O ∧ Rch g x y) (fun y z hy e' => by
     have hz := h0.b y z hy.1 e'
     have hxz := hy.2.tail e'
     rcases (h0.a z).1 hz with h5 | h5 | h5
     ·exact absurd ⟨z, .inr h5, hxz⟩ hng
     ·exact absurd ⟨z, .inl h5, hxz⟩ hng
     ·exact ⟨h5, hxz⟩) ⟨h2, .refl x⟩
    exact hm ((h0.a m).2 (.inr (.inr key.1)))
   ·exact .inr (.inr (hT x h2))
  ·have e2 : O ++ T = A ++ r :: C1 ∧ m = z := by
    rw [List.concat_eq_append] at e
    have e3 : O ++ T ++ [m] = (A ++ r :: C1) ++ [z] := by rw [e]; simp
    have := List.append_inj' e3 (by simp)
    exact ⟨this.1, by simpa using this.2⟩
   obtain ⟨e3, rfl⟩ := e2
   rcases h.k A r C1 e3 x hx hxr with ⟨y, h2, h3⟩ | ⟨y, h2, h3⟩ | h2
   ·exact .inl ⟨y, by simp [h2], h3⟩
   ·rcases h2 with (h2 | h2) | h2
    ·exact .inr (.inl ⟨y, .inl h2, h3⟩)
    ·subst h2; exact .inl ⟨y, by simp, h3⟩
    ·exact .inr (.inl ⟨y, .inr h2, h3⟩)
   ·exact .inr (.inr h2)
theorem walk_ev {g : List (List Int)} (hg : g.length ≤ 1048576) (ha : Arrows g) (B : Int → Prop) : ∀ (u : Nat) (G : Int → Prop) (Sn : List Bool) (O : List Int) (m : Int), Sn.count false ≤ u → O.length + Sn.count false ≤ 2097152 → 0 ≤ m → m < (g.length : Int) → Wk g B G Sn O →
  ∃ Sn' T, Ev (fun k => spec_walk.f k g m Sn O) (Sn', O ++ T) ∧ Wk g B G Sn' (O ++ T) ∧ (∀ x ∈ T, Rch g m x) ∧ sn g Sn' m ∧ Sn'.count false ≤ Sn.count false ∧ (O ++ T).length + Sn'.count false ≤ O.length + Sn.count false := by
 intro u
 induction u with
 | zero =>
  intro G Sn O m hu hb h0 h1 hw
  by_cases hs : Sn.getD m.toNat false = true
  ·exact ⟨Sn, [], ev_eq (Ev.step (f := fun _ => some (Sn, O)) (fun k => by simp only [spec_walk.f]; rw [if_pos ⟨h0, h1⟩, if_pos hs]) (Ev.now _)) (by simp), by simpa using hw, by simp, ⟨h0, h1, hs⟩, Nat.le_refl _, by simp⟩
  ·have := cset (l := Sn) (i := m.toNat) (by rw [hw.len]; omega) (Bool.eq_false_iff.mpr hs)
   omega
 | succ u ih =>
  intro G Sn O m hu hb h0 h1 hw
  by_cases hs : Sn.getD m.toNat false = true
  ·exact ⟨Sn, [], ev_eq (Ev.step (f := fun _ => some (Sn, O)) (fun k => by simp only [spec_walk.f]; rw [if_pos ⟨h0, h1⟩, if_pos hs]) (Ev.now _)) (by simp), by simpa using hw, by simp, ⟨h0, h1, hs⟩, Nat.le_refl _, by simp⟩
  ·have hc := cset (l := Sn) (i := m.toNat) (by rw [hw.len]; omega) (Bool.eq_false_iff.mpr hs)
   have er : rd_L1 g m = g.getD m.toNat [] := by simp [rd_L1]
   generalize hrow : g.getD m.toNat [] = row at er
   have hmem : row ∈ g := hrow ▸ getD_mem (show m.toNat < g.length by omega) []
   obtain ⟨hrl, hrr⟩ := ha row hmem
   have hed : ∀ y, Ed g m y ↔ y ∈ row := fun y => ⟨fun e => hrow ▸ e.2.2, fun e => ⟨h0, h1, by rw [hrow]; exact e⟩⟩
   have loop : ∀ (d i : Nat) (Sn1 : List Bool) (T1 : List Int), i + d = row.length → Sn1.count false ≤ u → Wk g B (fun x => G x ∨ x = m) Sn1 (O ++ T1) → (∀ x ∈ T1, Rch g m x) → (O ++ T1).length + Sn1.count false ≤ 2097152 → (∀ j, j < i → sn g Sn1 (row.getD j 0)) →
     ∃ Sn2 T2, Ev (fun k => spec_walk.l0 k g row (i : Int) Sn1 (O ++ T1)) (Sn2, O ++ T2) ∧ Wk g B (fun x => G x ∨ x = m) Sn2 (O ++ T2) ∧ (∀ x ∈ T2, Rch g m x) ∧ (∀ j, j < row.length → sn g Sn2 (row.getD j 0)) ∧ Sn2.count false ≤ Sn1.count false ∧ (O ++ T2).length + Sn2.count false ≤ (O ++ T1).length + Sn1.count false := by
    intro d
    induction d with
    | zero =>
     intro i Sn1 T1 hi hu1 hw1 hT1 hb1 hj
     exact ⟨Sn1, T1, Ev.step (f := fun _ => some (Sn1, O ++ T1)) (fun k => by simp only [spec_walk.l0]; rw [if_neg (by omega)]) (Ev.now _), hw1, hT1, fun j h => hj j (by omega), Nat.le_refl _, Nat.le_refl _⟩
    | succ d ihd =>
     intro i Sn1 T1 hi hu1 hw1 hT1 hb1 hj
     have hil : i < row.length := by omega
     obtain ⟨r0, r1⟩ := hrr _ (getD_mem hil 0)
     obtain ⟨Sn2, T, e1, hw2, hT, hs2, hc2, hl2⟩ := ih (fun x => G x ∨ x = m) Sn1 (O ++ T1) (row.getD i 0) hu1 hb1 r0 r1 hw1
     rw [List.append_assoc] at e1 hw2 hl2
     have hw2' : Wk g B (fun x => G x ∨ x = m) Sn2 ((O ++ T1) ++ T) := by rw [List.append_assoc]; exact hw2
     have hstep : Rch g m (row.getD i 0) := Rch.one ((hed _).2 (getD_mem hil 0))
     obtain ⟨Sn3, T3, e3, hw3, hT3, hj3, hc3, hl3⟩ := ihd (i + 1) Sn2 (T1 ++ T) (by omega) (by omega) hw2 (fun x hx => (List.mem_append.1 hx).elim (hT1 x) (fun h => hstep.trans (hT x h))) (by omega) (fun j hji => by
      by_cases hje : j = i
      ·subst hje; exact hs2
      ·exact hw1.mono hw2' (hj j (by omega)))
     refine ⟨Sn3, T3, ?_, hw3, hT3, hj3, by omega, by omega⟩
     refine Ev.step (fun k => by simp only [spec_walk.l0]; rw [if_pos (by omega), if_pos (by omega), rd_nat, wsucc (by omega)]) ?_
     exact Ev.bind e1 e3
   obtain ⟨Sn2, T2, e2, hw2, hT2, hj2, hc2, hl2⟩ := loop row.length 0 (Sn.set m.toNat true) [] (by omega) (by omega) (by simpa using hw.enter h0 h1) (by simp) (by simp; omega) (fun j h => absurd h (Nat.not_lt_zero j))
   rw [List.append_nil] at hl2
   have hns : ¬ sn g Sn m := fun h => hs h.2.2
   have hlv := hw.leave hns hw2 hT2 (fun y e => by
    obtain ⟨j, hj, ej⟩ := List.mem_iff_getElem.1 ((hed y).1 e)
    have := hj2 j hj
    rwa [gdE hj, ej] at this)
   have hlen : (O ++ T2).length < 17592186044416 := by omega
   refine ⟨Sn2, T2 ++ [m], ?_, by rw [← List.append_assoc]; exact hlv, fun x hx => ?_, hlv.a m |>.2 (.inr (.inr (by simp))), by omega, by rw [← List.append_assoc, List.length_append, List.length_singleton]; omega⟩
   ·refine Ev.step (fun k => by simp only [spec_walk.f]; rw [if_pos ⟨h0, h1⟩, if_neg hs, er]) ?_
    have e3 : Ev (fun k => spec_walk.l0 k g row 0 (Sn.set m.toNat true) O) (Sn2, O ++ T2) := by simpa using e2
    refine Ev.bind e3 ?_
    refine ev_eq (ev_pos hlen (Ev.now _)) (by simp)
   ·rcases List.mem_append.1 hx with h | h
    ·exact hT2 x h
    ·rw [List.mem_singleton] at h; subst h; exact .refl x
theorem l11_w (g : List (List Int)) (hg : g.length ≤ 1048576) (ha : Arrows g) (d : Nat) : ∀ (i : Nat) (Sn : List Bool) (O : List Int), i + d = g.length → O.length + Sn.count false ≤ 2097152 → Wk g (fun _ => False) (fun _ => False) Sn O → (∀ j : Nat, j < i → sn g Sn (j : Int)) →
  ∃ O', Ev (fun k => spec_l11Parts.w k g (i : Int) Sn O) O' ∧ O'.length ≤ 2097152 ∧ ∃ Sn', Wk g (fun _ => False) (fun _ => False) Sn' O' ∧ ∀ j : Nat, j < g.length → sn g Sn' (j : Int) := by
 induction d with
 | zero =>
  intro i Sn O hi hb hw hj
  exact ⟨O, Ev.step (f := fun _ => some O) (fun k => by simp only [spec_l11Parts.w]; rw [if_neg (by omega)]) (Ev.now _), by omega, Sn, hw, fun j h => hj j (by omega)⟩
 | succ d ih =>
  intro i Sn O hi hb hw hj
  obtain ⟨Sn1, T, e1, hw1, _, hs1, hc1, hl1⟩ := walk_ev hg ha (fun _ => False) (Sn.count false) (fun _ => False) Sn O (i : Int) (Nat.le_refl _) hb (by omega) (by omega) hw
  obtain ⟨O', e2, hO, hw2⟩ := ih (i + 1) Sn1 (O ++ T) (by omega) (by omega) hw1 (fun j h => by
   by_cases hji : j = i
   ·subst hji; exact hs1
   ·exact hw.mono hw1 (hj j (by omega)))
  exact ⟨O', Ev.step (fun k => by simp only [spec_l11Parts.w]; rw [if_pos (by omega), wsucc (by omega)]) (Ev.bind e1 e2), hO, hw2⟩
theorem l11_m (row : List Int) (hr : row.length ≤ 4194304) (d : Nat) : ∀ (i : Nat) (l : Int), i + d = row.length → ∃ l', Ev (fun k => spec_l11Parts.m k row (i : Int) l) l' ∧ (l' = l ∨ l' ∈ row) ∧ l' ≤ l ∧ ∀ j, i ≤ j → j < row.length → l' ≤ row.getD j 0 := by
 induction d with
 | zero =>
  intro i l hi
  exact ⟨l, Ev.step (f := fun _ => some l) (fun k => by simp only [spec_l11Parts.m]; rw [if_neg (by omega)]) (Ev.now _), .inl rfl, Int.le_refl _, fun j h1 h2 => by omega⟩
 | succ d ih =>
  intro i l hi
  obtain ⟨l', e, h1, h2, h3⟩ := ih (i + 1) (if row.getD i 0 < l then row.getD i 0 else l) (by omega)
  refine ⟨l', Ev.step (fun k => by simp only [spec_l11Parts.m]; rw [if_pos (by omega), if_pos (by omega), rd_nat, wsucc (by omega)]) e, ?_, ?_, fun j h4 h5 => ?_⟩
  ·rcases h1 with h1 | h1
   ·split at h1
    ·exact .inr (h1 ▸ getD_mem (by omega) 0)
    ·exact .inl h1
   ·exact .inr h1
  ·split at h2 <;> omega
  ·by_cases hj : j = i
   ·subst hj; split at h2 <;> omega
   ·exact h3 j (by omega) h5
theorem l11_s (row : List Int) (hr : row.length ≤ 4194304) (l : Int) (n : Nat) (hx : ∀ x ∈ row, 0 ≤ x ∧ x < (n : Int)) (d : Nat) : ∀ (i : Nat) (out : List Int), i + d = row.length → out.length = n →
  ∃ out', Ev (fun k => spec_l11Parts.s k row (i : Int) l out) out' ∧ out'.length = n ∧ ∀ v : Nat, v < n → out'.getD v 0 = if (v : Int) ∈ row.drop i then l else out.getD v 0 := by
 induction d with
 | zero =>
  intro i out hi ho
  refine ⟨out, Ev.step (f := fun _ => some out) (fun k => by simp only [spec_l11Parts.s]; rw [if_neg (by omega)]) (Ev.now _), ho, fun v _ => ?_⟩
  rw [List.drop_of_length_le (by omega), if_neg (by simp)]
 | succ d ih =>
  intro i out hi ho
  obtain ⟨x0, x1⟩ := hx _ (getD_mem (show i < row.length by omega) 0)
  obtain ⟨out', e, h1, h2⟩ := ih (i + 1) (out.set (row.getD i 0).toNat l) (by omega) (by rw [List.length_set]; exact ho)
  refine ⟨out', Ev.step (fun k => by simp only [spec_l11Parts.s]; rw [if_pos (by omega), rd_nat, if_pos ⟨by omega, x0, by omega⟩, wsucc (by omega)]) e, h1, fun v hv => ?_⟩
  rw [h2 v hv, drop_cons (show i < row.length by omega) 0, getD_set]
  by_cases c : (v : Int) ∈ row.drop (i + 1)
  ·rw [if_pos c, if_pos (by simp [c])]
  ·rw [if_neg c]
   by_cases c2 : (v : Int) = row.getD i 0
   ·rw [if_pos ⟨by omega, by omega⟩, if_pos (by simp [c2])]
   ·rw [if_neg (by omega), if_neg (by simp only [List.mem_cons, c2, c, or_self]; exact fun h => h)]
theorem l11_o (g : List (List Int)) (hg : g.length ≤ 1048576) (ha : Arrows g) (ht : tot g ≤ 1048576) (O : List Int) (hO : O.length ≤ 2097152) {SnF : List Bool} (hw : Wk g (fun _ => False) (fun _ => False) SnF O) (hall : ∀ x : Int, 0 ≤ x → x < (g.length : Int) → x ∈ O) (hin : ∀ x ∈ O, 0 ≤ x ∧ x < (g.length : Int)) : ∀ (c : Nat) (A D : List Int) (Sn : List Bool) (out : List Int), A.length = c → O = A ++ D → out.length = g.length → Sn.length = g.length →
  (∀ x, sn g Sn x ↔ (0 ≤ x ∧ x < (g.length : Int)) ∧ ∃ r ∈ D, Rch g x r) → (∀ v : Nat, sn g Sn (v : Int) → Least g (v : Int) (out.getD v 0)) → ∃ out', Ev (fun k => spec_l11Parts.o k O (turnedOf g) ((c : Int) - 1) Sn out) out' ∧ IsPart g out' := by
 intro c
 induction c with
 | zero =>
  intro A D Sn out hA hOD ho hS hch hl
  have hA0 : A = [] := List.eq_nil_of_length_eq_zero hA
  subst hA0
  refine ⟨out, Ev.step (f := fun _ => some out) (fun k => by simp only [spec_l11Parts.o]; rw [if_neg (by omega)]) (Ev.now _), ho, fun v hv => hl v ((hch v).2 ⟨⟨by omega, by omega⟩, (v : Int), ?_, .refl _⟩)⟩
  have := hall (v : Int) (by omega) (by omega)
  rwa [hOD] at this
 | succ c ih =>
  intro A D Sn out hA hOD ho hS hch hl
  rcases List.eq_nil_or_concat A with rfl | ⟨A1, r, rfl⟩
  ·simp at hA
  rw [List.concat_eq_append] at hA hOD
  have hA1 : A1.length = c := by simpa using hA
  have hOD' : O = A1 ++ r :: D := by rw [hOD]; simp
  have hrO : r ∈ O := by rw [hOD']; simp
  obtain ⟨r0, r1⟩ := hin r hrO
  have hML := turnedOf_length g
  have haM := scc_turned ha ht
  have esn : ∀ S x, sn (turnedOf g) S x ↔ sn g S x := fun S x => by unfold sn; rw [hML]
  have hrd : rd O (c : Int) = r := by
   rw [rd_nat, hOD', List.getD_eq_getElem?_getD, List.getElem?_append_right (by omega)]
   simp [hA1]
  have hOl : c < O.length := by rw [hOD']; simp; omega
  have hwM : Wk (turnedOf g) (sn g Sn) (fun _ => False) Sn [] :=
   ⟨by rw [hS, hML], fun x => by rw [esn]; simp, fun x y hx e => by
    obtain ⟨_, r', h2, h3⟩ := (hch x).1 hx
    have e2 := (Ed.turned ha).1 e
    exact (hch y).2 ⟨⟨e2.1, e2.2.1⟩, r', h2, Rch.head e2 h3⟩, by simp, by simp, fun A' r' C' e => by simp at e⟩
  have hcl : Sn.count false ≤ Sn.length := List.count_le_length
  obtain ⟨Sn', T, e1, hwT, hTr, hsr, hc1, hl1⟩ := walk_ev (by omega) haM (sn g Sn) (Sn.count false) (fun _ => False) Sn [] r (Nat.le_refl _) (by simp; omega) r0 (by omega) hwM
  rw [List.nil_append] at e1 hwT hl1
  have hTl : T.length ≤ 4194304 := by simp at hl1; omega
  have hTg : ∀ x ∈ T, Rch g x r := fun x hx => (hTr x hx).turned ha
  have hTs : ∀ x ∈ T, sn g Sn' x := fun x hx => (esn _ _).1 ((hwT.a x).2 (.inr (.inr hx)))
  have hTi : ∀ x ∈ T, 0 ≤ x ∧ x < (g.length : Int) := fun x hx => ⟨(hTs x hx).1, (hTs x hx).2.1⟩
  have hch' : ∀ x, sn g Sn' x ↔ (0 ≤ x ∧ x < (g.length : Int)) ∧ ∃ r' ∈ r :: D, Rch g x r' := by
   intro x
   constructor
   ·intro hx
    refine ⟨⟨hx.1, hx.2.1⟩, ?_⟩
    rcases (hwT.a x).1 ((esn _ _).2 hx) with h2 | h2 | h2
    ·obtain ⟨_, r', h3, h4⟩ := (hch x).1 h2
     exact ⟨r', by simp [h3], h4⟩
    ·exact h2.elim
    ·exact ⟨r, by simp, hTg x h2⟩
   ·rintro ⟨hx, r', h2, h3⟩
    rcases List.mem_cons.1 h2 with rfl | h2
    ·have := (h3.turned' ha).closed (X := sn (turnedOf g) Sn') (fun y z hy e => by
      rcases (hwT.a y).1 hy with h4 | h4 | h4
      ·exact (hwT.a z).2 (.inl (hwT.bb y z h4 e))
      ·exact h4.elim
      ·exact hwT.b y z h4 e) hsr
     exact (esn _ _).1 this
    ·exact (esn _ _).1 ((hwT.a x).2 (.inl ((hch x).2 ⟨hx, r', h2, h3⟩)))
  have hTn : ∀ x ∈ T, ∀ r' ∈ D, ¬ Rch g x r' := fun x hx r' hr' h => hwT.d x hx ((hch x).2 ⟨hTi x hx, r', hr', h⟩)
  have hback : ∀ x ∈ T, Rch g r x := fun x hx => by
   have hxO := hall x (hTi x hx).1 (hTi x hx).2
   rw [hOD'] at hxO
   rcases List.mem_append.1 hxO with h2 | h2
   ·rcases hw.k A1 r D hOD' x h2 (hTg x hx) with ⟨y, h3, h4⟩ | ⟨y, h3, _⟩ | h3
    ·exact absurd h4 (hTn x hx y h3)
    ·exact (h3.elim id id).elim
    ·exact h3
   ·rcases List.mem_cons.1 h2 with rfl | h2
    ·exact .refl _
    ·exact absurd (.refl x) (hTn x hx x h2)
  obtain ⟨l, e2, hl2, hl3, hl4⟩ := l11_m T hTl T.length 0 ((turnedOf g).length : Int) (by omega)
  obtain ⟨out2, e3, ho2, ho3⟩ := l11_s T hTl l g.length hTi T.length 0 out (by omega) ho
  obtain ⟨out', e4, hp⟩ := ih A1 (r :: D) Sn' out2 hA1 hOD' ho2 (by rw [hwT.len, hML]) hch' (fun v hv => by
   rw [ho3 v (by have := hv.2.1; omega), List.drop_zero]
   by_cases hvT : (v : Int) ∈ T
   ·rw [if_pos hvT]
    have hle : ∀ w ∈ T, l ≤ w := fun w hw' => by
     obtain ⟨j, hj, ej⟩ := List.mem_iff_getElem.1 hw'
     have := hl4 j (by omega) hj
     rwa [gdE hj, ej] at this
    have hlT : l ∈ T := by
     rcases hl2 with h2 | h2
     ·have h3 := hle _ hvT
      have h4 := (hTi _ hvT).2
      omega
     ·exact h2
    refine ⟨⟨(hTg _ hvT).trans (hback l hlT), (hTg l hlT).trans (hback _ hvT)⟩, fun w hsw => ?_⟩
    have hwr := hsw.1.lt ha (hTi _ hvT)
    have hws := (hch' w).2 ⟨hwr, r, by simp, hsw.2.trans (hTg _ hvT)⟩
    rcases (hwT.a w).1 ((esn _ _).2 hws) with h2 | h2 | h2
    ·obtain ⟨_, r', h3, h4⟩ := (hch w).1 h2
     exact absurd (hsw.1.trans h4) (hTn _ hvT r' h3)
    ·exact h2.elim
    ·exact hle w h2
   ·rw [if_neg hvT]
    refine hl v ?_
    rcases (hwT.a (v : Int)).1 ((esn _ _).2 hv) with h2 | h2 | h2
    ·exact h2
    ·exact h2.elim
    ·exact absurd h2 hvT)
  refine ⟨out', Ev.step (fun k => by simp only [spec_l11Parts.o]; rw [if_pos (by omega), if_pos (by omega), show ((c + 1 : Nat) : Int) - 1 = (c : Int) by omega, hrd]) ?_, hp⟩
  refine Ev.bind e1 (Ev.bind e2 (Ev.bind e3 ?_))
  have hwr : wrap64 ((c : Int) - 1) = (c : Int) - 1 := by unfold wrap64; omega
  simp only [hwr]
  exact e4
theorem l11Parts_ev (g : List (List Int)) (hg : g.length ≤ 1048576) (ha : Arrows g) (ht : tot g ≤ 1048576) : ∃ out, Ev (fun k => spec_l11Parts.f k g) out ∧ IsPart g out := by
 have h0 : Wk g (fun _ => False) (fun _ => False) (List.replicate g.length false) [] :=
  ⟨by simp, fun x => ⟨fun h => by
   have := h.2.2
   rw [List.getD_eq_getElem?_getD, List.getElem?_replicate] at this
   split at this <;> simp at this, fun h => by simp at h⟩, fun _ _ h => h.elim, by simp, by simp, fun A r C e => by simp at e⟩
 have hcl : (List.replicate g.length false).count false ≤ g.length := by have := List.count_le_length (a := false) (l := List.replicate g.length false); rw [List.length_replicate] at this; exact this
 obtain ⟨O, e1, hO, SnF, hw, hs⟩ := l11_w g hg ha g.length 0 (List.replicate g.length false) [] (by omega) (by simp; omega) h0 (fun j h => absurd h (Nat.not_lt_zero j))
 have hall : ∀ x : Int, 0 ≤ x → x < (g.length : Int) → x ∈ O := fun x x0 x1 => by
  have := hs x.toNat (by omega)
  rw [show ((x.toNat : Nat) : Int) = x by omega] at this
  rcases (hw.a x).1 this with h | h | h
  ·exact h.elim
  ·exact h.elim
  ·exact h
 have hin : ∀ x ∈ O, 0 ≤ x ∧ x < (g.length : Int) := fun x hx => by
  have := (hw.a x).2 (.inr (.inr hx))
  exact ⟨this.1, this.2.1⟩
 obtain ⟨out, e2, hp⟩ := l11_o g hg ha ht O hO hw hall hin O.length O [] (List.replicate g.length false) (List.replicate g.length 0) rfl (by simp) (by simp) (by simp) (fun x => ⟨fun h => by
   rcases (h0.a x).1 h with h2 | h2 | h2
   ·exact h2.elim
   ·exact h2.elim
   ·simp at h2, fun h => by simp at h⟩) (fun v h => by
   rcases (h0.a (v : Int)).1 h with h2 | h2 | h2
   ·exact h2.elim
   ·exact h2.elim
   ·simp at h2)
 refine ⟨out, ev_pos hg (Ev.bind e1 (Ev.bind (l11Turn_ev g hg ha (by omega)) (ev_pos (turnedOf_length g) ?_))), hp⟩
 have hwr : wrap64 ((O.length : Int) - 1) = (O.length : Int) - 1 := by unfold wrap64; omega
 simp only [hwr]
 exact e2
theorem rdset {l : List Int} {i x a : Int} (h0 : 0 ≤ i) (h1 : i < (l.length : Int)) (hx : 0 ≤ x) : rd (l.set i.toNat a) x = if x = i then a else rd l x := by
 unfold rd
 rw [getD_set]
 by_cases h : x = i
 ·subst h; rw [if_pos ⟨rfl, by omega⟩, if_pos rfl]
 ·rw [if_neg (by omega), if_neg h]
theorem cset0 {a : Int} (ha : a ≠ 0) : ∀ {l : List Int} {i : Nat}, i < l.length → l.getD i 0 = 0 → (l.set i a).count 0 + 1 = l.count 0
 | [], i, h, _ => by simp at h
 | x :: l, 0, _, h => by
  simp only [List.getD_cons_zero] at h
  subst h
  simp [ha]
 | x :: l, i + 1, h, k => by
  have ih := cset0 ha (l := l) (i := i) (by simpa using h) (by simpa using k)
  simp only [List.set_cons_succ, List.count_cons]
  omega
def InR (g : List (List Int)) (x : Int) : Prop := 0 ≤ x ∧ x < (g.length : Int)
structure Tj (g : List (List Int)) (G : Int → Prop) (F P S : List Int) (vis : Int) : Prop where
 lF : F.length = g.length
 lP : P.length = g.length
 vz : vis + (F.count 0 : Int) = g.length
 v0 : 0 ≤ vis
 fn : ∀ x, InR g x → 0 ≤ rd F x ∧ rd F x ≤ vis
 sl : (S.length : Int) ≤ vis
 s : ∀ x, x ∈ S ↔ InR g x ∧ rd F x ≠ 0 ∧ rd P x < 0
 inc : S.Pairwise (fun a b => rd F a < rd F b)
 gs : ∀ x, G x → x ∈ S
 up : ∀ a ∈ S, ∀ b ∈ S, rd F a ≤ rd F b → Rch g a b
 dn : ∀ b ∈ S, ∃ a, G a ∧ rd F a ≤ rd F b ∧ Rch g b a
 bl : ∀ x y, InR g x → rd F x ≠ 0 → ¬ G x → Ed g x y → rd F y ≠ 0
 cl : ∀ x y, InR g x → 0 ≤ rd P x → Ed g x y → 0 ≤ rd P y
 pf : ∀ x, InR g x → 0 ≤ rd P x → rd F x ≠ 0
 ls : ∀ x, InR g x → 0 ≤ rd P x → Least g x (rd P x)
theorem Tj.push {g : List (List Int)} {G : Int → Prop} {F P S : List Int} {vis : Int} (h : Tj g G F P S vis) {v : Int} (hv : InR g v) (hz : rd F v = 0) (hG : ∀ a, G a → Rch g a v) : Tj g (fun x => G x ∨ x = v) (F.set v.toNat (vis + 1)) P (S ++ [v]) (vis + 1) := by
 have hv0 := h.v0
 have hset : ∀ x, 0 ≤ x → rd (F.set v.toNat (vis + 1)) x = if x = v then vis + 1 else rd F x := fun x hx => rdset hv.1 (by rw [h.lF]; exact hv.2) hx
 have hne : ∀ x ∈ S, x ≠ v := fun x hx e => ((h.s x).1 hx).2.1 (e ▸ hz)
 have hS : ∀ x ∈ S, rd (F.set v.toNat (vis + 1)) x = rd F x := fun x hx => by rw [hset x ((h.s x).1 hx).1.1, if_neg (hne x hx)]
 have hV : rd (F.set v.toNat (vis + 1)) v = vis + 1 := by rw [hset v hv.1, if_pos rfl]
 have hfS : ∀ x ∈ S, rd F x ≤ vis := fun x hx => (h.fn x ((h.s x).1 hx).1).2
 have hcs := cset0 (a := vis + 1) (by omega) (l := F) (i := v.toNat) (by rw [h.lF]; have := hv.1; have := hv.2; omega) hz
 have hmem : ∀ x, x ∈ S ++ [v] ↔ x ∈ S ∨ x = v := fun x => by simp
 have hpv : rd P v < 0 := Classical.byContradiction fun hn => h.pf v hv (by omega) hz
 refine ⟨by rw [List.length_set]; exact h.lF, h.lP, by have := h.vz; omega, by omega, fun x hx => ?_, by rw [List.length_append, List.length_singleton]; have := h.sl; omega, fun x => ?_, ?_, fun x hx => ?_, ?_, ?_, ?_, h.cl, fun x hx hp => ?_, h.ls⟩
 ·rw [hset x hx.1]
  have := h.fn x hx
  split <;> omega
 ·rw [hmem]
  constructor
  ·rintro (hx | rfl)
   ·have := (h.s x).1 hx
    exact ⟨this.1, by rw [hS x hx]; exact this.2.1, this.2.2⟩
   ·exact ⟨hv, by rw [hV]; omega, hpv⟩
  ·rintro ⟨h1, h2, h3⟩
   by_cases e : x = v
   ·exact .inr e
   ·rw [hset x h1.1, if_neg e] at h2
    exact .inl ((h.s x).2 ⟨h1, h2, h3⟩)
 ·rw [List.pairwise_append]
  refine ⟨h.inc.imp_of_mem (fun {a b} ha hb hab => by rw [hS a ha, hS b hb]; exact hab), List.pairwise_singleton _ _, fun a ha b hb => ?_⟩
  rw [List.mem_singleton] at hb
  subst hb
  rw [hS a ha, hV]
  have := hfS a ha
  omega
 ·rw [hmem]
  exact hx.imp (h.gs x) id
 ·intro a ha b hb hab
  rcases (hmem a).1 ha with ha1 | rfl
  ·rcases (hmem b).1 hb with hb1 | rfl
   ·rw [hS a ha1, hS b hb1] at hab
    exact h.up a ha1 b hb1 hab
   ·obtain ⟨a', h1, _, h3⟩ := h.dn a ha1
    exact h3.trans (hG a' h1)
  ·rcases (hmem b).1 hb with hb1 | rfl
   ·rw [hV, hS b hb1] at hab
    have := hfS b hb1
    omega
   ·exact .refl _
 ·intro b hb
  rcases (hmem b).1 hb with hb | rfl
  ·obtain ⟨a', h1, h2, h3⟩ := h.dn b hb
   exact ⟨a', .inl h1, by rw [hS b hb, hS a' (h.gs a' h1)]; exact h2, h3⟩
  ·exact ⟨b, .inr rfl, Int.le_refl _, .refl _⟩
 ·intro x y hx h1 h2 e
  have hxv : x ≠ v := fun e' => h2 (.inr e')
  rw [hset x hx.1, if_neg hxv] at h1
  have hy := h.bl x y hx h1 (fun hg => h2 (.inl hg)) e
  by_cases e2 : y = v
  ·rw [e2, hV]; omega
  ·by_cases hy0 : 0 ≤ y
   ·rw [hset y hy0, if_neg e2]; exact hy
   ·unfold rd at hy ⊢
    rw [getD_set]
    split
    ·omega
    ·exact hy
 ·rw [hset x hx.1]
  split
  ·omega
  ·exact h.pf x hx hp
theorem Tj.leave {g : List (List Int)} {G : Int → Prop} {F P S : List Int} {vis v : Int} (h : Tj g (fun x => G x ∨ x = v) F P S vis) {z : Int} (hz : z ∈ S) (hlt : rd F z < rd F v) (hr : Rch g v z) (hb : ∀ y, Ed g v y → rd F y ≠ 0) : Tj g G F P S vis :=
 { h with
  gs := fun x hx => h.gs x (.inl hx)
  dn := fun b hb' => by
   obtain ⟨a, h1, h2, h3⟩ := h.dn b hb'
   rcases h1 with h1 | rfl
   ·exact ⟨a, h1, h2, h3⟩
   ·obtain ⟨a', k1, k2, k3⟩ := h.dn z hz
    rcases k1 with k1 | rfl
    ·exact ⟨a', k1, by omega, h3.trans (hr.trans k3)⟩
    ·omega
  bl := fun x y hx h1 h2 e => by
   by_cases e2 : x = v
   ·subst e2; exact hb y e
   ·exact h.bl x y hx h1 (fun h3 => h3.elim h2 e2) e }
theorem Tj.pop {g : List (List Int)} (ha : Arrows g) {G : Int → Prop} {F P S0 T : List Int} {vis v : Int} (h : Tj g (fun x => G x ∨ x = v) F P (S0 ++ v :: T) vis) (hG : ∀ x, G x → x ∈ S0) (hcr : ∀ x ∈ v :: T, ∀ y ∈ S0, ¬ Ed g x y) (hb : ∀ y, Ed g v y → rd F y ≠ 0)
  {m : Int} (hm : m ∈ v :: T) (hml : ∀ x ∈ v :: T, m ≤ x) {P2 : List Int} (hl2 : P2.length = g.length) (hP2 : ∀ x, InR g x → rd P2 x = if x ∈ v :: T then m else rd P x) : Tj g G F P2 S0 vis := by
 have hin : ∀ x ∈ v :: T, x ∈ S0 ++ v :: T := fun x hx => List.mem_append_right _ hx
 have hi0 : ∀ x ∈ S0, x ∈ S0 ++ v :: T := fun x hx => List.mem_append_left _ hx
 have hpw := List.pairwise_append.1 h.inc
 have hlt : ∀ x ∈ S0, ∀ y ∈ v :: T, rd F x < rd F y := fun x hx y hy => hpw.2.2 x hx y hy
 have hvT : ∀ x ∈ v :: T, rd F v ≤ rd F x := fun x hx => by
  rcases List.mem_cons.1 hx with rfl | hx
  ·exact Int.le_refl _
  ·exact Int.le_of_lt ((List.pairwise_cons.1 hpw.2.1).1 x hx)
 have hdis : ∀ x ∈ S0, x ∉ v :: T := fun x hx hx2 => by have := hlt x hx x hx2; omega
 have hR : ∀ x ∈ v :: T, InR g x := fun x hx => ((h.s x).1 (hin x hx)).1
 have hvm : v ∈ v :: T := List.mem_cons_self
 have hX : ∀ x y, (x ∈ v :: T ∨ (InR g x ∧ 0 ≤ rd P x)) → Ed g x y → (y ∈ v :: T ∨ (InR g y ∧ 0 ≤ rd P y)) := by
  intro x y hx e
  have hy : InR g y := e.lt ha
  rcases hx with hx | ⟨hx, hp⟩
  ·by_cases hp : 0 ≤ rd P y
   ·exact .inr ⟨hy, hp⟩
   ·have hf : rd F y ≠ 0 := by
     by_cases e2 : x = v
     ·subst e2; exact hb y e
     ·refine h.bl x y (hR x hx) ((h.s x).1 (hin x hx)).2.1 (fun h3 => ?_) e
      rcases h3 with h3 | h3
      ·exact hdis x (hG x h3) hx
      ·exact e2 h3
    have hyS := (h.s y).2 ⟨hy, hf, by omega⟩
    rcases List.mem_append.1 hyS with h3 | h3
    ·exact absurd e (hcr x hx y h3)
    ·exact .inl h3
  ·exact .inr ⟨hy, h.cl x y hx hp e⟩
 have hclo : ∀ x y, Rch g x y → (x ∈ v :: T ∨ (InR g x ∧ 0 ≤ rd P x)) → (y ∈ v :: T ∨ (InR g y ∧ 0 ≤ rd P y)) := fun x y hr hx => hr.closed (X := fun y => y ∈ v :: T ∨ (InR g y ∧ 0 ≤ rd P y)) hX hx
 have hto : ∀ x ∈ v :: T, Rch g v x := fun x hx => h.up v (hin v hvm) x (hin x hx) (hvT x hx)
 have hfr : ∀ x ∈ v :: T, Rch g x v := fun x hx => by
  obtain ⟨a, h1, _, h3⟩ := h.dn x (hin x hx)
  rcases h1 with h1 | rfl
  ·exfalso
   rcases hclo x a h3 (.inl hx) with h4 | h4
   ·exact hdis a (hG a h1) h4
   ·have := ((h.s a).1 (hi0 a (hG a h1))).2.2
    omega
  ·exact h3
 have hall : ∀ w, Scc g v w → w ∈ v :: T := fun w hw => by
  rcases hclo v w hw.1 (.inl hvm) with h4 | h4
  ·exact h4
  ·have h5 := hw.2.closed (X := fun y => InR g y ∧ 0 ≤ rd P y) (fun x y hx e => ⟨e.lt ha, h.cl x y hx.1 hx.2 e⟩) h4
   have := ((h.s v).1 (hin v hvm)).2.2
   omega
 have hm0 : 0 ≤ m := (hR m hm).1
 have hnon : ∀ x, InR g x → 0 ≤ rd P2 x → x ∈ v :: T ∨ (x ∉ v :: T ∧ 0 ≤ rd P x) := fun x hx hp => by
  rw [hP2 x hx] at hp
  by_cases c : x ∈ v :: T
  ·exact .inl c
  ·rw [if_neg c] at hp; exact .inr ⟨c, hp⟩
 have hge : ∀ x, InR g x → (x ∈ v :: T ∨ 0 ≤ rd P x) → 0 ≤ rd P2 x := fun x hx hp => by
  rw [hP2 x hx]
  by_cases c : x ∈ v :: T
  ·rw [if_pos c]; exact hm0
  ·rw [if_neg c]; exact hp.resolve_left c
 refine ⟨h.lF, hl2, h.vz, h.v0, h.fn, by have := h.sl; rw [List.length_append] at this; omega, fun x => ?_, hpw.1, hG, fun a ha' b hb' hab => h.up a (hi0 a ha') b (hi0 b hb') hab, fun b hb' => ?_, fun x y hx h1 h2 e => ?_, fun x y hx hp e => ?_, fun x hx hp => ?_, fun x hx hp => ?_⟩
 ·constructor
  ·intro hx
   have h1 := (h.s x).1 (hi0 x hx)
   refine ⟨h1.1, h1.2.1, ?_⟩
   rw [hP2 x h1.1, if_neg (hdis x hx)]
   exact h1.2.2
  ·rintro ⟨h1, h2, h3⟩
   have c : x ∉ v :: T := fun c => by rw [hP2 x h1, if_pos c] at h3; omega
   rw [hP2 x h1, if_neg c] at h3
   exact (List.mem_append.1 ((h.s x).2 ⟨h1, h2, h3⟩)).resolve_right c
 ·obtain ⟨a, h1, h2, h3⟩ := h.dn b (hi0 b hb')
  rcases h1 with h1 | rfl
  ·exact ⟨a, h1, h2, h3⟩
  ·have := hlt b hb' a hvm
   omega
 ·by_cases e2 : x = v
  ·subst e2; exact hb y e
  ·exact h.bl x y hx h1 (fun h3 => h3.elim h2 e2) e
 ·have hy : InR g y := e.lt ha
  refine hge y hy ?_
  rcases hnon x hx hp with h3 | ⟨_, h3⟩
  ·exact (hX x y (.inl h3) e).imp id (fun h => h.2)
  ·exact .inr (h.cl x y hx h3 e)
 ·rcases hnon x hx hp with h3 | ⟨_, h3⟩
  ·exact ((h.s x).1 (hin x h3)).2.1
  ·exact h.pf x hx h3
 ·rw [hP2 x hx]
  rcases hnon x hx hp with h3 | ⟨c, h3⟩
  ·rw [if_pos h3]
   refine ⟨⟨(hfr x h3).trans (hto m hm), (hfr m hm).trans (hto x h3)⟩, fun w hw => hml w (hall w ⟨(hto x h3).trans hw.1, hw.2.trans (hfr x h3)⟩)⟩
  ·rw [if_neg c]; exact h.ls x hx h3
theorem tIndex_l0 (S0 T : List Int) (v : Int) (hv : v ∉ S0) (hl : (S0 ++ v :: T).length ≤ 4194304) (d : Nat) : ∀ (j : Nat), j + d = S0.length → Ev (fun k => slices_Index_int_int.l0 k (S0 ++ v :: T) v ((S0 ++ v :: T).length : Int) (j : Int)) (S0.length : Int) := by
 have hll : (S0 ++ v :: T).length = S0.length + (T.length + 1) := by simp
 induction d with
 | zero =>
  intro j hj
  have e : (S0 ++ v :: T).getD j 0 = v := by
   rw [List.getD_eq_getElem?_getD, List.getElem?_append_right (by omega), show j - S0.length = 0 by omega]; rfl
  exact Ev.step (f := fun _ => some (S0.length : Int)) (fun k => by simp only [slices_Index_int_int.l0]; rw [if_pos (by omega), if_pos (by omega), if_pos (by omega), rd_nat, e, if_pos rfl, show j = S0.length by omega]) (Ev.now _)
 | succ d ih =>
  intro j hj
  have e : v ≠ (S0 ++ v :: T).getD j 0 := by
   rw [List.getD_eq_getElem?_getD, List.getElem?_append_left (by omega), ← List.getD_eq_getElem?_getD]
   exact fun h => hv (h ▸ getD_mem (by omega) 0)
  exact Ev.step (fun k => by simp only [slices_Index_int_int.l0]; rw [if_pos (by omega), if_pos (by omega), if_pos (by omega), rd_nat, if_neg e, wsucc (by omega)]) (ih (j + 1) (by omega))
theorem tMin_l0 (l : List Int) (hl : l.length ≤ 4194304) (d : Nat) : ∀ (j : Nat) (m : Int), j + d = l.length → m ∈ l → (∀ i, i < j → m ≤ l.getD i 0) → ∃ m', Ev (fun k => slices_Min_int_int.l0 k l m (j : Int)) m' ∧ m' ∈ l ∧ ∀ x ∈ l, m' ≤ x := by
 induction d with
 | zero =>
  intro j m hj hm hi
  refine ⟨m, Ev.step (f := fun _ => some m) (fun k => by simp only [slices_Min_int_int.l0]; rw [if_neg (by omega)]) (Ev.now _), hm, fun x hx => ?_⟩
  obtain ⟨i, h1, h2⟩ := List.mem_iff_getElem.1 hx
  have := hi i (by omega)
  rwa [gdE h1, h2] at this
 | succ d ih =>
  intro j m hj hm hi
  have hmn : mn m (l.getD j 0) = if l.getD j 0 < m then l.getD j 0 else m := rfl
  obtain ⟨m', e, h1, h2⟩ := ih (j + 1) (mn m (l.getD j 0)) (by omega) (by rw [hmn]; split; exact getD_mem (by omega) 0; exact hm) (fun i hi2 => by
   rw [hmn]
   by_cases c : i = j
   ·subst c; split <;> omega
   ·have := hi i (by omega); split <;> omega)
  exact ⟨m', Ev.step (fun k => by simp only [slices_Min_int_int.l0]; rw [if_pos (by omega), if_pos (by omega), rd_nat, wsucc (by omega)]) e, h1, h2⟩
theorem visit_l1 (g : List (List Int)) (F L S : List Int) (vis m : Int) (cut : List Int) (hc : cut.length ≤ 4194304) (hcr : ∀ x ∈ cut, InR g x) (d : Nat) : ∀ (j : Nat) (P : List Int), j + d = cut.length → P.length = g.length →
  ∃ P2, Ev (fun k => impl_visit.l1 k F L S vis cut m P (j : Int)) (F, L, P2, S, vis) ∧ P2.length = g.length ∧ ∀ x, InR g x → rd P2 x = if x ∈ cut.drop j then m else rd P x := by
 induction d with
 | zero =>
  intro j P hj hP
  refine ⟨P, Ev.step (f := fun _ => some (F, L, P, S, vis)) (fun k => by simp only [impl_visit.l1]; rw [if_neg (by omega)]) (Ev.now _), hP, fun x _ => ?_⟩
  rw [List.drop_of_length_le (by omega), if_neg (by simp)]
 | succ d ih =>
  intro j P hj hP
  obtain ⟨x0, x1⟩ := hcr _ (getD_mem (show j < cut.length by omega) 0)
  obtain ⟨P2, e, h1, h2⟩ := ih (j + 1) (P.set (cut.getD j 0).toNat m) (by omega) (by rw [List.length_set]; exact hP)
  refine ⟨P2, Ev.step (fun k => by simp only [impl_visit.l1]; rw [if_pos (by omega), rd_nat, if_pos ⟨by omega, x0, by omega⟩, wsucc (by omega)]) e, h1, fun x hx => ?_⟩
  rw [h2 x hx, drop_cons (show j < cut.length by omega) 0, rdset x0 (by omega) hx.1]
  by_cases c : x ∈ cut.drop (j + 1)
  ·rw [if_pos c, if_pos (by simp [c])]
  ·rw [if_neg c]
   by_cases c2 : x = cut.getD j 0
   ·rw [if_pos c2, if_pos (by simp [c2])]
   ·rw [if_neg c2, if_neg (by simp only [List.mem_cons, c2, c, or_self]; exact fun h => h)]
structure Done (g : List (List Int)) (G : Int → Prop) (v : Int) (F L P S : List Int) (vis : Int) (r : List Int × List Int × List Int × List Int × Int) : Prop where
 tj : Tj g G r.1 r.2.2.1 r.2.2.2.1 r.2.2.2.2
 ll : r.2.1.length = g.length
 st : ∃ T, r.2.2.2.1 = S ++ T ∧ ∀ x ∈ T, ∀ y ∈ S, Ed g x y → rd r.2.1 v ≤ rd r.1 y
 old : ∀ x, InR g x → rd F x ≠ 0 → rd r.1 x = rd F x ∧ rd r.2.1 x = rd L x
 fv : rd r.1 v ≠ 0
 low : (∃ z ∈ r.2.2.2.1, rd r.1 z = rd r.2.1 v ∧ Rch g v z) ∨ vis < rd r.2.1 v
 cnt : r.1.count 0 ≤ F.count 0
theorem visit_e {g : List (List Int)} (hg : g.length ≤ 1048576) (ha : Arrows g) {G : Int → Prop} {v : Int} {F L P S0 T F0 L0 : List Int} {vis vis0 : Int} (h : Tj g (fun x => G x ∨ x = v) F P (S0 ++ v :: T) vis) (hL : L.length = g.length) (hG : ∀ x, G x → x ∈ S0) (hvF : rd F v = vis0 + 1)
  (hle : rd L v ≤ rd F v) (hwit : ∃ z ∈ S0 ++ v :: T, rd F z = rd L v ∧ Rch g v z) (hcr : ∀ x ∈ v :: T, ∀ y ∈ S0, Ed g x y → rd L v ≤ rd F y) (hb : ∀ y, Ed g v y → rd F y ≠ 0) (hv0 : 0 ≤ vis0)
  (hold : ∀ x, InR g x → rd F0 x ≠ 0 → rd F x = rd F0 x ∧ rd L x = rd L0 x) (hcnt : F.count 0 ≤ F0.count 0) {P0 : List Int} :
  ∃ r, Ev (fun k => impl_visit.e k v F L P (S0 ++ v :: T) vis) r ∧ Done g G v F0 L0 P0 S0 vis0 r := by
 obtain ⟨z, hz, hz1, hz2⟩ := hwit
 have hpw := List.pairwise_append.1 h.inc
 have hsl := h.sl
 have hvz := h.vz
 by_cases c : rd L v < rd F v
 ·refine ⟨(F, L, P, S0 ++ v :: T, vis), Ev.congr (f := fun _ => some (F, L, P, S0 ++ v :: T, vis)) (fun k => by unfold impl_visit.e; rw [if_pos c]) (Ev.now _), ⟨h.leave hz (by omega) hz2 hb, hL, ⟨v :: T, rfl, hcr⟩, hold, by simp only; omega, .inl ⟨z, hz, hz1, hz2⟩, hcnt⟩⟩
 ·have hlen : (S0 ++ v :: T).length ≤ 4194304 := by omega
  have hlt : ∀ x ∈ S0, rd F x < rd F v := fun x hx => hpw.2.2 x hx v List.mem_cons_self
  have hvS : v ∉ S0 := fun hx => by have := hlt v hx; omega
  have hR : ∀ x ∈ v :: T, InR g x := fun x hx => ((h.s x).1 (List.mem_append_right _ hx)).1
  have hTl : (v :: T).length ≤ 4194304 := by rw [List.length_append] at hlen; omega
  have e1 := tIndex_l0 S0 T v hvS hlen S0.length 0 (by omega)
  have ed : (S0 ++ v :: T).drop ((S0.length : Int)).toNat = v :: T := by rw [Int.toNat_natCast, List.drop_left]
  have et : (S0 ++ v :: T).take ((S0.length : Int)).toNat = S0 := by rw [Int.toNat_natCast, List.take_left]
  obtain ⟨m, e2, hm, hml⟩ := tMin_l0 (v :: T) hTl T.length 1 v (by simp; omega) (by simp) (fun i hi => by
   rw [show i = 0 by omega]; exact Int.le_refl _)
  obtain ⟨P2, e3, hl2, hP2⟩ := visit_l1 g F L S0 vis m (v :: T) hTl hR (v :: T).length 0 P (by omega) h.lP
  rw [List.drop_zero] at hP2
  refine ⟨(F, L, P2, S0, vis), ?_, ⟨h.pop ha hG (fun x hx y hy e => by have := hcr x hx y hy e; have := hlt y hy; omega) hb hm hml hl2 hP2, hL, ⟨[], by simp, by simp⟩, hold, by simp only; omega, .inr (by simp only; omega), hcnt⟩⟩
  refine Ev.congr (f := fun k => (slices_Index_int_int.f k (S0 ++ v :: T) v).bind fun j => if 0 ≤ j ∧ j ≤ ((S0 ++ v :: T).length : Int) then (slices_Min_int_int.f k ((S0 ++ v :: T).drop j.toNat)).bind fun m => impl_visit.l1 k F L ((S0 ++ v :: T).take j.toNat) vis ((S0 ++ v :: T).drop j.toNat) m P 0 else none) (fun k => by unfold impl_visit.e; rw [if_neg c]) ?_
  refine Ev.bind (a := (S0.length : Int)) e1 (ev_pos ⟨by omega, by rw [List.length_append]; omega⟩ ?_)
  rw [ed, et]
  refine Ev.bind (a := m) ?_ e3
  refine ev_neg (by simp; omega) (ev_pos (by simp) ?_)
  rw [show rd (v :: T) 0 = v from rfl]
  exact e2
theorem visit_ev {g : List (List Int)} (hg : g.length ≤ 1048576) (ha : Arrows g) : ∀ (u : Nat) (G : Int → Prop) (F L P S : List Int) (vis v : Int), F.count 0 ≤ u → Tj g G F P S vis → L.length = g.length → InR g v → rd F v = 0 → (∀ a, G a → Rch g a v) →
  ∃ r, Ev (fun k => impl_visit.f k g v F L P S vis) r ∧ Done g G v F L P S vis r := by
 intro u
 induction u with
 | zero =>
  intro G F L P S vis v hu h hL hv hz hG
  have := cset0 (a := 1) (by omega) (l := F) (i := v.toNat) (by rw [h.lF]; have := hv.1; have := hv.2; omega) hz
  omega
 | succ u ih =>
  intro G F0 L0 P0 S0 vis0 v hu h0 hL0 hv hz hG
  have hvis0 := h0.v0
  have hvz0 := h0.vz
  have hsl0 := h0.sl
  have hc0 := cset0 (a := vis0 + 1) (by omega) (l := F0) (i := v.toNat) (by rw [h0.lF]; have := hv.1; have := hv.2; omega) hz
  have hT1 := h0.push hv hz hG
  have hw64 : wrap64 (vis0 + 1) = vis0 + 1 := by unfold wrap64; omega
  have er : rd_L1 g v = g.getD v.toNat [] := by simp [rd_L1]
  generalize hrow : g.getD v.toNat [] = row at er
  have hmem : row ∈ g := hrow ▸ getD_mem (show v.toNat < g.length by have := hv.1; have := hv.2; omega) []
  obtain ⟨hrl, hrr⟩ := ha row hmem
  have hed : ∀ y, Ed g v y ↔ y ∈ row := fun y => ⟨fun e => hrow ▸ e.2.2, fun e => ⟨hv.1, hv.2, by rw [hrow]; exact e⟩⟩
  have hGS : ∀ x, G x → x ∈ S0 := h0.gs
  have hS0 : ∀ x ∈ S0, InR g x ∧ rd F0 x ≠ 0 := fun x hx => ⟨((h0.s x).1 hx).1, ((h0.s x).1 hx).2.1⟩
  have loop : ∀ (d i : Nat) (F L P T : List Int) (vis : Int), i + d = row.length → F.count 0 < F0.count 0 → Tj g (fun x => G x ∨ x = v) F P (S0 ++ v :: T) vis → L.length = g.length → rd F v = vis0 + 1 →
    (∀ x, InR g x → rd F0 x ≠ 0 → rd F x = rd F0 x ∧ rd L x = rd L0 x) → rd L v ≤ rd F v → (∃ z ∈ S0 ++ v :: T, rd F z = rd L v ∧ Rch g v z) → (∀ x ∈ T, ∀ y ∈ S0, Ed g x y → rd L v ≤ rd F y) →
    (∀ j, j < i → rd F (row.getD j 0) ≠ 0 ∧ (row.getD j 0 ∈ S0 → rd L v ≤ rd F (row.getD j 0))) →
    ∃ r, Ev (fun k => impl_visit.l0 k g v row (i : Int) F L P (S0 ++ v :: T) vis) r ∧ Done g G v F0 L0 P0 S0 vis0 r := by
   intro d
   induction d with
   | zero =>
    intro i F L P T vis hi hu1 h hL hvF hold hle hwit hcr hpr
    have hb : ∀ y, Ed g v y → rd F y ≠ 0 ∧ (y ∈ S0 → rd L v ≤ rd F y) := fun y e => by
     obtain ⟨j, hj, ej⟩ := List.mem_iff_getElem.1 ((hed y).1 e)
     have := hpr j (by omega)
     rwa [gdE hj, ej] at this
    obtain ⟨r, e, hd⟩ := visit_e (P0 := P0) hg ha h hL hGS hvF hle hwit (fun x hx y hy e => by
     rcases List.mem_cons.1 hx with rfl | hx
     ·exact (hb y e).2 hy
     ·exact hcr x hx y hy e) (fun y e => (hb y e).1) hvis0 hold (by omega)
    exact ⟨r, Ev.step (fun k => by simp only [impl_visit.l0]; rw [if_neg (by omega)]) e, hd⟩
   | succ d ihd =>
    intro i F L P T vis hi hu1 h hL hvF hold hle hwit hcr hpr
    have hil : i < row.length := by omega
    obtain ⟨w0, w1⟩ := hrr _ (getD_mem hil 0)
    have hEw : Ed g v (row.getD i 0) := (hed _).2 (getD_mem hil 0)
    generalize hw : row.getD i 0 = w at w0 w1 hEw
    have hLv : v < (L.length : Int) := by rw [hL]; exact hv.2
    have hmin : ∀ a b : Int, mn a b = if b < a then b else a := fun _ _ => rfl
    have hset : ∀ (L : List Int) (x a : Int), L.length = g.length → 0 ≤ x → rd (L.set v.toNat a) x = if x = v then a else rd L x := fun L x a hl hx => rdset hv.1 (by rw [hl]; exact hv.2) hx
    have hnv : ∀ x, rd F0 x ≠ 0 → x ≠ v := fun x hx e => hx (e ▸ hz)
    by_cases c1 : rd F w = 0
    ·obtain ⟨r, e1, hd⟩ := ih (fun x => G x ∨ x = v) F L P (S0 ++ v :: T) vis w (by omega) h hL ⟨w0, w1⟩ c1 (fun a hga => by
      rcases hga with hga | rfl
      ·exact (hG a hga).tail hEw
      ·exact .one hEw)
     obtain ⟨F', L', P', S', vis'⟩ := r
     obtain ⟨T', hS', hcr'⟩ := hd.st
     have hLl := hd.ll
     have hold' := hd.old
     have hlow := hd.low
     have htj := hd.tj
     have hcn := hd.cnt
     have hfw := hd.fv
     simp only at hS' hcr' hLl hold' hlow htj hcn hfw
     subst hS'
     have hvo := hold' v hv (by omega)
     have hm := hmin (rd L' v) (rd L' w)
     have hS0f : ∀ y ∈ S0, rd F' y = rd F y := fun y hy => (hold' y (hS0 y hy).1 (by rw [(hold y (hS0 y hy).1 (hS0 y hy).2).1]; exact (hS0 y hy).2)).1
     have eapp : (S0 ++ v :: T) ++ T' = S0 ++ v :: (T ++ T') := by simp
     rw [eapp] at e1 hlow htj
     have hvL2 : rd (L'.set v.toNat (mn (rd L' v) (rd L' w))) v = mn (rd L' v) (rd L' w) := by rw [hset L' v _ hLl hv.1, if_pos rfl]
     obtain ⟨r2, e2, hd2⟩ := ihd (i + 1) F' (L'.set v.toNat (mn (rd L' v) (rd L' w))) P' (T ++ T') vis' (by omega) (by omega) htj (by rw [List.length_set]; exact hLl) (by rw [hvo.1]; exact hvF)
      (fun x hx hx0 => by
       obtain ⟨o1, o2⟩ := hold x hx hx0
       obtain ⟨o3, o4⟩ := hold' x hx (by rw [o1]; exact hx0)
       exact ⟨o3.trans o1, by rw [hset L' x _ hLl hx.1, if_neg (hnv x hx0)]; exact o4.trans o2⟩)
      (by rw [hvL2, hm]; split <;> omega)
      (by
       rw [hvL2, hm]
       split
       ·rename_i hlt
        rcases hlow with ⟨z, z1, z2, z3⟩ | hlow
        ·exact ⟨z, z1, z2, Rch.head hEw z3⟩
        ·have := (h.fn v hv).2
         omega
       ·obtain ⟨z, z1, z2, z3⟩ := hwit
        have zs := (h.s z).1 z1
        refine ⟨z, ?_, by rw [(hold' z zs.1 zs.2.1).1, hvo.2]; exact z2, z3⟩
        rw [← eapp]
        exact List.mem_append_left _ z1)
      (fun x hx y hy e => by
       rw [hvL2, hm]
       rcases List.mem_append.1 hx with hx | hx
       ·have h1 := hcr x hx y hy e
        have h2 := hS0f y hy
        split <;> omega
       ·have h1 := hcr' x hx y (List.mem_append_left _ hy) e
        split <;> omega)
      (fun j hj => by
       by_cases hji : j = i
       ·subst hji
        rw [hw]
        refine ⟨hfw, fun hy => ?_⟩
        have h1 := (h.s w).1 (List.mem_append_left _ hy)
        exact absurd c1 h1.2.1
       ·obtain ⟨p1, p2⟩ := hpr j (by omega)
        have hyr : InR g (row.getD j 0) := hrr _ (getD_mem (show j < row.length by omega) 0)
        have h1 := (hold' _ hyr p1).1
        refine ⟨by rw [h1]; exact p1, fun hy => ?_⟩
        have h2 := p2 hy
        rw [hvL2, hm]
        split <;> omega)
     refine ⟨r2, Ev.step (fun k => by simp only [impl_visit.l0]; rw [if_pos (by omega), rd_nat, hw, if_pos ⟨by omega, w0, w1⟩, if_pos c1, wsucc (by omega)]) ?_, hd2⟩
     exact Ev.bind e1 e2
    ·by_cases c2 : rd P w < 0
     ·have hwS := (h.s w).2 ⟨⟨w0, w1⟩, c1, c2⟩
      have hm := hmin (rd L v) (rd F w)
      have hvL2 : rd (L.set v.toNat (mn (rd L v) (rd F w))) v = mn (rd L v) (rd F w) := by rw [hset L v _ hL hv.1, if_pos rfl]
      obtain ⟨r2, e2, hd2⟩ := ihd (i + 1) F (L.set v.toNat (mn (rd L v) (rd F w))) P T vis (by omega) hu1 h (by rw [List.length_set]; exact hL) hvF
       (fun x hx hx0 => by
        obtain ⟨o1, o2⟩ := hold x hx hx0
        exact ⟨o1, by rw [hset L x _ hL hx.1, if_neg (hnv x hx0)]; exact o2⟩)
       (by rw [hvL2, hm]; split <;> omega)
       (by
        rw [hvL2, hm]
        split
        ·exact ⟨w, hwS, rfl, .one hEw⟩
        ·exact hwit)
       (fun x hx y hy e => by
        rw [hvL2, hm]
        have h1 := hcr x hx y hy e
        split <;> omega)
       (fun j hj => by
        rw [hvL2, hm]
        by_cases hji : j = i
        ·subst hji
         rw [hw]
         exact ⟨c1, fun _ => by split <;> omega⟩
        ·obtain ⟨p1, p2⟩ := hpr j (by omega)
         refine ⟨p1, fun hy => ?_⟩
         have h2 := p2 hy
         split <;> omega)
      exact ⟨r2, Ev.step (fun k => by simp only [impl_visit.l0]; rw [if_pos (by omega), rd_nat, hw, if_pos ⟨by omega, w0, w1⟩, if_neg c1, if_pos c2, wsucc (by omega)]) e2, hd2⟩
     ·obtain ⟨r2, e2, hd2⟩ := ihd (i + 1) F L P T vis (by omega) hu1 h hL hvF hold hle hwit hcr (fun j hj => by
       by_cases hji : j = i
       ·subst hji
        rw [hw]
        exact ⟨c1, fun hy => absurd ((h.s w).1 (List.mem_append_left _ hy)).2.2 c2⟩
       ·exact hpr j (by omega))
      exact ⟨r2, Ev.step (fun k => by simp only [impl_visit.l0]; rw [if_pos (by omega), rd_nat, hw, if_pos ⟨by omega, w0, w1⟩, if_neg c1, if_neg c2, wsucc (by omega)]) e2, hd2⟩
  have hF1v : rd (F0.set v.toNat (vis0 + 1)) v = vis0 + 1 := by rw [rdset hv.1 (by rw [h0.lF]; exact hv.2) hv.1, if_pos rfl]
  have hL1v : rd (L0.set v.toNat (vis0 + 1)) v = vis0 + 1 := by rw [rdset hv.1 (by rw [hL0]; exact hv.2) hv.1, if_pos rfl]
  obtain ⟨r, e, hd⟩ := loop row.length 0 (F0.set v.toNat (vis0 + 1)) (L0.set v.toNat (vis0 + 1)) P0 [] (vis0 + 1) (by omega) (by omega) hT1 (by rw [List.length_set]; exact hL0) hF1v
   (fun x hx hx0 => by
    have hxv : x ≠ v := fun e => hx0 (e ▸ hz)
    rw [rdset hv.1 (by rw [h0.lF]; exact hv.2) hx.1, rdset hv.1 (by rw [hL0]; exact hv.2) hx.1, if_neg hxv, if_neg hxv]
    exact ⟨rfl, rfl⟩)
   (by rw [hF1v, hL1v]; exact Int.le_refl _) ⟨v, by simp, by rw [hF1v, hL1v], .refl _⟩ (by simp) (fun j hj => absurd hj (Nat.not_lt_zero j))
  refine ⟨r, Ev.step (fun k => by simp only [impl_visit.f]; rw [if_pos ⟨hv.1, hv.2, by omega⟩, er, hw64]; rfl) e, hd⟩
theorem parts_l0 (g : List (List Int)) (hg : g.length ≤ 1048576) (ha : Arrows g) (d : Nat) : ∀ (i : Nat) (F L P S : List Int) (vis : Int), i + d = g.length → Tj g (fun _ => False) F P S vis → L.length = g.length → (∀ j : Nat, j < i → rd F (j : Int) ≠ 0) → ∃ out, Ev (fun k => impl_parts.l0 k g (i : Int) F L P S vis) out ∧ IsPart g out := by
 induction d with
 | zero =>
  intro i F L P S vis hi h hL hj
  refine ⟨P, Ev.step (f := fun _ => some P) (fun k => by simp only [impl_parts.l0]; rw [if_neg (by omega)]) (Ev.now _), h.lP, fun v hv => ?_⟩
  have hvR : InR g (v : Int) := ⟨by omega, by omega⟩
  have hp : 0 ≤ rd P (v : Int) := Classical.byContradiction fun hn => by
   obtain ⟨a, h1, _⟩ := h.dn (v : Int) ((h.s (v : Int)).2 ⟨hvR, hj v (by omega), by omega⟩)
   exact h1
  have := h.ls (v : Int) hvR hp
  rwa [rd_nat] at this
 | succ d ih =>
  intro i F L P S vis hi h hL hj
  have hiR : InR g (i : Int) := ⟨by omega, by omega⟩
  by_cases c : rd F (i : Int) = 0
  ·obtain ⟨r, e1, hd⟩ := visit_ev hg ha (F.count 0) (fun _ => False) F L P S vis (i : Int) (Nat.le_refl _) h hL hiR c (fun a h => h.elim)
   obtain ⟨out, e2, hp⟩ := ih (i + 1) r.1 r.2.1 r.2.2.1 r.2.2.2.1 r.2.2.2.2 (by omega) hd.tj hd.ll (fun j hji => by
    by_cases e : j = i
    ·subst e; exact hd.fv
    ·have h1 := hj j (by omega)
     rw [(hd.old (j : Int) ⟨by omega, by omega⟩ h1).1]
     exact h1)
   exact ⟨out, Ev.step (fun k => by simp only [impl_parts.l0]; rw [if_pos (by omega), if_pos (by omega), if_pos c, wsucc (by omega)]) (Ev.bind e1 e2), hp⟩
  ·obtain ⟨out, e2, hp⟩ := ih (i + 1) F L P S vis (by omega) h hL (fun j hji => by
    by_cases e : j = i
    ·subst e; exact c
    ·exact hj j (by omega))
   exact ⟨out, Ev.step (fun k => by simp only [impl_parts.l0]; rw [if_pos (by omega), if_pos (by omega), if_neg c, wsucc (by omega)]) e2, hp⟩
theorem parts_ev (g : List (List Int)) (hg : g.length ≤ 1048576) (ha : Arrows g) : ∃ out, Ev (fun k => impl_parts.f k g) out ∧ IsPart g out := by
 have hz : ∀ x : Int, rd (List.replicate g.length (0 : Int)) x = 0 := fun x => by
  unfold rd
  rw [List.getD_eq_getElem?_getD, List.getElem?_replicate]
  split <;> rfl
 have hm : ∀ x, InR g x → rd (List.replicate g.length (-1 : Int)) x = -1 := fun x hx => by
  unfold rd
  rw [List.getD_eq_getElem?_getD, List.getElem?_replicate, if_pos (by have := hx.1; have := hx.2; omega), Option.getD_some]
 have hT : Tj g (fun _ => False) (List.replicate g.length 0) (List.replicate g.length (-1)) [] 0 :=
  ⟨by simp, by simp, by simp, by omega, fun x _ => by rw [hz]; omega, by simp, fun x => by rw [hz]; simp, List.Pairwise.nil, fun _ h => h.elim, by simp, by simp, fun x y _ h => absurd (hz x) h, fun x y hx h => by rw [hm x hx] at h; omega, fun x hx h => by rw [hm x hx] at h; omega, fun x hx h => by rw [hm x hx] at h; omega⟩
 obtain ⟨out, e, hp⟩ := parts_l0 g hg ha g.length 0 _ (List.replicate g.length 0) _ [] 0 (by omega) hT (by simp) (fun j h => absurd h (Nat.not_lt_zero j))
 exact ⟨out, ev_pos hg e, hp⟩
theorem GG.tot {g : List (List Int)} (h : GG g) : tot g ≤ 1048576 := by
 rw [tot_arcs]
 have := h.2.2
 omega
theorem parts_both (g : List (List Int)) (hg : g.length ≤ 1048576) (ha : Arrows g) (ht : tot g ≤ 1048576) : ∃ out, Ev (fun k => spec_l11Parts.f k g) out ∧ Ev (fun k => impl_parts.f k g) out ∧ IsPart g out := by
 obtain ⟨a, e1, p1⟩ := l11Parts_ev g hg ha ht
 obtain ⟨b, e2, p2⟩ := parts_ev g hg ha
 have e := p1.uniq p2
 subst e
 exact ⟨a, e1, e2, p1⟩
theorem gset {α : Type} {l : List α} {i j : Nat} {x d : α} : (l.set i x).getD j d = if i = j ∧ j < l.length then x else l.getD j d := by
 rw [List.getD_eq_getElem?_getD, List.getD_eq_getElem?_getD, List.getElem?_set]
 by_cases h : i = j
 ·subst h
  by_cases hl : i < l.length
  ·simp [hl]
  ·simp [hl]
 ·simp [h]
def trues : Nat → List Bool → List Int
 | _, [] => []
 | j, b :: t => if b = true then (j : Int) :: trues (j + 1) t else trues (j + 1) t
theorem trues_length : ∀ (l : List Bool) (j : Nat), (trues j l).length ≤ l.length
 | [], _ => Nat.le_refl 0
 | b :: t, j => by
  have := trues_length t (j + 1)
  simp only [trues]
  split <;> simp <;> omega
theorem rdOf_nat (l : List Bool) (j : Nat) : rdOf false l (j : Int) = l.getD j false := by simp [rdOf]
def Lp (g : List (List Int)) (p : List Int) (q : Int) : Prop := ∃ x : Nat, x < g.length ∧ p.getD x 0 = q ∧ ∃ y ∈ g.getD x [], rd p y = q
def Mt (p goal : List Int) (q : Int) : Prop := ∃ m ∈ goal, rd p m = q
def PIn (n : Nat) (p : List Int) : Prop := p.length = n ∧ ∀ v, v < n → 0 ≤ p.getD v 0 ∧ p.getD v 0 < (n : Int)
theorem PIn.at_ {n : Nat} {p : List Int} (h : PIn n p) {w : Int} (w0 : 0 ≤ w) (w1 : w < (n : Int)) : 0 ≤ rd p w ∧ rd p w < (n : Int) := h.2 w.toNat (by omega)
theorem IsPart.pin {g : List (List Int)} (ha : Arrows g) {p : List Int} (h : IsPart g p) : PIn g.length p :=
 ⟨h.1, fun v hv => (h.2 v hv).1.1.lt ha ⟨by omega, by omega⟩⟩
theorem rdB (l : List Bool) {x : Int} : rdOf false l x = l.getD x.toNat false := by simp [rdOf]
theorem cnt_lt {α : Type} {P Q : α → Bool} : ∀ {l : List α}, (∀ x ∈ l, P x = true → Q x = true) → (∃ x ∈ l, Q x = true ∧ ¬ P x = true) → l.countP P < l.countP Q
 | [], _, h => by obtain ⟨x, hx, _⟩ := h; simp at hx
 | y :: l, h1, h2 => by
  have hle : l.countP P ≤ l.countP Q := List.countP_mono_left (fun x hx => h1 x (by simp [hx]))
  rw [List.countP_cons, List.countP_cons]
  obtain ⟨x, hx, q, np⟩ := h2
  rcases List.mem_cons.1 hx with rfl | hx
  ·rw [if_neg np, if_pos q]; omega
  ·have ih := cnt_lt (l := l) (fun x hx => h1 x (by simp [hx])) ⟨x, hx, q, np⟩
   by_cases c : P y = true
   ·rw [if_pos c, if_pos (h1 y (by simp) c)]; omega
   ·rw [if_neg c]; split <;> omega
open Classical in
noncomputable def mu (g : List (List Int)) (q : Int) : Nat := (List.range g.length).countP (fun v => decide (Rch g q ((v : Nat) : Int)))
theorem mu_le (g : List (List Int)) (q : Int) : mu g q ≤ g.length := by
 have := List.countP_le_length (p := fun v => @decide (Rch g q ((v : Nat) : Int)) (Classical.propDecidable _)) (l := List.range g.length)
 rw [List.length_range] at this
 exact this
theorem mu_pos {g : List (List Int)} {q : Int} (hq : InR g q) : 0 < mu g q := by
 refine List.countP_pos_iff.2 ⟨q.toNat, List.mem_range.2 (by have := hq.1; have := hq.2; omega), ?_⟩
 rw [show ((q.toNat : Nat) : Int) = q by have := hq.1; omega]
 exact @decide_eq_true _ (Classical.propDecidable _) (.refl q)
theorem mu_arc {g : List (List Int)} {p : List Int} (ha : Arrows g) (hp : IsPart g p) {v : Nat} {w : Int} (hv : v < g.length) (hw : w ∈ g.getD v []) (hne : rd p w ≠ p.getD v 0) : mu g (rd p w) < mu g (p.getD v 0) := by
 have hvR : InR g (v : Int) := ⟨by omega, by omega⟩
 have e : Ed g (v : Int) w := ⟨hvR.1, hvR.2, by simpa using hw⟩
 have hwR : InR g w := e.lt ha
 have lv := hp.2 v hv
 have lw := hp.2 w.toNat (by have := hwR.1; have := hwR.2; omega)
 rw [show ((w.toNat : Nat) : Int) = w by have := hwR.1; omega] at lw
 have hwe : p.getD w.toNat 0 = rd p w := rfl
 rw [hwe] at lw
 have hto : Rch g (p.getD v 0) (rd p w) := lv.1.2.trans ((Rch.one e).trans lw.1.1)
 have hno : ¬ Rch g (rd p w) (p.getD v 0) := fun h => hne (by
  have s1 : Scc g w (v : Int) := ⟨lw.1.1.trans (h.trans lv.1.2), Rch.one e⟩
  have h1 := lw.2 _ ⟨s1.1.trans lv.1.1, lv.1.2.trans s1.2⟩
  have h2 := lv.2 _ ⟨s1.2.trans lw.1.1, lw.1.2.trans s1.1⟩
  omega)
 have hqR : InR g (p.getD v 0) := lv.1.1.lt ha hvR
 refine cnt_lt (fun x _ hx => ?_) ⟨(p.getD v 0).toNat, List.mem_range.2 (by have := hqR.1; have := hqR.2; omega), ?_, ?_⟩
 ·exact @decide_eq_true _ (Classical.propDecidable _) (hto.trans (@of_decide_eq_true _ (Classical.propDecidable _) hx))
 ·rw [show (((p.getD v 0).toNat : Nat) : Int) = p.getD v 0 by have := hqR.1; omega]
  exact @decide_eq_true _ (Classical.propDecidable _) (.refl _)
 ·rw [show (((p.getD v 0).toNat : Nat) : Int) = p.getD v 0 by have := hqR.1; omega]
  exact fun h => hno (@of_decide_eq_true _ (Classical.propDecidable _) h)
def rowLv (p : List Int) (L : Int → Int) (q : Int) (m : Int) (row : List Int) : Int := row.foldl (fun m w => if rd p w = q then m else mx m (L (rd p w) + 1)) m
def stepLv (g : List (List Int)) (p : List Int) (L : Int → Int) (q : Int) (m : Int) (v : Nat) : Int := if p.getD v 0 = q then rowLv p L q m (g.getD v []) else m
def lvl (g : List (List Int)) (p : List Int) : Nat → Int → Int
 | 0, _ => 0
 | d + 1, q => (List.range g.length).foldl (stepLv g p (lvl g p d) q) 0
theorem foldl_same {α β : Type} {f h : β → α → β} : ∀ {l : List α}, (∀ b, ∀ x ∈ l, f b x = h b x) → ∀ b, l.foldl f b = l.foldl h b
 | [], _, b => rfl
 | x :: l, hx, b => by
  simp only [List.foldl_cons]
  rw [hx b x (by simp), foldl_same (l := l) (fun b y hy => hx b y (by simp [hy]))]
theorem lvl_stable {g : List (List Int)} {p : List Int} (ha : Arrows g) (hp : IsPart g p) : ∀ (d : Nat) (q : Int), InR g q → mu g q ≤ d → lvl g p (d + 1) q = lvl g p d q := by
 intro d
 induction d with
 | zero => intro q hq hm; have := mu_pos hq; omega
 | succ d ih =>
  intro q hq hm
  rw [lvl, lvl]
  refine foldl_same (fun b v hv => ?_) 0
  have hvl := List.mem_range.1 hv
  unfold stepLv
  by_cases c : p.getD v 0 = q
  ·rw [if_pos c, if_pos c]
   refine foldl_same (fun b w hw => ?_) b
   by_cases c2 : rd p w = q
   ·rw [if_pos c2, if_pos c2]
   ·rw [if_neg c2, if_neg c2]
    have hwR := (ha _ (getD_mem hvl [])).2 w hw
    have hl := mu_arc ha hp hvl hw (by rw [c]; exact c2)
    rw [c] at hl
    rw [ih (rd p w) ((hp.pin ha).at_ hwR.1 hwR.2) (by omega)]
  ·rw [if_neg c, if_neg c]
theorem mx_le {a b c : Int} (h : a ≤ c) (k : b ≤ c) : mx a b ≤ c := by unfold mx; split <;> omega
theorem le_mx (a b : Int) : a ≤ mx a b := by unfold mx; split <;> omega
theorem foldl_in {α : Type} {f : Int → α → Int} {lo hi : Int} : ∀ {l : List α} {b : Int}, (∀ b, lo ≤ b → b ≤ hi → ∀ x ∈ l, lo ≤ f b x ∧ f b x ≤ hi) → lo ≤ b → b ≤ hi → lo ≤ l.foldl f b ∧ l.foldl f b ≤ hi
 | [], b, _, h1, h2 => ⟨h1, h2⟩
 | x :: l, b, h, h1, h2 => by
  obtain ⟨k1, k2⟩ := h b h1 h2 x (by simp)
  exact foldl_in (l := l) (fun b a c y hy => h b a c y (by simp [hy])) k1 k2
theorem lvl_in (g : List (List Int)) (p : List Int) : ∀ (d : Nat) (q : Int), 0 ≤ lvl g p d q ∧ lvl g p d q ≤ (d : Int)
 | 0, q => by simp [lvl]
 | d + 1, q => by
  rw [lvl]
  refine foldl_in (fun b h1 h2 v _ => ?_) (Int.le_refl 0) (by omega)
  unfold stepLv
  split
  ·refine foldl_in (fun b h1 h2 w _ => ?_) h1 h2
   split
   ·exact ⟨h1, h2⟩
   ·have := lvl_in g p d (rd p w)
    exact ⟨Int.le_trans h1 (le_mx _ _), mx_le h2 (by omega)⟩
  ·exact ⟨h1, h2⟩
def LV (g : List (List Int)) (p : List Int) (q : Int) : Int := lvl g p g.length q
theorem LV.eq {g : List (List Int)} {p : List Int} (ha : Arrows g) (hp : IsPart g p) {q : Int} (hq : InR g q) : LV g p q = (List.range g.length).foldl (stepLv g p (LV g p) q) 0 := by
 have h := lvl_stable ha hp g.length q hq (mu_le g q)
 have e : lvl g p (g.length + 1) q = (List.range g.length).foldl (stepLv g p (LV g p) q) 0 := rfl
 unfold LV at e ⊢
 rw [← h, e]
theorem LV.in_ (g : List (List Int)) (p : List Int) (q : Int) : 0 ≤ LV g p q ∧ LV g p q ≤ (g.length : Int) := lvl_in g p g.length q
def KI (g : List (List Int)) (p Kn : List Int) : Prop := Kn.length = g.length ∧ ∀ q, InR g q → 0 ≤ rd Kn q → rd Kn q = LV g p q
theorem rdset_ {l : List Int} {i x a : Int} (h0 : 0 ≤ i) (h1 : i < (l.length : Int)) (hx : 0 ≤ x) : rd (l.set i.toNat a) x = if x = i then a else rd l x := by
 unfold rd
 rw [getD_set]
 by_cases h : x = i
 ·subst h; rw [if_pos ⟨rfl, by omega⟩, if_pos rfl]
 ·rw [if_neg (by omega), if_neg h]
theorem KI.put {g : List (List Int)} {p Kn : List Int} (h : KI g p Kn) {q : Int} (hq : InR g q) : KI g p (Kn.set q.toNat (LV g p q)) := by
 refine ⟨by rw [List.length_set]; exact h.1, fun x hx h0 => ?_⟩
 rw [rdset_ hq.1 (by rw [h.1]; exact hq.2) hx.1] at h0 ⊢
 by_cases e : x = q
 ·rw [if_pos e, e]
 ·rw [if_neg e] at h0 ⊢
  exact h.2 x hx h0
theorem l11Level_ev {g : List (List Int)} {p : List Int} (hg : g.length ≤ 1048576) (ha : Arrows g) (hp : IsPart g p) : ∀ (d : Nat) (q : Int) (Kn : List Int), mu g q ≤ d → KI g p Kn → InR g q → ∃ Kn', Ev (fun k => spec_l11Level.f k g p Kn q) (LV g p q, Kn') ∧ KI g p Kn' := by
 intro d
 have hpin := hp.pin ha
 have hpl := hp.1
 induction d with
 | zero => intro q Kn hm hk hq; have := mu_pos hq; omega
 | succ d ih =>
  intro q Kn hm hk hq
  have hb := LV.in_ g p
  by_cases c0 : rd Kn q ≥ 0
  ·refine ⟨Kn, ?_, hk⟩
   rw [← hk.2 q hq c0]
   exact Ev.step (f := fun _ => some (rd Kn q, Kn)) (fun k => by simp only [spec_l11Level.f]; rw [if_pos hq.1, if_pos (by rw [hk.1]; exact hq.2), if_pos c0]) (Ev.now _)
  have row : ∀ (v : Nat) (hv : v < g.length), p.getD v 0 = q → ∀ (e j : Nat) (m : Int) (K1 : List Int), j + e = (g.getD v []).length → 0 ≤ m → m ≤ (g.length : Int) → KI g p K1 → ∃ K2, KI g p K2 ∧ ∀ r, Ev (fun k => spec_l11Level.l0 k g p K2 q (rowLv p (LV g p) q m ((g.getD v []).drop j)) g (g.length : Int) ((v + 1 : Nat) : Int)) r → Ev (fun k => spec_l11Level.l1 k g p K1 q m g (g.length : Int) (v : Int) (g.getD v []) ((g.getD v []).length : Int) (j : Int)) r := by
   intro v hv hpv
   obtain ⟨hrl, hrr⟩ := ha _ (getD_mem hv [])
   have harc : ∀ w ∈ g.getD v [], rd p w ≠ q → mu g (rd p w) < mu g q := fun w hw hne => by
    have := mu_arc ha hp hv hw (by rw [hpv]; exact hne)
    rwa [hpv] at this
   generalize g.getD v [] = row at hrl hrr harc
   intro e
   induction e with
   | zero =>
    intro j m K1 hj h0 h1 hk1
    refine ⟨K1, hk1, fun r h => Ev.step (fun k => by simp only [spec_l11Level.l1]; rw [if_neg (by omega), wsucc (by omega)]) ?_⟩
    rw [List.drop_of_length_le (by omega)] at h
    exact h
   | succ e ihe =>
    intro j m K1 hj h0 h1 hk1
    have hjl : j < row.length := by omega
    obtain ⟨w0, w1⟩ := hrr _ (getD_mem hjl 0)
    rw [drop_cons hjl 0]
    by_cases c : rd p (row.getD j 0) = q
    ·obtain ⟨K2, k1, k2⟩ := ihe (j + 1) m K1 (by omega) h0 h1 hk1
     refine ⟨K2, k1, fun r h => Ev.step (fun k => by simp only [spec_l11Level.l1]; rw [if_pos (by omega), if_pos (by omega), if_pos (by omega), rd_nat, if_pos w0, if_pos (by omega), if_pos c, wsucc (by omega)]) (k2 r ?_)⟩
     unfold rowLv at h ⊢
     rw [List.foldl_cons, if_pos c] at h
     exact h
    ·obtain ⟨p0, p1⟩ := hpin.at_ w0 w1
     obtain ⟨K3, e3, hk3⟩ := ih (rd p (row.getD j 0)) K1 (by have := harc _ (getD_mem hjl 0) c; omega) hk1 ⟨p0, p1⟩
     have hbw := hb (rd p (row.getD j 0))
     have hw64 : wrap64 (LV g p (rd p (row.getD j 0)) + 1) = LV g p (rd p (row.getD j 0)) + 1 := by unfold wrap64; omega
     by_cases hgt : LV g p (rd p (row.getD j 0)) + 1 > m
     ·have hne : LV g p (rd p (row.getD j 0)) + 1 ≤ (g.length : Int) := by
       have h5 := mu_le g q
       have h6 := harc _ (getD_mem hjl 0) c
       have h7 := (lvl_in g p (mu g (rd p (row.getD j 0))) (rd p (row.getD j 0))).2
       have h8 : ∀ (a : Nat), lvl g p (mu g (rd p (row.getD j 0)) + a) (rd p (row.getD j 0)) = lvl g p (mu g (rd p (row.getD j 0))) (rd p (row.getD j 0)) := fun a => by
        induction a with
        | zero => rfl
        | succ a iha => rw [← Nat.add_assoc, lvl_stable ha hp _ _ ⟨p0, p1⟩ (by omega)]; exact iha
       have h9 : LV g p (rd p (row.getD j 0)) = lvl g p (mu g (rd p (row.getD j 0))) (rd p (row.getD j 0)) := by
        unfold LV
        rw [← h8 (g.length - mu g (rd p (row.getD j 0)))]
        congr 1
        omega
       omega
      obtain ⟨K2, k1, k2⟩ := ihe (j + 1) (LV g p (rd p (row.getD j 0)) + 1) K3 (by omega) (by omega) hne hk3
      refine ⟨K2, k1, fun r h => Ev.step (fun k => by simp only [spec_l11Level.l1]; rw [if_pos (by omega), if_pos (by omega), if_pos (by omega), rd_nat, if_pos w0, if_pos (by omega), if_neg c, wsucc (by omega)]) ?_⟩
      refine Ev.bind e3 ?_
      simp only [hw64]
      refine ev_pos hgt (k2 r ?_)
      unfold rowLv at h ⊢
      rw [List.foldl_cons, if_neg c, show mx m (LV g p (rd p (row.getD j 0)) + 1) = LV g p (rd p (row.getD j 0)) + 1 by unfold mx; rw [if_pos (by omega)]] at h
      exact h
     ·obtain ⟨K2, k1, k2⟩ := ihe (j + 1) m K3 (by omega) h0 h1 hk3
      refine ⟨K2, k1, fun r h => Ev.step (fun k => by simp only [spec_l11Level.l1]; rw [if_pos (by omega), if_pos (by omega), if_pos (by omega), rd_nat, if_pos w0, if_pos (by omega), if_neg c, wsucc (by omega)]) ?_⟩
      refine Ev.bind e3 ?_
      simp only [hw64]
      refine ev_neg hgt (k2 r ?_)
      unfold rowLv at h ⊢
      rw [List.foldl_cons, if_neg c, show mx m (LV g p (rd p (row.getD j 0)) + 1) = m by unfold mx; rw [if_neg (by omega)]] at h
      exact h
  have rowin : ∀ (m : Int) (v : Nat), v < g.length → p.getD v 0 = q → 0 ≤ m → 0 ≤ rowLv p (LV g p) q m (g.getD v []) := fun m v _ _ h0 => by
   unfold rowLv
   refine (foldl_in (hi := max m (g.length + 1 : Int)) (fun b b1 b2 w _ => ?_) h0 (Int.le_max_left _ _)).1
   split
   ·exact ⟨b1, b2⟩
   ·have := hb (rd p w)
    exact ⟨Int.le_trans b1 (le_mx _ _), mx_le b2 (Int.le_trans (by omega) (Int.le_max_right _ _))⟩
  have hLq : (List.range g.length).foldl (stepLv g p (LV g p) q) 0 = LV g p q := (LV.eq ha hp hq).symm
  have allv : ∀ (e v : Nat) (m : Int) (K1 : List Int), v + e = g.length → m = (List.range v).foldl (stepLv g p (LV g p) q) 0 → KI g p K1 → ∃ K2, KI g p K2 ∧ Ev (fun k => spec_l11Level.l0 k g p K1 q m g (g.length : Int) (v : Int)) (LV g p q, K2) := by
   intro e
   induction e with
   | zero =>
    intro v m K1 hv hm1 hk1
    have e1 : v = g.length := by omega
    subst e1
    rw [hLq] at hm1
    subst hm1
    exact ⟨_, hk1.put hq, Ev.step (f := fun _ => some (LV g p q, K1.set q.toNat (LV g p q))) (fun k => by simp only [spec_l11Level.l0]; rw [if_neg (by omega), if_pos hq.1, if_pos (by rw [hk1.1]; exact hq.2)]) (Ev.now _)⟩
   | succ e ihe =>
    intro v m K1 hv hm1 hk1
    have hvl : v < g.length := by omega
    have er : rd_L1 g (v : Int) = g.getD v [] := by simp [rd_L1]
    have hnext : (List.range (v + 1)).foldl (stepLv g p (LV g p) q) 0 = stepLv g p (LV g p) q m v := by rw [List.range_succ, List.foldl_append, ← hm1]; rfl
    have hmin : 0 ≤ m ∧ m ≤ (g.length : Int) := by
     have hpre : ∀ l : List Nat, (∀ x ∈ l, x < g.length) → 0 ≤ l.foldl (stepLv g p (LV g p) q) 0 ∧ l.foldl (stepLv g p (LV g p) q) 0 ≤ (g.length : Int) := fun l hl => by
      refine foldl_in (fun b b1 b2 x hx => ?_) (Int.le_refl 0) (by omega)
      unfold stepLv
      split
      ·rename_i hpx
       refine foldl_in (fun b b1 b2 w hw => ?_) b1 b2
       split
       ·exact ⟨b1, b2⟩
       ·rename_i hne
        have hbw := hb (rd p w)
        have hwR := (ha _ (getD_mem (hl x hx) [])).2 w hw
        obtain ⟨p0, p1⟩ := hpin.at_ hwR.1 hwR.2
        have h6 := mu_arc ha hp (hl x hx) hw (by rw [hpx]; exact hne)
        rw [hpx] at h6
        have h5 := mu_le g q
        have h7 := (lvl_in g p (mu g (rd p w)) (rd p w)).2
        have h8 : ∀ (a : Nat), lvl g p (mu g (rd p w) + a) (rd p w) = lvl g p (mu g (rd p w)) (rd p w) := fun a => by
         induction a with
         | zero => rfl
         | succ a iha => rw [← Nat.add_assoc, lvl_stable ha hp _ _ ⟨p0, p1⟩ (by omega)]; exact iha
        have h9 : LV g p (rd p w) = lvl g p (mu g (rd p w)) (rd p w) := by
         unfold LV
         rw [← h8 (g.length - mu g (rd p w))]
         congr 1
         omega
        exact ⟨Int.le_trans b1 (le_mx _ _), mx_le b2 (by omega)⟩
      ·exact ⟨b1, b2⟩
     rw [hm1]
     exact hpre _ (fun x hx => by have := List.mem_range.1 hx; omega)
    by_cases c : p.getD v 0 = q
    ·obtain ⟨K3, hk3, h3⟩ := row v hvl c (g.getD v []).length 0 m K1 (by omega) hmin.1 hmin.2 hk1
     rw [List.drop_zero] at h3
     obtain ⟨K2, hk2, h2⟩ := ihe (v + 1) (rowLv p (LV g p) q m (g.getD v [])) K3 (by omega) (by rw [hnext]; unfold stepLv; rw [if_pos c]) hk3
     exact ⟨K2, hk2, Ev.step (fun k => by simp only [spec_l11Level.l0]; rw [if_pos (by omega), if_pos (by omega), if_pos (by omega), if_pos (by omega), rd_nat, if_pos c, er]; rfl) (h3 _ h2)⟩
    ·obtain ⟨K2, hk2, h2⟩ := ihe (v + 1) m K1 (by omega) (by rw [hnext]; unfold stepLv; rw [if_neg c]) hk1
     exact ⟨K2, hk2, Ev.step (fun k => by simp only [spec_l11Level.l0]; rw [if_pos (by omega), if_pos (by omega), if_pos (by omega), if_pos (by omega), rd_nat, if_neg c, wsucc (by omega)]) h2⟩
  obtain ⟨K2, hk2, h2⟩ := allv g.length 0 0 Kn (by omega) rfl hk
  exact ⟨K2, Ev.step (fun k => by simp only [spec_l11Level.f]; rw [if_pos hq.1, if_pos (by rw [hk.1]; exact hq.2), if_neg c0]; rfl) h2, hk2⟩
theorem l11Levels_ev {g : List (List Int)} {p : List Int} (hg : g.length ≤ 1048576) (ha : Arrows g) (hp : IsPart g p) (hparts : Ev (fun k => spec_l11Parts.f k g) p) : Ev (fun k => spec_l11Levels.f k g) ((List.range g.length).map (fun v => LV g p (p.getD v 0))) := by
 have hpin := hp.pin ha
 have hpl := hp.1
 have l1 : ∀ (d i : Nat) (Kn out : List Int), i + d = g.length → KI g p Kn → out.length = g.length → (∀ v, v < i → out.getD v 0 = LV g p (p.getD v 0)) → Ev (fun k => spec_l11Levels.l1 k g p Kn out (g.length : Int) (i : Int)) ((List.range g.length).map (fun v => LV g p (p.getD v 0))) := by
  intro d
  induction d with
  | zero =>
   intro i Kn out hi hk ho hv
   refine ev_eq (Ev.step (f := fun _ => some out) (fun k => by simp only [spec_l11Levels.l1]; rw [if_neg (by omega)]) (Ev.now _)) ?_
   refine List.ext_getElem (by simp [ho]) fun j h1 h2 => ?_
   have := hv j (by omega)
   rw [gdE h1] at this
   simpa using this
  | succ d ih =>
   intro i Kn out hi hk ho hv
   obtain ⟨p0, p1⟩ := hpin.2 i (by omega)
   obtain ⟨K2, e2, hk2⟩ := l11Level_ev hg ha hp (mu g (p.getD i 0)) (p.getD i 0) Kn (Nat.le_refl _) hk ⟨p0, p1⟩
   have h3 := ih (i + 1) K2 (out.set i (LV g p (p.getD i 0))) (by omega) hk2 (by rw [List.length_set]; exact ho) (fun v hv2 => by
    rw [getD_set]
    by_cases e : i = v
    ·subst e; rw [if_pos ⟨rfl, by omega⟩]
    ·rw [if_neg (fun h => e h.1)]; exact hv v (by omega))
   refine Ev.step (fun k => by simp only [spec_l11Levels.l1]; rw [if_pos (by omega), if_pos (by omega), if_pos (by omega), rd_nat, wsucc (by omega), Int.toNat_natCast]) ?_
   exact Ev.bind e2 (ev_pos (by omega) h3)
 have l0 : ∀ (d i : Nat) (Kn : List Int), i + d = g.length → Kn.length = g.length → (∀ v, v < i → Kn.getD v 0 = -1) → Ev (fun k => spec_l11Levels.l0 k g p Kn (g.length : Int) (i : Int)) ((List.range g.length).map (fun v => LV g p (p.getD v 0))) := by
  intro d
  induction d with
  | zero =>
   intro i Kn hi hk hv
   have hki : KI g p Kn := ⟨hk, fun q hq h => by
    have := hv q.toNat (by have := hq.1; have := hq.2; omega)
    unfold rd at h
    omega⟩
   have h1 := l1 g.length 0 Kn (List.replicate g.length 0) (by omega) hki (by simp) (fun v hv => absurd hv (Nat.not_lt_zero v))
   refine Ev.step (f := fun k => spec_l11Levels.l1 k g p Kn (List.replicate g.length 0) (g.length : Int) 0) (fun k => by simp only [spec_l11Levels.l0, Option.bind_some, List.length_replicate, Int.toNat_natCast]; rw [if_neg (by omega), if_pos (by omega), if_pos (by omega)]) h1
  | succ d ih =>
   intro i Kn hi hk hv
   have h3 := ih (i + 1) (Kn.set i (-1)) (by omega) (by rw [List.length_set]; exact hk) (fun v hv2 => by
    rw [getD_set]
    by_cases e : i = v
    ·subst e; rw [if_pos ⟨rfl, by omega⟩]
    ·rw [if_neg (fun h => e h.1)]; exact hv v (by omega))
   exact Ev.step (fun k => by simp only [spec_l11Levels.l0]; rw [if_pos (by omega), if_pos (by omega), if_pos (by omega), wsucc (by omega), Int.toNat_natCast]) h3
 refine Ev.bind hparts (ev_pos (by omega) (ev_pos (by omega) ?_))
 have h0 := l0 g.length 0 (List.replicate g.length 0) (by omega) (by simp) (fun v hv => absurd hv (Nat.not_lt_zero v))
 simp only [Option.bind_some, List.length_replicate, Int.toNat_natCast]
 exact h0
theorem isIncreasing_l0 (l : List Int) (b : Int) (hl : l.length ≤ 9223372036854775807) (d : Nat) : ∀ (j : Nat), j + d = l.length →
  Tells (fun k => impl_isIncreasing.l0 k l b l (l.length : Int) (j : Int)) (∀ i, j ≤ i → i < l.length → RiseAt l 0 (b - 1) i) := by
 induction d with
 | zero => exact fun j hd => tells_step (f := fun _ => some true) (fun k => by simp only [impl_isIncreasing.l0]; rw [if_neg (by omega)]) (tells_yes (fun i h1 h2 => by omega))
 | succ d ih =>
  intro j hd
  have hj : j < l.length := by omega
  refine tells_step (fun k => by simp only [impl_isIncreasing.l0]; rw [if_pos (by omega), if_pos (by omega), if_pos (by omega), wsucc (by omega), rd_nat]) ?_
  refine tells_iff ?_ (from_here hj).symm
  refine tells_if (fun h1 => tells_no (fun h => by have := h.1.1.1; omega)) (fun h1 => ?_)
  refine tells_if (fun h2 => tells_no (fun h => by have := h.1.1.2; omega)) (fun h2 => ?_)
  by_cases h0 : 0 < j
  ·refine tells_pos (by omega) ?_
   rw [wpred h0 (by omega), rd_nat]
   refine tells_pos (by omega) (tells_pos (by omega) (tells_if (fun hc => ?_) (fun hc => ?_)))
   ·exact tells_no (fun h => by have := h.1.2 h0; omega)
   ·exact tells_iff (ih (j + 1) (by omega)) ⟨fun h => ⟨⟨⟨by omega, by omega⟩, fun _ => by omega⟩, h⟩, fun h => h.2⟩
  ·refine tells_neg (by omega) ?_
   exact tells_iff (ih (j + 1) (by omega)) ⟨fun h => ⟨⟨⟨by omega, by omega⟩, fun h1 => absurd h1 h0⟩, h⟩, fun h => h.2⟩
theorem isIncreasing_tells (l : List Int) (b : Int) (hl : l.length ≤ 9223372036854775807) : Tells (fun k => impl_isIncreasing.f k l b) (Rising l 0 (b - 1)) :=
 (tells_iff (isIncreasing_l0 l b hl l.length 0 (by omega)) ⟨fun h i hi => h i (Nat.zero_le _) hi, fun h i _ hi => h i hi⟩)
theorem impl_GoodGraph_l0 (l : List (List Int)) (hn : l.length ≤ 1200) (hx : ∀ x ∈ l, x.length ≤ 9223372036854775807) (d : Nat) : ∀ (j : Nat) (a : Nat), a ≤ 1200 * j → j + d = l.length →
  Tells (fun k => impl_GoodGraph.l0 k (a : Int) l (l.length : Int) (j : Int) l) ((∀ x ∈ l.drop j, Rising x 0 ((l.length : Int) - 1)) ∧ a + arcs (l.drop j) ≤ 20000) := by
 induction d with
 | zero =>
  intro j a ha hd
  refine tells_step (f := fun _ => some (decide ((a : Int) ≤ 20000))) (fun k => by simp only [impl_GoodGraph.l0]; rw [if_neg (by omega)]) (tells_some ?_)
  rw [List.drop_of_length_le (by omega)]
  simp [arcs] <;> omega
 | succ d ih =>
  intro j a ha hd
  have hj : j < l.length := by omega
  have er : rd_L1 l (j : Int) = l.getD j [] := by simp [rd_L1]
  have hm := hx _ (getD_mem hj [])
  refine tells_step (fun k => by simp only [impl_GoodGraph.l0]; rw [if_pos (by omega), if_pos (by omega), if_pos (by omega), er, wsucc (by omega)]) ?_
  rw [drop_cons hj [], arcs_cons]
  generalize l.getD j [] = x at hm ⊢
  refine tells_ask (isIncreasing_tells x (l.length : Int) hm) (fun hr => tells_pos rfl ?_) (fun hr => tells_neg (by simp) (tells_no (fun h2 => hr (h2.1 x (by simp)))))
  have hs := row_short hr
  rw [wid (x := (a : Int) + (x.length : Int)) (by omega) (by omega)]
  have e : (a : Int) + (x.length : Int) = ((a + x.length : Nat) : Int) := by omega
  rw [e]
  refine tells_iff (ih (j + 1) (a + x.length) (by omega) (by omega)) ⟨fun ⟨h1, h2⟩ => ⟨fun y hy => ?_, by omega⟩, fun ⟨h1, h2⟩ => ⟨fun y hy => h1 y (List.mem_cons_of_mem _ hy), by omega⟩⟩
  rcases List.mem_cons.1 hy with rfl | hy
  ·exact hr
  ·exact h1 y hy
theorem impl_GoodGraph_tells (l : List (List Int)) (hx : ∀ x ∈ l, x.length ≤ 9223372036854775807) : Tells (fun k => impl_GoodGraph.f k l) (GG l) := by
 refine tells_if (fun h => tells_no (fun h2 => by have := h2.1; omega)) (fun h => ?_)
 exact tells_iff (impl_GoodGraph_l0 l (by omega) hx l.length 0 0 (by omega) (by omega)) ⟨fun ⟨h1, h2⟩ => ⟨by omega, by simpa using h1, by simpa using h2⟩, fun ⟨_, h1, h2⟩ => ⟨by simpa using h1, by simpa using h2⟩⟩
theorem sIndex_l0 (l : List Int) (x : Int) (hl : l.length ≤ 9223372036854775807) (d : Nat) : ∀ (j : Nat), j + d = l.length → ∃ i, Ev (fun k => slices_Index_int_int.l0 k l x (l.length : Int) (j : Int)) i ∧ -1 ≤ i ∧ (0 ≤ i ↔ x ∈ l.drop j) := by
 induction d with
 | zero => exact fun j hj => ⟨-1, Ev.step (f := fun _ => some (-1)) (fun k => by simp only [slices_Index_int_int.l0]; rw [if_neg (by omega)]) (Ev.now _), by omega, by rw [List.drop_of_length_le (by omega)]; simp⟩
 | succ d ih =>
  intro j hj
  by_cases h : x = l.getD j 0
  ·exact ⟨j, Ev.step (f := fun _ => some (j : Int)) (fun k => by simp only [slices_Index_int_int.l0]; rw [if_pos (by omega), if_pos (by omega), if_pos (by omega), rd_nat, if_pos h]) (Ev.now _), by omega, by rw [drop_cons (by omega) 0, ← h]; simp⟩
  ·obtain ⟨i, e, h1, h2⟩ := ih (j + 1) (by omega)
   refine ⟨i, Ev.step (fun k => by simp only [slices_Index_int_int.l0]; rw [if_pos (by omega), if_pos (by omega), if_pos (by omega), rd_nat, if_neg h, wsucc (by omega)]) e, h1, h2.trans ?_⟩
   rw [drop_cons (show j < l.length by omega) 0, List.mem_cons]
   exact ⟨fun g => .inr g, fun g => g.resolve_left h⟩
def MI (g : List (List Int)) (p : List Int) (Mm : List (List Int)) : Prop := Mm.length = g.length ∧ ∀ q : Nat, q < g.length → Mm.getD q [] = ((List.range g.length).filter (fun v => decide (p.getD v 0 = (q : Int)))).map (fun v : Nat => (v : Int))
theorem lev_ev {g Mm : List (List Int)} {p : List Int} (hg : g.length ≤ 1048576) (ha : Arrows g) (hp : IsPart g p) (hM : MI g p Mm) : ∀ (d : Nat) (q : Int) (Kn : List Int), mu g q ≤ d → KI g p Kn → InR g q → ∃ Kn', Ev (fun k => impl_lev.f k g Mm p q Kn) (LV g p q, Kn') ∧ KI g p Kn' := by
 intro d
 have hpin := hp.pin ha
 have hpl := hp.1
 induction d with
 | zero => intro q Kn hm hk hq; have := mu_pos hq; omega
 | succ d ih =>
  intro q Kn hm hk hq
  have hb := LV.in_ g p
  have hcond : 0 ≤ q ∧ q < (Kn.length : Int) ∧ q < (Mm.length : Int) := ⟨hq.1, by rw [hk.1]; exact hq.2, by rw [hM.1]; exact hq.2⟩
  by_cases c0 : rd Kn q ≥ 0
  ·refine ⟨Kn, ?_, hk⟩
   rw [← hk.2 q hq c0]
   exact Ev.step (f := fun _ => some (rd Kn q, Kn)) (fun k => by simp only [impl_lev.f]; rw [if_pos hcond, if_pos c0]) (Ev.now _)
  have row : ∀ (v : Nat) (hv : v < g.length), p.getD v 0 = q → ∀ (e j : Nat) (m : Int) (K1 : List Int), j + e = (g.getD v []).length → KI g p K1 → ∃ K2, KI g p K2 ∧ Ev (fun k => impl_lev.l1 k g Mm p (g.getD v []) (j : Int) q m K1) (rowLv p (LV g p) q m ((g.getD v []).drop j), K2) := by
   intro v hv hpv
   obtain ⟨hrl, hrr⟩ := ha _ (getD_mem hv [])
   have harc : ∀ w ∈ g.getD v [], rd p w ≠ q → mu g (rd p w) < mu g q := fun w hw hne => by
    have := mu_arc ha hp hv hw (by rw [hpv]; exact hne)
    rwa [hpv] at this
   generalize g.getD v [] = row at hrl hrr harc
   intro e
   induction e with
   | zero =>
    intro j m K1 hj hk1
    refine ⟨K1, hk1, ?_⟩
    rw [List.drop_of_length_le (by omega)]
    exact Ev.step (f := fun _ => some (m, K1)) (fun k => by simp only [impl_lev.l1]; rw [if_neg (by omega)]) (Ev.now _)
   | succ e ihe =>
    intro j m K1 hj hk1
    have hjl : j < row.length := by omega
    obtain ⟨w0, w1⟩ := hrr _ (getD_mem hjl 0)
    have hc : 0 ≤ (j : Int) ∧ 0 ≤ row.getD j 0 ∧ row.getD j 0 < (p.length : Int) := ⟨by omega, w0, by rw [hpl]; exact w1⟩
    rw [drop_cons hjl 0]
    by_cases c : rd p (row.getD j 0) = q
    ·obtain ⟨K2, k1, k2⟩ := ihe (j + 1) m K1 (by omega) hk1
     refine ⟨K2, k1, ?_⟩
     have e1 : rowLv p (LV g p) q m (row.getD j 0 :: row.drop (j + 1)) = rowLv p (LV g p) q m (row.drop (j + 1)) := by unfold rowLv; rw [List.foldl_cons, if_pos c]
     rw [e1]
     exact Ev.step (fun k => by simp only [impl_lev.l1]; rw [if_pos (by omega), rd_nat, if_pos hc, if_pos c, wsucc (by omega)]) k2
    ·obtain ⟨p0, p1⟩ := hpin.at_ w0 w1
     obtain ⟨K3, e3, hk3⟩ := ih (rd p (row.getD j 0)) K1 (by have := harc _ (getD_mem hjl 0) c; omega) hk1 ⟨p0, p1⟩
     have hbw := hb (rd p (row.getD j 0))
     have hw64 : wrap64 (LV g p (rd p (row.getD j 0)) + 1) = LV g p (rd p (row.getD j 0)) + 1 := by unfold wrap64; omega
     obtain ⟨K2, k1, k2⟩ := ihe (j + 1) (mx m (LV g p (rd p (row.getD j 0)) + 1)) K3 (by omega) hk3
     refine ⟨K2, k1, ?_⟩
     have e1 : rowLv p (LV g p) q m (row.getD j 0 :: row.drop (j + 1)) = rowLv p (LV g p) q (mx m (LV g p (rd p (row.getD j 0)) + 1)) (row.drop (j + 1)) := by unfold rowLv; rw [List.foldl_cons, if_neg c]
     rw [e1]
     refine Ev.step (fun k => by simp only [impl_lev.l1]; rw [if_pos (by omega), rd_nat, if_pos hc, if_neg c, wsucc (by omega)]) ?_
     refine Ev.bind e3 ?_
     simp only [hw64]
     exact k2
  have hvs : ∀ x ∈ Mm.getD q.toNat [], ∃ v : Nat, x = (v : Int) ∧ v < g.length ∧ p.getD v 0 = q := fun x hx => by
   rw [hM.2 q.toNat (by have := hq.1; have := hq.2; omega)] at hx
   obtain ⟨v, hv, e⟩ := List.mem_map.1 hx
   have := List.mem_filter.1 hv
   exact ⟨v, e.symm, List.mem_range.1 this.1, by have h2 := of_decide_eq_true this.2; have := hq.1; omega⟩
  have hvl : (Mm.getD q.toNat []).length ≤ 1048576 := by
   rw [hM.2 q.toNat (by have := hq.1; have := hq.2; omega), List.length_map]
   have := List.length_filter_le (fun v => decide (p.getD v 0 = ((q.toNat : Nat) : Int))) (List.range g.length)
   rw [List.length_range] at this
   omega
  have all0 : ∀ (e i : Nat) (m : Int) (K1 : List Int), i + e = (Mm.getD q.toNat []).length → KI g p K1 → ∃ K2, KI g p K2 ∧ Ev (fun k => impl_lev.l0 k g Mm p (Mm.getD q.toNat []) (i : Int) q m K1) (((Mm.getD q.toNat []).drop i).foldl (fun m (x : Int) => rowLv p (LV g p) q m (g.getD x.toNat [])) m, K2) := by
   generalize Mm.getD q.toNat [] = vs at hvs hvl
   intro e
   induction e with
   | zero =>
    intro i m K1 hi hk1
    refine ⟨K1, hk1, ?_⟩
    rw [List.drop_of_length_le (by omega)]
    exact Ev.step (f := fun _ => some (m, K1)) (fun k => by simp only [impl_lev.l0]; rw [if_neg (by omega)]) (Ev.now _)
   | succ e ihe =>
    intro i m K1 hi hk1
    have hil : i < vs.length := by omega
    obtain ⟨v, ev, hv, hpv⟩ := hvs _ (getD_mem hil 0)
    obtain ⟨K3, hk3, h3⟩ := row v hv hpv (g.getD v []).length 0 m K1 (by omega) hk1
    rw [List.drop_zero] at h3
    obtain ⟨K2, hk2, h2⟩ := ihe (i + 1) (rowLv p (LV g p) q m (g.getD v [])) K3 (by omega) hk3
    refine ⟨K2, hk2, ?_⟩
    rw [drop_cons hil 0, List.foldl_cons, ev, Int.toNat_natCast]
    have er : rd_L1 g (v : Int) = g.getD v [] := by simp [rd_L1]
    refine Ev.step (fun k => by simp only [impl_lev.l0]; rw [if_pos (by omega), rd_nat, ev, if_pos ⟨by omega, by omega, by omega⟩, er, wsucc (by omega)]) ?_
    exact Ev.bind h3 h2
  obtain ⟨K2, hk2, h2⟩ := all0 (Mm.getD q.toNat []).length 0 0 Kn (by omega) hk
  rw [List.drop_zero] at h2
  have hfold : (Mm.getD q.toNat []).foldl (fun m (x : Int) => rowLv p (LV g p) q m (g.getD x.toNat [])) 0 = LV g p q := by
   rw [LV.eq ha hp hq, hM.2 q.toNat (by have := hq.1; have := hq.2; omega), List.foldl_map, List.foldl_filter]
   refine foldl_same (fun b v _ => ?_) 0
   unfold stepLv
   rw [show ((q.toNat : Nat) : Int) = q by have := hq.1; omega]
   by_cases c : p.getD v 0 = q
   ·rw [if_pos c, if_pos (decide_eq_true c), Int.toNat_natCast]
   ·rw [if_neg c, if_neg (by simpa using c)]
  rw [hfold] at h2
  have er : rd_L1 Mm q = Mm.getD q.toNat [] := by simp [rd_L1]
  exact ⟨K2.set q.toNat (LV g p q), Ev.step (f := fun k => (impl_lev.l0 k g Mm p (Mm.getD q.toNat []) 0 q 0 Kn).bind fun t => some (t.1, t.2.set q.toNat t.1)) (fun k => by simp only [impl_lev.f]; rw [if_pos hcond, if_neg c0, er]) (Ev.bind h2 (Ev.now _)), hk2.put hq⟩
theorem members_ev {g : List (List Int)} {p : List Int} (hg : g.length ≤ 1048576) (hpin : PIn g.length p) : ∃ Mm, Ev (fun k => impl_LevelsOf.m k p 0 (List.replicate g.length [])) Mm ∧ MI g p Mm := by
 have hpl := hpin.1
 have key : ∀ (d i : Nat) (Mm : List (List Int)), i + d = g.length → Mm.length = g.length → (∀ q : Nat, q < g.length → Mm.getD q [] = ((List.range i).filter (fun v => decide (p.getD v 0 = (q : Int)))).map (fun v : Nat => (v : Int))) → ∃ M2, Ev (fun k => impl_LevelsOf.m k p (i : Int) Mm) M2 ∧ MI g p M2 := by
  intro d
  induction d with
  | zero =>
   intro i Mm hi hm hq
   have e : i = g.length := by omega
   subst e
   exact ⟨Mm, Ev.step (f := fun _ => some Mm) (fun k => by simp only [impl_LevelsOf.m]; rw [if_neg (by omega)]) (Ev.now _), hm, hq⟩
  | succ d ih =>
   intro i Mm hi hm hq
   obtain ⟨p0, p1⟩ := hpin.2 i (by omega)
   have hr := hq (p.getD i 0).toNat (by omega)
   have er : rd_L1 Mm (p.getD i 0) = Mm.getD (p.getD i 0).toNat [] := by simp [rd_L1]
   have hlen : (Mm.getD (p.getD i 0).toNat []).length < 17592186044416 := by
    rw [hr, List.length_map]
    have := List.length_filter_le (fun v => decide (p.getD v 0 = (((p.getD i 0).toNat : Nat) : Int))) (List.range i)
    rw [List.length_range] at this
    omega
   obtain ⟨M2, e2, h2⟩ := ih (i + 1) (Mm.set (p.getD i 0).toNat (Mm.getD (p.getD i 0).toNat [] ++ [(i : Int)])) (by omega) (by rw [List.length_set]; exact hm) (fun q hql => by
    rw [gset, List.range_succ, List.filter_append, List.map_append]
    by_cases e : (p.getD i 0).toNat = q
    ·subst e
     rw [if_pos ⟨rfl, by omega⟩, hr]
     congr 1
     rw [List.filter_cons_of_pos (p := fun v => decide (p.getD v 0 = (((p.getD i 0).toNat : Nat) : Int))) (decide_eq_true (by omega))]
     rfl
    ·rw [if_neg (fun h => e h.1), hq q hql, List.filter_cons_of_neg (p := fun v => decide (p.getD v 0 = (q : Int))) (fun h => absurd (of_decide_eq_true h) (by omega))]
     simp)
   exact ⟨M2, Ev.step (fun k => by simp only [impl_LevelsOf.m]; rw [if_pos (by omega), rd_nat, if_pos ⟨by omega, p0, by omega⟩, er, if_pos hlen, wsucc (by omega)]) e2, h2⟩
 exact key g.length 0 (List.replicate g.length []) (by omega) (by simp) (fun q hq => by
  rw [List.getD_eq_getElem?_getD, List.getElem?_replicate]; split <;> rfl)
theorem levels_ev {g : List (List Int)} {p : List Int} (hg : g.length ≤ 1048576) (ha : Arrows g) (hp : IsPart g p) (hparts : Ev (fun k => impl_parts.f k g) p) : Ev (fun k => (impl_parts.f k g).bind fun P => (if g.length ≤ 1048576 then ((impl_LevelsOf.m k P 0 (List.replicate g.length [])).bind fun Mm => (impl_LevelsOf.v k g Mm P 0 (List.replicate g.length (-1)) []).bind fun out => some (out, true)) else none)) ((List.range g.length).map (fun v => LV g p (p.getD v 0)), true) := by
 have hpin := hp.pin ha
 have hpl := hp.1
 obtain ⟨Mm, e1, hM⟩ := members_ev hg hpin
 have key : ∀ (d i : Nat) (Kn : List Int), i + d = g.length → KI g p Kn → Ev (fun k => impl_LevelsOf.v k g Mm p (i : Int) Kn ((List.range i).map (fun v => LV g p (p.getD v 0)))) ((List.range g.length).map (fun v => LV g p (p.getD v 0))) := by
  intro d
  induction d with
  | zero =>
   intro i Kn hi hk
   have e : i = g.length := by omega
   subst e
   exact Ev.step (f := fun _ => some ((List.range g.length).map (fun v => LV g p (p.getD v 0)))) (fun k => by simp only [impl_LevelsOf.v]; rw [if_neg (by omega)]) (Ev.now _)
  | succ d ih =>
   intro i Kn hi hk
   obtain ⟨p0, p1⟩ := hpin.2 i (by omega)
   obtain ⟨K2, e2, hk2⟩ := lev_ev hg ha hp hM (mu g (p.getD i 0)) (p.getD i 0) Kn (Nat.le_refl _) hk ⟨p0, p1⟩
   have h3 := ih (i + 1) K2 (by omega) hk2
   rw [List.range_succ, List.map_append] at h3
   refine Ev.step (fun k => by simp only [impl_LevelsOf.v]; rw [if_pos (by omega), if_pos ⟨by omega, by omega⟩, rd_nat, wsucc (by omega)]) ?_
   exact Ev.bind e2 (ev_pos (by simp; omega) h3)
 have hki : KI g p (List.replicate g.length (-1)) := ⟨by simp, fun q hq h => by
  unfold rd at h
  rw [List.getD_eq_getElem?_getD, List.getElem?_replicate, if_pos (by have := hq.1; have := hq.2; omega), Option.getD_some] at h
  omega⟩
 exact Ev.bind hparts (ev_pos hg (Ev.bind e1 (Ev.bind (key g.length 0 _ (by omega) hki) (Ev.now _))))
theorem LevelsOf_both (g : List (List Int)) (hg : g.length ≤ 9223372036854775807) (hx : ∀ x ∈ g, x.length ≤ 9223372036854775807) :
  ∃ r, Ev (fun k => spec_LevelsOf.f k g) r ∧ Ev (fun k => impl_LevelsOf.f k g) r ∧ r.1.length ≤ 1200 := by
 by_cases h : GG g
 ·have hlen := h.1
  obtain ⟨p, e1, e2, hp⟩ := parts_both g (by omega) h.arrows h.tot
  exact ⟨(_, true), Ev.bind (tells_ev (spec_GoodGraph_tells g hx) h) (ev_pos rfl (Ev.bind (l11Levels_ev (by omega) h.arrows hp e1) (Ev.now _))), Ev.bind (tells_ev (impl_GoodGraph_tells g hx) h) (ev_pos rfl (levels_ev (by omega) h.arrows hp e2)), by simp only [List.length_map, List.length_range]; omega⟩
 ·exact ⟨([], false), Ev.bind (tells_ev_not (spec_GoodGraph_tells g hx) h) (ev_neg (by simp) (Ev.now _)), Ev.bind (tells_ev_not (impl_GoodGraph_tells g hx) h) (ev_neg (by simp) (Ev.now _)), by simp⟩

theorem FnExactLevelsOf : ∀ (l0_0 : List (List (Int))), (l0_0.length ≤ 9223372036854775807 ∧ ∀ x ∈ l0_0, x.length ≤ 9223372036854775807 ∧ ∀ x' ∈ x, In64 x') → ∃ k, laws_FnExactLevelsOf.Holds k l0_0 := by
  intro l hg
  obtain ⟨t, ht, hp⟩ := szGraph_ev l hg.1 (fun x hx => (hg.2 x hx).1)
  by_cases h : t < 0
  · obtain ⟨k, hk⟩ := ht.rounds
    exact ⟨k, t, hk, .inl h⟩
  obtain ⟨_, h1, h2⟩ := hp (by omega)
  have h3 : ∀ x ∈ l, x.length ≤ 9223372036854775807 := fun x hx => by have := h2 x hx; omega
  obtain ⟨⟨b, ok⟩, hb, hb', hlen⟩ := LevelsOf_both l (by omega) h3
  have hlen : b.length ≤ 1200 := hlen
  have hm := markGraph_ev l 1 h1 h2 (by omega) (by omega)
  have hm3 := markIntS_ev b 1 (by omega) (by omega) (by omega)
  have hh := heldIntS_ev b.length 1 (by omega) (by omega) (by omega)
  obtain ⟨k, a1, a2, a3, a4, a5, a6, a7, a8, a9⟩ := ((ev_late ht).and ((ev_late (toGraph_ev l h1 h2)).and ((ev_late hb).and ((ev_late hb').and ((ev_late (eqIntS_ev b (by omega))).and ((ev_late (eqGraph_ev l (by omega) h3)).and ((ev_late hm).and ((ev_late hm3).and (ev_late hh))))))))).ex
  exact ⟨k, t, a1, .inr ⟨h, b, ok, _, _, _, _, a2, a3, a4, a5, a6, a7, a8, a9, by omega, by omega⟩⟩

end Go.Proofs.Ytnfpolhpanpeiaa.Pure
