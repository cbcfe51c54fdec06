/- The pure statement of the law FnExactFairLasso: what the printed functions compute makes the law true, for every input. No condition. -/
import Derived.Test.YtnfpolhpanpeiaaOpen
import Derived.Test.YtnfpolhpanpeiaaAid
import Derived.Test.YtnfpolhpanpeiaaMFnExactFairLasso13
set_option linter.unusedVariables false
set_option linter.unusedSimpArgs false
namespace Go.Proofs.Ytnfpolhpanpeiaa.Pure
open Go.RowKit Go.Proofs.YtnfpolhpanpeiaaW.PrintWords Go.Proofs.Ytnfpolhpanpeiaa.P Go.Proofs.Ytnfpolhpanpeiaa.Hof Go.Proofs.Ytnfpolhpanpeiaa.Open Go.Proofs.Ytnfpolhpanpeiaa.Aid
-- LEMMAS
theorem szIntS_eq (l : List Int) (a : Int) (ha : 0 ≤ a ∧ a ≤ 1048576) (hl : l.length ≤ 9223372036854775807) : laws_szIntS.f l a = some (if (l.length : Int) ≤ a then a - l.length else -1) := by
 have e : wrap64 (a - (l.length : Int)) = a - l.length := wid (by omega) (by omega)
 simp only [laws_szIntS.f]
 rw [e]
 by_cases h : (l.length : Int) ≤ a
 ·rw [if_neg (by omega), if_pos h]
 ·rw [if_pos (by omega), if_neg h]
theorem szIntSS_l0 (l : List (List Int)) (hl : l.length ≤ 9223372036854775807) (hx : ∀ x ∈ l, x.length ≤ 9223372036854775807) (d : Nat) : ∀ (j : Nat) (a : Int), 0 ≤ a → a ≤ 1048576 → j + d = l.length →
  ∃ t, Ev (fun k => laws_szIntSS.l0 k l a (j : Int)) t ∧ (0 ≤ t → t ≤ a ∧ ∀ x ∈ l.drop j, (x.length : Int) ≤ a) := by
 induction d with
 | zero =>
  intro j a h0 h1 hd
  refine ⟨a, Ev.step (f := fun _ => some a) (fun k => by simp only [laws_szIntSS.l0]; rw [if_neg (by omega)]) (Ev.now a), fun _ => ⟨by omega, ?_⟩⟩
  rw [List.drop_of_length_le (by omega)]; simp
 | succ d ih =>
  intro j a h0 h1 hd
  have hj : j < l.length := by omega
  have e1 : ∀ k, laws_szIntSS.l0 (k + 1) l a (j : Int) = ((laws_szIntS.f (rd_L1 l (j : Int)) a).bind fun t => (if t < 0 then (some (-1)) else (laws_szIntSS.l0 k l t ((j + 1 : Nat) : Int)))) := fun k => by
   simp only [laws_szIntSS.l0]; rw [if_pos (by omega), if_pos (by omega), wsucc (by omega)]
  have er : rd_L1 l (j : Int) = l.getD j [] := by simp [rd_L1]
  have hm := getD_mem hj ([] : List Int)
  rw [er, szIntS_eq _ a ⟨h0, h1⟩ (hx _ hm)] at e1
  simp only [Option.bind_some] at e1
  by_cases h : ((l.getD j []).length : Int) ≤ a
  ·rw [if_pos h] at e1
   obtain ⟨t, ht, hp⟩ := ih (j + 1) (a - (l.getD j []).length) (by omega) (by omega) (by omega)
   refine ⟨t, Ev.step e1 (ev_neg (by omega) ht), fun h2 => ?_⟩
   obtain ⟨h3, h4⟩ := hp h2
   refine ⟨by omega, fun x hx' => ?_⟩
   rw [drop_cons hj []] at hx'
   rcases List.mem_cons.1 hx' with rfl | hx'
   ·exact h
   ·have := h4 x hx'; omega
  ·rw [if_neg h] at e1
   exact ⟨-1, Ev.step e1 (ev_pos (by omega) (Ev.now _)), fun h => by omega⟩
theorem szIntSS_ev (l : List (List Int)) (a : Int) (ha : 0 ≤ a ∧ a ≤ 1048576) (hl : l.length ≤ 9223372036854775807) (hx : ∀ x ∈ l, x.length ≤ 9223372036854775807) :
  ∃ t, Ev (fun k => laws_szIntSS.f k l a) t ∧ (0 ≤ t → t ≤ a ∧ (l.length : Int) ≤ a ∧ ∀ x ∈ l, (x.length : Int) ≤ a) := by
 have e : wrap64 (a - (l.length : Int)) = a - l.length := wid (by omega) (by omega)
 by_cases h : (l.length : Int) ≤ a
 ·obtain ⟨t, ht, hp⟩ := szIntSS_l0 l hl hx l.length 0 (a - l.length) (by omega) (by omega) (by omega)
  refine ⟨t, Ev.congr (fun k => by simp only [laws_szIntSS.f]; rw [e, if_neg (by omega)]; rfl) ht, fun h2 => ?_⟩
  obtain ⟨h3, h4⟩ := hp h2
  exact ⟨by omega, h, fun x hx' => by have := h4 x (by simpa using hx'); omega⟩
 ·exact ⟨-1, Ev.congr (f := fun _ => some (-1)) (fun k => by simp only [laws_szIntSS.f]; rw [e, if_pos (by omega)]) (Ev.now _), fun h => by omega⟩
theorem szGraph_ev (l : List (List Int)) (hl : l.length ≤ 9223372036854775807) (hx : ∀ x ∈ l, x.length ≤ 9223372036854775807) :
  ∃ t, Ev (fun k => laws_szGraph.f k l 1048576) t ∧ (0 ≤ t → t ≤ 1048576 ∧ l.length ≤ 1048576 ∧ ∀ x ∈ l, x.length ≤ 1048576) := by
 obtain ⟨t, ht, hp⟩ := szIntSS_ev l 1048576 (by omega) hl hx
 by_cases h : t < 0
 ·exact ⟨-1, (Ev.bind ht (ev_pos h (Ev.now _))), fun h => by omega⟩
 ·refine ⟨t, (Ev.bind ht (ev_neg h (Ev.now _))), fun h => ?_⟩
  obtain ⟨h1, h2, h3⟩ := hp h
  exact ⟨h1, by omega, fun x hx' => by have := h3 x hx'; omega⟩
theorem toIntS_l0 (l : List Int) (hl : l.length ≤ 1048576) (d : Nat) : ∀ (j : Nat) (y : List Int), y.length = l.length → j + d = l.length → Ev (fun k => laws_toIntS.l0 k l y (j : Int)) (y.take j ++ l.drop j) := by
 induction d with
 | zero =>
  intro j y hy hd
  rw [take_all_drop hy (by omega)]
  exact Ev.step (f := fun _ => some y) (fun k => by simp only [laws_toIntS.l0]; rw [if_neg (by omega)]) (Ev.now y)
 | succ d ih =>
  intro j y hy hd
  refine Ev.step (f := fun k => laws_toIntS.l0 k l (y.set j (rd l (j : Int))) ((j + 1 : Nat) : Int)) (fun k => by simp only [laws_toIntS.l0]; rw [if_pos (by omega), if_pos (by omega), if_pos (by omega), wsucc (by omega)]; rfl) ?_
  refine ev_eq (ih (j + 1) _ (by simpa using hy) (by omega)) (copy_step (by omega) (by omega) ?_)
  rw [rd_nat, getD_eq (by omega), getD_eq (by omega)]
theorem toIntS_ev (l : List Int) (hl : l.length ≤ 1048576) : Ev (fun k => laws_toIntS.f k l) l := by
 refine Ev.congr (f := fun k => laws_toIntS.l0 k l (List.replicate l.length 0) ((0 : Nat) : Int)) (fun k => by simp only [laws_toIntS.f]; rw [if_pos (by omega), if_pos (by simp only [Int.toNat_natCast]; omega)]; rfl) ?_
 exact ev_eq (toIntS_l0 l hl l.length 0 _ (by simp) (by omega)) (by simp)
theorem toIntSS_l0 (l : List (List Int)) (hl : l.length ≤ 1048576) (hx : ∀ x ∈ l, x.length ≤ 1048576) (d : Nat) : ∀ (j : Nat) (y : List (List Int)), y.length = l.length → j + d = l.length → Ev (fun k => laws_toIntSS.l0 k l y (j : Int)) (y.take j ++ l.drop j) := by
 induction d with
 | zero =>
  intro j y hy hd
  rw [take_all_drop hy (by omega)]
  exact Ev.step (f := fun _ => some y) (fun k => by simp only [laws_toIntSS.l0]; rw [if_neg (by omega)]) (Ev.now y)
 | succ d ih =>
  intro j y hy hd
  have er : rd_L1 l (j : Int) = l.getD j [] := by simp [rd_L1]
  refine Ev.step (f := fun k => (laws_toIntS.f k (l.getD j [])).bind fun t => laws_toIntSS.l0 k l (y.set j t) ((j + 1 : Nat) : Int)) (fun k => by simp only [laws_toIntSS.l0]; rw [if_pos (by omega), if_pos (by omega), er, wsucc (by omega)]; simp only [if_pos (show (j : Int) < (y.length : Int) by omega)]; rfl) ?_
  refine Ev.bind (toIntS_ev _ (hx _ (getD_mem (by omega) _))) ?_
  exact ev_eq (ih (j + 1) _ (by simpa using hy) (by omega)) (copy_step (by omega) (by omega) (by rw [getD_eq (by omega), getD_eq (by omega)]))
theorem toIntSS_ev (l : List (List Int)) (hl : l.length ≤ 1048576) (hx : ∀ x ∈ l, x.length ≤ 1048576) : Ev (fun k => laws_toIntSS.f k l) l := by
 refine Ev.congr (f := fun k => laws_toIntSS.l0 k l (List.replicate l.length []) ((0 : Nat) : Int)) (fun k => by simp only [laws_toIntSS.f]; rw [if_pos (by omega), if_pos (by simp only [Int.toNat_natCast]; omega)]; rfl) ?_
 exact ev_eq (toIntSS_l0 l hl hx l.length 0 _ (by simp) (by omega)) (by simp)
theorem toGraph_ev (l : List (List Int)) (hl : l.length ≤ 1048576) (hx : ∀ x ∈ l, x.length ≤ 1048576) : Ev (fun k => laws_toGraph.f k l) l :=
 (Ev.bind (toIntSS_ev l hl hx) (Ev.now l))
theorem eqIntS_l0 (l : List Int) (hl : l.length ≤ 9223372036854775807) (d : Nat) : ∀ (j : Nat), j + d = l.length → Ev (fun k => laws_eqIntS.l0 k l l (j : Int)) true := by
 induction d with
 | zero => exact fun j hd => Ev.step (f := fun _ => some true) (fun k => by simp only [laws_eqIntS.l0]; rw [if_neg (by omega)]) (Ev.now _)
 | succ d ih => exact fun j hd => Ev.step (fun k => by simp only [laws_eqIntS.l0, if_true]; rw [if_pos (by omega), if_pos (by omega), if_pos (by omega), wsucc (by omega)]) (ih (j + 1) (by omega))
theorem eqIntS_ev (l : List Int) (hl : l.length ≤ 9223372036854775807) : Ev (fun k => laws_eqIntS.f k l l) true :=
 Ev.congr (fun k => by simp only [laws_eqIntS.f, if_true]; rfl) (eqIntS_l0 l hl l.length 0 (by omega))
theorem eqIntSS_l0 (l : List (List Int)) (hl : l.length ≤ 9223372036854775807) (hx : ∀ x ∈ l, x.length ≤ 9223372036854775807) (d : Nat) : ∀ (j : Nat), j + d = l.length → Ev (fun k => laws_eqIntSS.l0 k l l (j : Int)) true := by
 induction d with
 | zero => exact fun j hd => Ev.step (f := fun _ => some true) (fun k => by simp only [laws_eqIntSS.l0]; rw [if_neg (by omega)]) (Ev.now _)
 | succ d ih =>
  intro j hd
  have er : rd_L1 l (j : Int) = l.getD j [] := by simp [rd_L1]
  exact Ev.step (fun k => by simp only [laws_eqIntSS.l0]; rw [if_pos (by omega), if_pos (by omega), if_pos (by omega), wsucc (by omega), er]) (Ev.bind (eqIntS_ev _ (hx _ (getD_mem (by omega) _))) (ev_pos rfl (ih (j + 1) (by omega))))
theorem eqIntSS_ev (l : List (List Int)) (hl : l.length ≤ 9223372036854775807) (hx : ∀ x ∈ l, x.length ≤ 9223372036854775807) : Ev (fun k => laws_eqIntSS.f k l l) true :=
 Ev.congr (fun k => by simp only [laws_eqIntSS.f, if_true]; rfl) (eqIntSS_l0 l hl hx l.length 0 (by omega))
theorem eqGraph_ev (l : List (List Int)) (hl : l.length ≤ 9223372036854775807) (hx : ∀ x ∈ l, x.length ≤ 9223372036854775807) : Ev (fun k => laws_eqGraph.f k l l) true :=
 (Ev.bind (eqIntSS_ev l hl hx) (ev_pos rfl (Ev.now _)))
theorem markIntS_l0 (d : Nat) : ∀ (j : Nat) (y : List Int) (a : Int), j + d = y.length → y.length ≤ 1048576 → 0 ≤ a → a + d ≤ 4611686018427387904 → Ev (fun k => laws_markIntS.l0 k y a (j : Int)) (a + d, y.take j ++ cnt d a) := by
 induction d with
 | zero =>
  intro j y a hd hy h0 h1
  refine ev_eq (Ev.step (f := fun _ => some (a, y)) (fun k => by simp only [laws_markIntS.l0]; rw [if_neg (by omega)]) (Ev.now _)) ?_
  rw [List.take_of_length_le (by omega)]; simp [cnt]
 | succ d ih =>
  intro j y a hd hy h0 h1
  refine Ev.step (fun k => by simp only [laws_markIntS.l0]; rw [if_pos (by omega), if_pos (by omega), wsucc (by omega), wid (x := a + 1) (by omega) (by omega)]) ?_
  refine ev_eq (ih (j + 1) (y.set ((j : Int)).toNat a) (a + 1) (by simp; omega) (by simpa using hy) (by omega) (by omega)) ?_
  simp only [Int.toNat_natCast]
  rw [List.take_succ_eq_append_getElem (by simp; omega), List.take_set_of_le (Nat.le_refl j)]
  simp [cnt]; omega
theorem markIntS_ev (y : List Int) (a : Int) (hy : y.length ≤ 1048576) (h0 : 0 ≤ a) (h1 : a ≤ 2305843009213693952) : Ev (fun k => laws_markIntS.f k y a) (a + y.length, cnt y.length a) :=
 ev_eq (markIntS_l0 y.length 0 y a (by omega) hy h0 (by omega)) (by simp)
theorem markIntS_ev' (y : List Int) (a : Int) (hy : y.length ≤ 1048576) (h0 : 0 ≤ a) (h1 : a + y.length ≤ 4611686018427387904) : Ev (fun k => laws_markIntS.f k y a) (a + y.length, cnt y.length a) :=
 ev_eq (markIntS_l0 y.length 0 y a (by omega) hy h0 h1) (by simp)
theorem markIntSS_ev : ∀ (l : List (List Int)) (a : Int), (∀ x ∈ l, x.length ≤ 1048576) → 0 ≤ a → a + tot l ≤ 2305843009213693952 → Ev (fun k => laws_markIntSS.f k l a) (a + tot l, cnt2 l a)
 | [], a, _, _, _ => ev_eq (Ev.now (a, [])) (by simp [tot, cnt2])
 | x :: t, a, hx, h0, h1 => by
  simp only [tot] at h1
  have e1 := markIntS_ev x a (hx x (by simp)) h0 (by omega)
  have e2 := markIntSS_ev t (a + x.length) (fun y hy => hx y (by simp [hy])) (by omega) (by omega)
  refine ev_eq (Ev.bind e1 (Ev.bind e2 (Ev.now _))) ?_
  simp only [tot, cnt2, Int.natCast_add, Int.add_assoc]
theorem tot_small {l : List (List Int)} (hl : l.length ≤ 1048576) (hx : ∀ x ∈ l, x.length ≤ 1048576) : tot l ≤ 1099511627776 := by
 have h2 := tot_le l hx
 have h3 : l.length * 1048576 ≤ 1048576 * 1048576 := Nat.mul_le_mul_right _ hl
 omega
theorem markGraph_ev (l : List (List Int)) (a : Int) (hl : l.length ≤ 1048576) (hx : ∀ x ∈ l, x.length ≤ 1048576) (h0 : 0 ≤ a) (h1 : a ≤ 2305841000000000000) : Ev (fun k => laws_markGraph.f k l a) (a + tot l, cnt2 l a) := by
 have h2 := tot_le l hx
 have h3 : l.length * 1048576 ≤ 1048576 * 1048576 := Nat.mul_le_mul_right _ hl
 exact markIntSS_ev l a hx h0 (by omega)
theorem heldIntS_l0 (y : List Int) (hy : y.length ≤ 1048576) (d : Nat) : ∀ (j : Nat) (a : Int), j + d = y.length → y.drop j = cnt d a → 0 ≤ a → a + d ≤ 4611686018427387904 → Ev (fun k => laws_heldIntS.l0 k y a (j : Int)) (a + d) := by
 induction d with
 | zero =>
  intro j a hd hc h0 h1
  exact ev_eq (Ev.step (f := fun _ => some a) (fun k => by simp only [laws_heldIntS.l0]; rw [if_neg (by omega)]) (Ev.now _)) (by omega)
 | succ d ih =>
  intro j a hd hc h0 h1
  rw [drop_cons (by omega) 0, cnt] at hc
  obtain ⟨h2, h3⟩ := List.cons.inj hc
  refine Ev.step (fun k => by simp only [laws_heldIntS.l0]; rw [if_pos (by omega), if_pos (by omega), rd_nat, if_pos h2, wsucc (by omega), wid (x := a + 1) (by omega) (by omega)]) ?_
  exact ev_eq (ih (j + 1) (a + 1) (by omega) h3 (by omega) (by omega)) (by omega)
theorem heldIntS_ev (n : Nat) (a : Int) (hn : n ≤ 1048576) (h0 : 0 ≤ a) (h1 : a ≤ 2305843009213693952) : Ev (fun k => laws_heldIntS.f k (cnt n a) a) (a + n) :=
 heldIntS_l0 (cnt n a) (by rw [cnt_length]; exact hn) n 0 a (by rw [cnt_length]; omega) (by simp) h0 (by omega)
theorem l1In_eq (n lo hi : Int) : spec_l1In.f n lo hi = some (decide (lo ≤ n ∧ n ≤ hi)) := by
 simp only [spec_l1In.f]
 by_cases h : n ≥ lo
 ·rw [if_pos h]; congr 1; simp; intro _; exact h
 ·rw [if_neg h]; congr 1; simp; intro h'; omega
theorem l1In_tells (n lo hi : Int) : Tells (fun _ => spec_l1In.f n lo hi) (lo ≤ n ∧ n ≤ hi) := by
 simp only [l1In_eq]; exact tells_some (by simp)
def RiseAt (l : List Int) (lo hi : Int) (i : Nat) : Prop := (lo ≤ l.getD i 0 ∧ l.getD i 0 ≤ hi) ∧ (0 < i → l.getD (i - 1) 0 < l.getD i 0)
def Rising (l : List Int) (lo hi : Int) : Prop := ∀ i, i < l.length → RiseAt l lo hi i
theorem from_here {n j : Nat} {P : Nat → Prop} (hj : j < n) : (∀ i, j ≤ i → i < n → P i) ↔ P j ∧ ∀ i, j + 1 ≤ i → i < n → P i :=
 ⟨fun h => ⟨h j (Nat.le_refl _) hj, fun i h1 h2 => h i (by omega) h2⟩, fun ⟨h0, h⟩ i h1 h2 => by
  rcases Nat.eq_or_lt_of_le h1 with e | e
  ·exact e ▸ h0
  ·exact h i e h2⟩
theorem l1Rising_l0 (l : List Int) (lo hi : Int) (hl : l.length ≤ 9223372036854775807) (d : Nat) : ∀ (j : Nat), j + d = l.length →
  Tells (fun k => spec_l1Rising.l0 k l lo hi l (l.length : Int) (j : Int)) (∀ i, j ≤ i → i < l.length → RiseAt l lo hi i) := by
 induction d with
 | zero => exact fun j hd => tells_step (f := fun _ => some true) (fun k => by simp only [spec_l1Rising.l0]; rw [if_neg (by omega)]) (tells_yes (fun i h1 h2 => by omega))
 | succ d ih =>
  intro j hd
  have hj : j < l.length := by omega
  refine tells_step (fun k => by simp only [spec_l1Rising.l0]; rw [if_pos (by omega), if_pos (by omega), if_pos (by omega), wsucc (by omega), rd_nat]) ?_
  refine tells_iff ?_ (from_here hj).symm
  refine tells_ask (l1In_tells _ lo hi) (fun hin => ?_) (fun hin => ?_)
  ·refine tells_pos rfl ?_
   by_cases h0 : 0 < j
   ·refine tells_pos (by omega) ?_
    rw [wpred h0 (by omega), rd_nat]
    refine tells_pos (by omega) (tells_pos (by omega) (tells_if (fun hc => ?_) (fun hc => ?_)))
    ·exact tells_no (fun h => by have := h.1.2 h0; omega)
    ·exact tells_iff (ih (j + 1) (by omega)) ⟨fun h => ⟨⟨hin, fun _ => by omega⟩, h⟩, fun h => h.2⟩
   ·refine tells_neg (by omega) ?_
    exact tells_iff (ih (j + 1) (by omega)) ⟨fun h => ⟨⟨hin, fun h1 => absurd h1 h0⟩, h⟩, fun h => h.2⟩
  ·exact tells_neg (by simp) (tells_no (fun h => hin h.1.1))
theorem l1Rising_tells (l : List Int) (lo hi : Int) (hl : l.length ≤ 9223372036854775807) : Tells (fun k => spec_l1Rising.f k l lo hi) (Rising l lo hi) :=
 (tells_iff (l1Rising_l0 l lo hi hl l.length 0 (by omega)) ⟨fun h i hi => h i (Nat.zero_le _) hi, fun h i _ hi => h i hi⟩)
theorem rising_ge {l : List Int} {lo hi : Int} (h : Rising l lo hi) : ∀ i, i < l.length → lo + i ≤ l.getD i 0
 | 0, hi => by have := (h 0 hi).1.1; omega
 | i + 1, hi => by
  have h1 := rising_ge h i (by omega)
  have h2 := (h (i + 1) hi).2 (by omega)
  simp only [Nat.add_sub_cancel] at h2
  omega
theorem rising_len {l : List Int} {lo hi : Int} (h : Rising l lo hi) (hb : lo ≤ hi + 1) : (l.length : Int) ≤ hi - lo + 1 := by
 by_cases h0 : l.length = 0
 ·omega
 ·have h1 := rising_ge h (l.length - 1) (by omega)
  have h2 := (h (l.length - 1) (by omega)).1.2
  omega
theorem l11Points_tells (l : List Int) (n : Nat) (hl : l.length ≤ 9223372036854775807) (hn : n ≤ 9223372036854775807) : Tells (fun k => spec_l11Points.f k l (n : Int)) (Rising l 0 ((n : Int) - 1)) := by
 have e : wrap64 ((n : Int) - 1) = (n : Int) - 1 := wid (by omega) (by omega)
 refine tells_congr (fun k => by simp only [spec_l11Points.f]; rw [e]) ?_
 exact tells_ask (l1Rising_tells l 0 _ hl) (fun h => tells_yes h) (fun h => tells_no h)
def arcs (l : List (List Int)) : Nat := (l.map List.length).sum
def GG (l : List (List Int)) : Prop := l.length ≤ 1200 ∧ (∀ x ∈ l, Rising x 0 ((l.length : Int) - 1)) ∧ arcs l ≤ 20000
theorem arcs_cons (x : List Int) (l : List (List Int)) : arcs (x :: l) = x.length + arcs l := by simp [arcs]
theorem row_short {x : List Int} {n : Nat} (h : Rising x 0 ((n : Int) - 1)) : x.length ≤ n := by have := rising_len h (by omega); omega
theorem spec_GoodGraph_l0 (l : List (List Int)) (hn : l.length ≤ 1200) (hx : ∀ x ∈ l, x.length ≤ 9223372036854775807) (d : Nat) : ∀ (j : Nat) (a : Nat), a ≤ 1200 * j → j + d = l.length →
  Tells (fun k => spec_GoodGraph.l0 k (a : Int) l (l.length : Int) (j : Int) l) ((∀ x ∈ l.drop j, Rising x 0 ((l.length : Int) - 1)) ∧ a + arcs (l.drop j) ≤ 20000) := by
 induction d with
 | zero =>
  intro j a ha hd
  refine tells_step (f := fun _ => some (decide ((a : Int) ≤ 20000))) (fun k => by simp only [spec_GoodGraph.l0]; rw [if_neg (by omega)]) (tells_some ?_)
  rw [List.drop_of_length_le (by omega)]
  simp [arcs] <;> omega
 | succ d ih =>
  intro j a ha hd
  have hj : j < l.length := by omega
  have er : rd_L1 l (j : Int) = l.getD j [] := by simp [rd_L1]
  have hm := hx _ (getD_mem hj [])
  refine tells_step (fun k => by simp only [spec_GoodGraph.l0]; rw [if_pos (by omega), if_pos (by omega), if_pos (by omega), er, wsucc (by omega)]) ?_
  rw [drop_cons hj [], arcs_cons]
  generalize l.getD j [] = x at hm ⊢
  refine tells_if (fun h => tells_no (fun h2 => ?_)) (fun h => ?_)
  ·have := row_short (h2.1 x (by simp)); omega
  ·refine tells_ask (l11Points_tells x l.length hm (by omega)) (fun hr => tells_pos rfl ?_) (fun hr => tells_neg (by simp) (tells_no (fun h2 => hr (h2.1 x (by simp)))))
   have hs := row_short hr
   rw [wid (x := (a : Int) + (x.length : Int)) (by omega) (by omega)]
   have e : (a : Int) + (x.length : Int) = ((a + x.length : Nat) : Int) := by omega
   rw [e]
   refine tells_iff (ih (j + 1) (a + x.length) (by omega) (by omega)) ⟨fun ⟨h1, h2⟩ => ⟨fun y hy => ?_, by omega⟩, fun ⟨h1, h2⟩ => ⟨fun y hy => h1 y (List.mem_cons_of_mem _ hy), by omega⟩⟩
   rcases List.mem_cons.1 hy with rfl | hy
   ·exact hr
   ·exact h1 y hy
theorem spec_GoodGraph_tells (l : List (List Int)) (hx : ∀ x ∈ l, x.length ≤ 9223372036854775807) : Tells (fun k => spec_GoodGraph.f k l) (GG l) := by
 refine tells_if (fun h => tells_no (fun h2 => by have := h2.1; omega)) (fun h => ?_)
 exact tells_iff (spec_GoodGraph_l0 l (by omega) hx l.length 0 0 (by omega) (by omega)) ⟨fun ⟨h1, h2⟩ => ⟨by omega, by simpa using h1, by simpa using h2⟩, fun ⟨_, h1, h2⟩ => ⟨by simpa using h1, by simpa using h2⟩⟩
def GoalsOk (n : Int) (go : List (List Int)) : Prop := go.length ≤ 6 ∧ ∀ x ∈ go, Rising x 0 (n - 1)
theorem l11Goals_l0 (go : List (List Int)) (n : Nat) (hn : n ≤ 1000000) (hg : go.length ≤ 6) (hx : ∀ x ∈ go, x.length ≤ 9223372036854775807) (d : Nat) : ∀ (j : Nat), j + d = go.length →
  Tells (fun k => spec_l11Goals.l0 k (n : Int) go (go.length : Int) (j : Int)) (∀ x ∈ go.drop j, Rising x 0 ((n : Int) - 1)) := by
 induction d with
 | zero =>
  intro j hd
  refine tells_step (f := fun _ => some true) (fun k => by simp only [spec_l11Goals.l0]; rw [if_neg (by omega)]) (tells_yes ?_)
  rw [List.drop_of_length_le (by omega)]; simp
 | succ d ih =>
  intro j hd
  have hj : j < go.length := by omega
  have er : rd_L1 go (j : Int) = go.getD j [] := by simp [rd_L1]
  refine tells_step (fun k => by simp only [spec_l11Goals.l0]; rw [if_pos (by omega), if_pos (by omega), if_pos (by omega), er, wsucc (by omega)]) ?_
  rw [drop_cons hj []]
  have hm := getD_mem hj ([] : List Int)
  refine tells_ask (l11Points_tells _ n (hx _ hm) (by omega)) (fun h => tells_pos rfl ?_) (fun h => tells_neg (by simp) (tells_no (fun g => h (g _ (by simp)))))
  exact tells_iff (ih (j + 1) (by omega)) ⟨fun g x hx2 => by
   rcases List.mem_cons.1 hx2 with rfl | hx2
   ·exact h
   ·exact g x hx2, fun g x hx2 => g x (by simp [hx2])⟩
theorem l11Goals_tells (go : List (List Int)) (n : Nat) (hn : n ≤ 1000000) (hx : ∀ x ∈ go, x.length ≤ 9223372036854775807) : Tells (fun k => spec_l11Goals.f k go (n : Int)) (GoalsOk n go) := by
 refine tells_if (fun h => tells_no (fun g => by have := g.1; omega)) (fun h => ?_)
 exact tells_iff (l11Goals_l0 go n hn (by omega) hx go.length 0 (by omega)) ⟨fun g => ⟨by omega, by simpa using g⟩, fun g => by simpa using g.2⟩
def neg (l : List Int) : Nat := l.countP (fun x => decide (x < 0))
def relax (d : Int) : List Int → List Int → List Int → List Int × List Int
 | [], st, q => (st, q)
 | w :: t, st, q => if st.getD w.toNat 0 < 0 then relax d t (st.set w.toNat (d + 1)) (q ++ [w]) else relax d t st q
structure BI (n N : Nat) (c : Int) (st q : List Int) : Prop where
 len : st.length = n
 hi : ∀ x ∈ st, x ≤ c
 lo : ∀ x ∈ st, -1 ≤ x
 ok : ∀ v ∈ q, 0 ≤ v ∧ v < n ∧ 0 ≤ st.getD v.toNat 0
 sum : neg st + q.length ≤ N
theorem getD_set {l : List Int} {i j : Nat} {x d : Int} : (l.set i x).getD j d = if i = j ∧ j < l.length then x else l.getD j d := by
 simp only [List.getD_eq_getElem?_getD, List.getElem?_set]
 by_cases h : i = j
 ·subst h
  by_cases h2 : i < l.length
  ·simp [h2]
  ·simp [h2]
 ·simp [h]
theorem neg_set {l : List Int} {i : Nat} {x : Int} (hi : i < l.length) (h : l.getD i 0 < 0) (hx : 0 ≤ x) : neg (l.set i x) + 1 = neg l := by
 have e : l.getD i 0 = l[i] := getD_eq hi 0
 rw [e] at h
 have h1 : 0 < l.countP (fun x => decide (x < 0)) := List.countP_pos_iff.2 ⟨l[i], List.getElem_mem hi, by simpa using h⟩
 unfold neg
 rw [List.countP_set hi]
 simp only [h, show ¬ x < 0 by omega, decide_true, decide_false, if_true]
 simp only [Bool.false_eq_true, if_false]
 omega
theorem BI.set {n N : Nat} {c d : Int} {st q : List Int} (h : BI n N c st q) {w : Int} (hw0 : 0 ≤ w) (hw1 : w < n) (hn : st.getD w.toNat 0 < 0) (hd : d + 1 ≤ c) (hd0 : 0 ≤ d) : BI n N c (st.set w.toNat (d + 1)) (q ++ [w]) := by
 have hl := h.len
 refine ⟨by simpa using hl, fun x hx => ?_, fun x hx => ?_, fun v hv => ?_, ?_⟩
 ·rcases List.mem_or_eq_of_mem_set hx with hx | rfl
  ·exact h.hi x hx
  ·exact hd
 ·rcases List.mem_or_eq_of_mem_set hx with hx | rfl
  ·exact h.lo x hx
  ·omega
 ·rw [getD_set]
  rcases List.mem_append.1 hv with hv | hv
  ·obtain ⟨h1, h2, h3⟩ := h.ok v hv
   refine ⟨h1, h2, ?_⟩
   split
   ·omega
   ·exact h3
  ·rw [List.mem_singleton.1 hv]
   refine ⟨hw0, hw1, ?_⟩
   rw [if_pos ⟨rfl, by omega⟩]; omega
 ·have h1 := neg_set (l := st) (i := w.toNat) (x := d + 1) (by omega) hn (by omega)
  have h2 := h.sum
  simp only [List.length_append, List.length_singleton]; omega
theorem BI.pop {n N : Nat} {c : Int} {st q : List Int} {v : Int} (h : BI n (N + 1) c st (v :: q)) : BI n N c st q :=
 ⟨h.len, h.hi, h.lo, fun x hx => h.ok x (List.mem_cons_of_mem _ hx), by have := h.sum; simp only [List.length_cons] at this; omega⟩
theorem BI.up {n N : Nat} {c c' : Int} {st q : List Int} (h : BI n N c st q) (hc : c ≤ c') : BI n N c' st q := ⟨h.len, fun x hx => by have := h.hi x hx; omega, h.lo, h.ok, h.sum⟩
def Arrows (g : List (List Int)) : Prop := ∀ x ∈ g, x.length ≤ 1048576 ∧ ∀ w ∈ x, 0 ≤ w ∧ w < (g.length : Int)
theorem GG.arrows {g : List (List Int)} (h : GG g) : Arrows g := by
 intro x hx
 have h1 := h.2.1 x hx
 have h2 := row_short h1
 have h3 := h.1
 refine ⟨by omega, fun w hw => ?_⟩
 obtain ⟨i, hi, rfl⟩ := List.getElem_of_mem hw
 have := (h1 i hi).1
 rw [getD_eq hi] at this
 omega
def reached : Nat → List Int → List Int
 | _, [] => []
 | j, x :: t => if 0 ≤ x then (j : Int) :: reached (j + 1) t else reached (j + 1) t
theorem reached_length : ∀ (l : List Int) (j : Nat), (reached j l).length ≤ l.length
 | [], _ => by simp [reached]
 | x :: t, j => by
  have := reached_length t (j + 1)
  unfold reached; split <;> simp <;> omega
def Par (g : List (List Int)) (st : List Int) : Prop := ∀ v : Nat, 0 < st.getD v 0 → ∃ u : Nat, u < g.length ∧ (v : Int) ∈ g.getD u [] ∧ st.getD u 0 = st.getD v 0 - 1
theorem Par.of_le {g : List (List Int)} {st : List Int} (h : ∀ x ∈ st, x ≤ 0) : Par g st := fun v hv => by
 rcases Nat.lt_or_ge v st.length with h1 | h1
 ·have := h _ (getD_mem h1 0); omega
 ·rw [List.getD_eq_getElem?_getD, List.getElem?_eq_none h1] at hv; simp at hv
theorem Par.set {g : List (List Int)} {st : List Int} (h : Par g st) {v w : Nat} (hl : st.length = g.length) (hv : v < g.length) (hw : (w : Int) ∈ g.getD v []) (hn : st.getD w 0 < 0) (h0 : 0 ≤ st.getD v 0) : Par g (st.set w (st.getD v 0 + 1)) := fun x hx => by
 have hvw : v ≠ w := fun e => by subst e; omega
 rw [getD_set] at hx
 by_cases hxw : w = x ∧ x < st.length
 ·obtain ⟨rfl, h2⟩ := hxw
  refine ⟨v, hv, hw, ?_⟩
  rw [getD_set, if_neg (fun h3 => hvw h3.1.symm), getD_set, if_pos ⟨rfl, h2⟩]; omega
 ·rw [if_neg hxw] at hx
  obtain ⟨u, h1, h2, h3⟩ := h x hx
  refine ⟨u, h1, h2, ?_⟩
  have huw : w ≠ u := fun e => by subst e; omega
  rw [getD_set, if_neg (fun h4 => huw h4.1), getD_set, if_neg hxw]; exact h3
theorem rising_in {fr : List Int} {n : Nat} (hn : Rising fr 0 ((n : Int) - 1)) : ∀ v ∈ fr, 0 ≤ v ∧ v < (n : Int) := fun v hv => by
 obtain ⟨i, hi, rfl⟩ := List.getElem_of_mem hv
 have h1 := (hn i hi).1
 rw [getD_eq hi] at h1
 omega
def putArcs (k : Int) : List Int → List (List Int) → List (List Int)
 | [], y => y
 | w :: t, y => putArcs k t (y.set w.toNat (y.getD w.toNat [] ++ [k]))
def turnFrom : Nat → List (List Int) → List (List Int) → List (List Int)
 | _, [], y => y
 | j, x :: t, y => turnFrom (j + 1) t (putArcs (j : Int) x y)
def turnedOf (l : List (List Int)) : List (List Int) := turnFrom 0 l (List.replicate l.length [])
theorem putArcs_length (k : Int) : ∀ (x : List Int) (y : List (List Int)), (putArcs k x y).length = y.length
 | [], _ => rfl
 | w :: t, y => by rw [putArcs, putArcs_length k t]; simp
theorem turnFrom_length : ∀ (l : List (List Int)) (j : Nat) (y : List (List Int)), (turnFrom j l y).length = y.length
 | [], _, _ => rfl
 | x :: t, j, y => by rw [turnFrom, turnFrom_length t, putArcs_length]
theorem turnedOf_length (l : List (List Int)) : (turnedOf l).length = l.length := by rw [turnedOf, turnFrom_length]; simp
theorem getD_row {y : List (List Int)} {c : Nat} (h : ∀ z ∈ y, z.length ≤ c) (i : Nat) : (y.getD i []).length ≤ c := by
 rcases Nat.lt_or_ge i y.length with hi | hi
 ·rw [getD_eq hi]; exact h _ (List.getElem_mem hi)
 ·rw [List.getD_eq_getElem?_getD, List.getElem?_eq_none hi]; simp
theorem put_row {y : List (List Int)} {c : Nat} (h : ∀ z ∈ y, z.length ≤ c) (i : Nat) (k : Int) : ∀ z ∈ y.set i (y.getD i [] ++ [k]), z.length ≤ c + 1 := fun z hz => by
 rcases List.mem_or_eq_of_mem_set hz with hz | rfl
 ·have := h z hz; omega
 ·have := getD_row h i; simp only [List.length_append, List.length_singleton]; omega
theorem putArcs_rows (k : Int) : ∀ (x : List Int) (y : List (List Int)) (c : Nat), (∀ z ∈ y, z.length ≤ c) → ∀ z ∈ putArcs k x y, z.length ≤ c + x.length
 | [], y, c, h => by simpa [putArcs] using h
 | w :: t, y, c, h => fun z hz => by
  have := putArcs_rows k t _ (c + 1) (put_row h w.toNat k) z hz
  simp only [List.length_cons]; omega
theorem turnFrom_rows : ∀ (l : List (List Int)) (j : Nat) (y : List (List Int)) (c : Nat), (∀ z ∈ y, z.length ≤ c) → ∀ z ∈ turnFrom j l y, z.length ≤ c + tot l
 | [], j, y, c, h => by simpa [turnFrom, tot] using h
 | x :: t, j, y, c, h => fun z hz => by
  have := turnFrom_rows t (j + 1) _ (c + x.length) (putArcs_rows (j : Int) x y c h) z hz
  simp only [tot]; omega
theorem turnedOf_rows (l : List (List Int)) : ∀ z ∈ turnedOf l, z.length ≤ tot l := fun z hz => by
 have := turnFrom_rows l 0 (List.replicate l.length []) 0 (fun z hz => by rw [List.eq_of_mem_replicate hz]; simp) z hz
 omega
theorem tot_arcs : ∀ l : List (List Int), tot l = arcs l
 | [] => by simp [tot, arcs]
 | x :: t => by rw [tot, tot_arcs t, arcs_cons]
theorem l11Turn_l1 (l row : List (List Int)) (n j : Nat) (x : List Int) (hn : n ≤ 1048576) (hxl : x.length ≤ 1048576) (hx : ∀ w ∈ x, 0 ≤ w ∧ w < (n : Int)) (c : Nat) (hc : c ≤ 1099511627776) (hj : j < 1048576) (r : List (List Int)) (d : Nat) : ∀ (i : Nat) (y : List (List Int)), i + d = x.length → y.length = n → (∀ z ∈ y, z.length ≤ c + i) →
  Ev (fun k => spec_l11Turn.l0 k (putArcs (j : Int) (x.drop i) y) l (n : Int) ((j + 1 : Nat) : Int)) r → Ev (fun k => spec_l11Turn.l1 k y (j : Int) l (n : Int) (j : Int) x (x.length : Int) (i : Int)) r := by
 induction d with
 | zero =>
  intro i y hi hy hz h
  rw [List.drop_of_length_le (by omega), putArcs] at h
  exact Ev.step (fun k => by simp only [spec_l11Turn.l1]; rw [if_neg (by omega), wsucc (by omega)]) h
 | succ d ih =>
  intro i y hi hy hz h
  rw [drop_cons (by omega) 0, putArcs] at h
  obtain ⟨h0, h1⟩ := hx _ (getD_mem (show i < x.length by omega) 0)
  have er : rd_L1 y (x.getD i 0) = y.getD (x.getD i 0).toNat [] := by simp [rd_L1]
  have hl := getD_row hz (x.getD i 0).toNat
  refine Ev.step (fun k => by simp only [spec_l11Turn.l1]; rw [if_pos (by omega), if_pos (by omega), if_pos (by omega), rd_nat, if_pos h0, if_pos (by omega), er, if_pos (by omega), wsucc (by omega)]) ?_
  exact ih (i + 1) _ (by omega) (by simpa using hy) (fun z hz2 => by have := put_row hz _ _ z hz2; omega) h
theorem l11Turn_l0 (l : List (List Int)) (hn : l.length ≤ 1048576) (ha : Arrows l) : ∀ (t : List (List Int)) (j : Nat) (y : List (List Int)) (c : Nat), j + t.length = l.length → l.drop j = t → y.length = l.length → (∀ z ∈ y, z.length ≤ c) → c + tot t ≤ 1099511627776 →
  Ev (fun k => spec_l11Turn.l0 k y l (l.length : Int) (j : Int)) (turnFrom j t y)
 | [], j, y, c, hj, ht, hy, hz, hc => by
  simp only [List.length_nil] at hj
  exact Ev.step (f := fun _ => some y) (fun k => by simp only [spec_l11Turn.l0]; rw [if_neg (by omega)]) (Ev.now _)
 | x :: t, j, y, c, hj, ht, hy, hz, hc => by
  simp only [List.length_cons] at hj
  simp only [tot] at hc
  rw [drop_cons (by omega) []] at ht
  obtain ⟨e1, e2⟩ := List.cons.inj ht
  have hm : x ∈ l := e1 ▸ getD_mem (by omega) []
  obtain ⟨hxl, hx⟩ := ha x hm
  have er : rd_L1 l (j : Int) = x := by rw [← e1]; simp [rd_L1]
  refine Ev.step (fun k => by simp only [spec_l11Turn.l0]; rw [if_pos (by omega), if_pos (by omega), if_pos (by omega), er]) ?_
  refine l11Turn_l1 l [] l.length j x (by omega) hxl hx c (by omega) (by omega) _ x.length 0 y (by omega) hy (fun z h => by have := hz z h; omega) ?_
  exact l11Turn_l0 l hn ha t (j + 1) _ (c + x.length) (by omega) e2 (by rw [putArcs_length]; exact hy) (putArcs_rows _ x y c hz) (by omega)
theorem l11Turn_ev (l : List (List Int)) (hn : l.length ≤ 1048576) (ha : Arrows l) (ht : tot l ≤ 1099511627776) : Ev (fun k => spec_l11Turn.f k l) (turnedOf l) := by
 refine ev_pos (by omega) (ev_pos (by omega) ?_)
 have e : ((l.length : Int)).toNat = l.length := by omega
 rw [e]
 exact l11Turn_l0 l hn ha l 0 _ 0 (by omega) (by simp) (by simp) (fun z hz => by rw [List.eq_of_mem_replicate hz]; simp) (by omega)
theorem gdE {α : Type} {l : List α} {d : α} {i : Nat} (h : i < l.length) : l.getD i d = l[i] := by rw [List.getD_eq_getElem?_getD, List.getElem?_eq_getElem h, Option.getD_some]
def Ed (g : List (List Int)) (v w : Int) : Prop := 0 ≤ v ∧ v < (g.length : Int) ∧ w ∈ g.getD v.toNat []
inductive Rch (g : List (List Int)) : Int → Int → Prop
 | refl (v : Int) : Rch g v v
 | tail {u v w : Int} : Rch g u v → Ed g v w → Rch g u w
theorem Rch.closed {g : List (List Int)} {X : Int → Prop} (hX : ∀ x y, X x → Ed g x y → X y) {u v : Int} (h : Rch g u v) (hu : X u) : X v := by
 induction h with
 | refl => exact hu
 | tail _ e ih => exact hX _ _ ih e
theorem Rch.trans {g : List (List Int)} {u v w : Int} (h : Rch g u v) (k : Rch g v w) : Rch g u w := by
 induction k with
 | refl => exact h
 | tail _ e ih => exact .tail ih e
theorem Rch.one {g : List (List Int)} {u v : Int} (h : Ed g u v) : Rch g u v := .tail (.refl u) h
theorem Rch.head {g : List (List Int)} {u v w : Int} (h : Ed g u v) (k : Rch g v w) : Rch g u w := (Rch.one h).trans k
theorem Ed.lt {g : List (List Int)} (ha : Arrows g) {u v : Int} (h : Ed g u v) : 0 ≤ v ∧ v < (g.length : Int) := by
 obtain ⟨h0, h1, h2⟩ := h
 exact (ha _ (getD_mem (show u.toNat < g.length by omega) [])).2 v h2
theorem Rch.lt {g : List (List Int)} (ha : Arrows g) {u v : Int} (h : Rch g u v) (hu : 0 ≤ u ∧ u < (g.length : Int)) : 0 ≤ v ∧ v < (g.length : Int) := h.closed (X := fun x => 0 ≤ x ∧ x < (g.length : Int)) (fun _ _ _ e => e.lt ha) hu
def Scc (g : List (List Int)) (u v : Int) : Prop := Rch g u v ∧ Rch g v u
def Least (g : List (List Int)) (v m : Int) : Prop := Scc g v m ∧ ∀ w, Scc g v w → m ≤ w
def IsPart (g : List (List Int)) (out : List Int) : Prop := out.length = g.length ∧ ∀ v : Nat, v < g.length → Least g (v : Int) (out.getD v 0)
theorem Least.uniq {g : List (List Int)} {v m m' : Int} (h : Least g v m) (h' : Least g v m') : m = m' := by
 have h1 := h.2 _ h'.1
 have h2 := h'.2 _ h.1
 omega
theorem IsPart.uniq {g : List (List Int)} {a b : List Int} (h : IsPart g a) (k : IsPart g b) : a = b := by
 refine List.ext_getElem (by rw [h.1, k.1]) fun i h1 h2 => ?_
 have e := (h.2 i (by rw [← h.1]; exact h1)).uniq (k.2 i (by rw [← h.1]; exact h1))
 rwa [gdE h1, gdE h2] at e
theorem mem_putArcs (k : Int) : ∀ (x : List Int) (y : List (List Int)), (∀ w ∈ x, 0 ≤ w ∧ w < (y.length : Int)) → ∀ (j : Nat) (u : Int), u ∈ (putArcs k x y).getD j [] ↔ u ∈ y.getD j [] ∨ (u = k ∧ (j : Int) ∈ x)
 | [], y, _, j, u => by simp [putArcs]
 | w :: x, y, hx, j, u => by
  have hw := hx w (by simp)
  rw [putArcs, mem_putArcs k x _ (by intro z hz; rw [List.length_set]; exact hx z (by simp [hz])) j u]
  by_cases hj : w.toNat = j
  ·subst hj
   have e : ((w.toNat : Nat) : Int) = w := by omega
   rw [e, List.getD_eq_getElem?_getD, List.getElem?_set_self (by omega), Option.getD_some]
   simp only [List.mem_append, List.mem_singleton, List.mem_cons, true_or, and_true]
   constructor
   ·rintro ((h | h) | h)
    ·exact .inl h
    ·exact .inr (by simpa using h)
    ·exact .inr h.1
   ·rintro (h | h)
    ·exact .inl (.inl h)
    ·exact .inl (.inr (by simpa using h))
  ·rw [List.getD_eq_getElem?_getD, List.getElem?_set_ne hj, ← List.getD_eq_getElem?_getD]
   have e : (j : Int) ≠ w := by omega
   simp only [List.mem_cons, e, false_or]
theorem mem_turnFrom : ∀ (l : List (List Int)) (j : Nat) (y : List (List Int)), (∀ x ∈ l, ∀ w ∈ x, 0 ≤ w ∧ w < (y.length : Int)) → ∀ (i : Nat) (u : Int), u ∈ (turnFrom j l y).getD i [] ↔ u ∈ y.getD i [] ∨ ∃ m : Nat, m < l.length ∧ u = ((j + m : Nat) : Int) ∧ (i : Int) ∈ l.getD m []
 | [], j, y, _, i, u => by simp [turnFrom]
 | x :: l, j, y, h, i, u => by
  rw [turnFrom, mem_turnFrom l (j + 1) _ (by intro z hz w hw; rw [putArcs_length]; exact h z (by simp [hz]) w hw) i u, mem_putArcs _ x y (fun w hw => h x (by simp) w hw) i u]
  constructor
  ·rintro ((h1 | ⟨h1, h2⟩) | ⟨m, h1, h2, h3⟩)
   ·exact .inl h1
   ·exact .inr ⟨0, by simp, by simpa using h1, by simpa using h2⟩
   ·exact .inr ⟨m + 1, by simpa using h1, by rw [h2]; congr 1; omega, by simpa using h3⟩
  ·rintro (h1 | ⟨m, h1, h2, h3⟩)
   ·exact .inl (.inl h1)
   ·cases m with
    | zero => exact .inl (.inr ⟨by simpa using h2, by simpa using h3⟩)
    | succ m => exact .inr ⟨m, by simpa using h1, by rw [h2]; congr 1; omega, by simpa using h3⟩
theorem Ed.turned {g : List (List Int)} (ha : Arrows g) {u v : Int} : Ed (turnedOf g) u v ↔ Ed g v u := by
 have key : ∀ i : Nat, i < g.length → ∀ x : Int, x ∈ (turnedOf g).getD i [] ↔ ∃ m : Nat, m < g.length ∧ x = (m : Int) ∧ (i : Int) ∈ g.getD m [] := by
  intro i hi x
  rw [turnedOf, mem_turnFrom g 0 _ (by intro z hz w hw; rw [List.length_replicate]; exact (ha z hz).2 w hw) i x]
  have e : (List.replicate g.length ([] : List Int)).getD i [] = [] := by
   rw [List.getD_eq_getElem?_getD, List.getElem?_replicate]; split <;> rfl
  rw [e]
  simp only [List.not_mem_nil, false_or, Nat.zero_add]
 constructor
 ·rintro ⟨h0, h1, h2⟩
  rw [turnedOf_length] at h1
  obtain ⟨m, h3, h4, h5⟩ := (key u.toNat (by omega) v).1 h2
  have e : ((u.toNat : Nat) : Int) = u := by omega
  rw [e] at h5
  exact ⟨by omega, by omega, by rw [h4]; simpa using h5⟩
 ·intro h
  have hu := h.lt ha
  obtain ⟨h0, h1, h2⟩ := h
  have e : ((u.toNat : Nat) : Int) = u := by omega
  exact ⟨hu.1, by rw [turnedOf_length]; exact hu.2, (key u.toNat (by omega) v).2 ⟨v.toNat, by omega, by omega, by rw [e]; exact h2⟩⟩
theorem Rch.turned {g : List (List Int)} (ha : Arrows g) {u v : Int} (h : Rch (turnedOf g) u v) : Rch g v u := by
 induction h with
 | refl => exact .refl _
 | tail _ e ih => exact Rch.head ((Ed.turned ha).1 e) ih
theorem Rch.turned' {g : List (List Int)} (ha : Arrows g) {u v : Int} (h : Rch g u v) : Rch (turnedOf g) v u := by
 induction h with
 | refl => exact .refl _
 | tail _ e ih => exact Rch.head ((Ed.turned ha).2 e) ih
theorem scc_turned {g : List (List Int)} (ha : Arrows g) (ht : tot g ≤ 1048576) : Arrows (turnedOf g) := fun x hx => by
 refine ⟨by have := turnedOf_rows g x hx; omega, fun w hw => ?_⟩
 obtain ⟨i, hi, e⟩ := List.mem_iff_getElem.1 hx
 have h2 : Ed (turnedOf g) (i : Int) w := ⟨by omega, by omega, by rw [Int.toNat_natCast, gdE hi, e]; exact hw⟩
 have h3 := (Ed.turned ha).1 h2
 exact ⟨h3.1, by rw [turnedOf_length]; exact h3.2.1⟩
def sn (g : List (List Int)) (Sn : List Bool) (x : Int) : Prop := 0 ≤ x ∧ x < (g.length : Int) ∧ Sn.getD x.toNat false = true
theorem bset {l : List Bool} {i j : Nat} : (l.set i true).getD j false = true ↔ (i = j ∧ j < l.length) ∨ l.getD j false = true := by
 rw [List.getD_eq_getElem?_getD, List.getD_eq_getElem?_getD, List.getElem?_set]
 by_cases h : i = j
 ·subst h
  by_cases hl : i < l.length
  ·simp [hl]
  ·simp [hl]
 ·simp [h]
theorem cset : ∀ {l : List Bool} {i : Nat}, i < l.length → l.getD i false = false → (l.set i true).count false + 1 = l.count false
 | [], i, h, _ => by simp at h
 | x :: l, 0, _, h => by
  simp only [List.getD_cons_zero] at h
  subst h
  simp
 | x :: l, i + 1, h, k => by
  have ih := cset (l := l) (i := i) (by simpa using h) (by simpa using k)
  simp only [List.set_cons_succ, List.count_cons]
  omega
structure Wk (g : List (List Int)) (B G : Int → Prop) (Sn : List Bool) (O : List Int) : Prop where
 len : Sn.length = g.length
 a : ∀ x, sn g Sn x ↔ (B x ∨ G x ∨ x ∈ O)
 bb : ∀ x y, B x → Ed g x y → B y
 b : ∀ x y, x ∈ O → Ed g x y → sn g Sn y
 d : ∀ x ∈ O, ¬ B x
 k : ∀ A r C, O = A ++ r :: C → ∀ x ∈ A, Rch g x r → (∃ y ∈ C, Rch g x y) ∨ (∃ y, (G y ∨ B y) ∧ Rch g x y) ∨ Rch g r x
theorem Wk.mono {g : List (List Int)} {B G : Int → Prop} {Sn Sn' : List Bool} {O T : List Int} (h : Wk g B G Sn O) (k : Wk g B G Sn' (O ++ T)) {x : Int} (hx : sn g Sn x) : sn g Sn' x := by
 rw [k.a]
 rcases (h.a x).1 hx with h1 | h1 | h1
 ·exact .inl h1
 ·exact .inr (.inl h1)
 ·exact .inr (.inr (List.mem_append_left _ h1))
theorem Wk.enter {g : List (List Int)} {B G : Int → Prop} {Sn : List Bool} {O : List Int} (h : Wk g B G Sn O) {m : Int} (h0 : 0 ≤ m) (h1 : m < (g.length : Int)) : Wk g B (fun x => G x ∨ x = m) (Sn.set m.toNat true) O where
 len := by rw [List.length_set]; exact h.len
 a x := by
  have hl := h.len
  have hx := h.a x
  constructor
  ·rintro ⟨p, q, r⟩
   rcases bset.1 r with ⟨e, _⟩ | e
   ·exact .inr (.inl (.inr (by omega)))
   ·rcases hx.1 ⟨p, q, e⟩ with h2 | h2 | h2
    ·exact .inl h2
    ·exact .inr (.inl (.inl h2))
    ·exact .inr (.inr h2)
  ·rintro (h2 | (h2 | h2) | h2)
   ·obtain ⟨p, q, r⟩ := hx.2 (.inl h2)
    exact ⟨p, q, bset.2 (.inr r)⟩
   ·obtain ⟨p, q, r⟩ := hx.2 (.inr (.inl h2))
    exact ⟨p, q, bset.2 (.inr r)⟩
   ·subst h2
    exact ⟨h0, h1, bset.2 (.inl ⟨rfl, by omega⟩)⟩
   ·obtain ⟨p, q, r⟩ := hx.2 (.inr (.inr h2))
    exact ⟨p, q, bset.2 (.inr r)⟩
 bb := h.bb
 b x y hx e := by
  obtain ⟨p, q, r⟩ := h.b x y hx e
  exact ⟨p, q, bset.2 (.inr r)⟩
 d := h.d
 k A r C e x hx hr := by
  rcases h.k A r C e x hx hr with h2 | ⟨y, h2, h3⟩ | h2
  ·exact .inl h2
  ·exact .inr (.inl ⟨y, h2.elim (fun h4 => .inl (.inl h4)) .inr, h3⟩)
  ·exact .inr (.inr h2)
theorem Wk.leave {g : List (List Int)} {B G : Int → Prop} {Sn Sn2 : List Bool} {O T : List Int} {m : Int} (h0 : Wk g B G Sn O) (hm : ¬ sn g Sn m) (h : Wk g B (fun x => G x ∨ x = m) Sn2 (O ++ T)) (hT : ∀ x ∈ T, Rch g m x) (hr : ∀ y, Ed g m y → sn g Sn2 y) : Wk g B G Sn2 (O ++ T ++ [m]) where
 len := h.len
 a x := by
  have e1 : x ∈ O ++ T ++ [m] ↔ x ∈ O ++ T ∨ x = m := by simp only [List.mem_append, List.mem_singleton]
  rw [h.a x, e1]
  constructor
  ·rintro (h2 | (h2 | h2) | h2)
   ·exact .inl h2
   ·exact .inr (.inl h2)
   ·exact .inr (.inr (.inr h2))
   ·exact .inr (.inr (.inl h2))
  ·rintro (h2 | h2 | (h2 | h2))
   ·exact .inl h2
   ·exact .inr (.inl (.inl h2))
   ·exact .inr (.inr h2)
   ·exact .inr (.inl (.inr h2))
 bb := h.bb
 b x y hx e := by
  rcases List.mem_append.1 hx with h2 | h2
  ·exact h.b x y h2 e
  ·rw [List.mem_singleton] at h2; subst h2; exact hr y e
 d x hx := by
  rcases List.mem_append.1 hx with h2 | h2
  ·exact h.d x h2
  ·rw [List.mem_singleton] at h2; subst h2
   exact fun hb => hm ((h0.a x).2 (.inl hb))
 k A r C e x hx hxr := by
  rcases List.eq_nil_or_concat C with rfl | ⟨C1, z, rfl⟩
  ·have e2 : O ++ T = A ∧ m = r := by
    have := List.append_inj' e (by simp)
    exact ⟨this.1, by simpa using this.2⟩
   obtain ⟨rfl, rfl⟩ := e2
   rcases List.mem_append.1 hx with h2 | h2
   ·refine Classical.byContradiction fun hn => ?_
    have hng : ¬ ∃ y, (G y ∨ B y) ∧ Rch g x y := fun h4 => hn (.inr (.inl h4))
    have key := hxr.closed (X := fun y => y ∈ O ∧ Rch g x y) (fun y z hy e' => by
     have hz := h0.b y z hy.1 e'
     have hxz := hy.2.tail e'
     rcases (h0.a z).1 hz with h5 | h5 | h5
     ·exact absurd ⟨z, .inr h5, hxz⟩ hng
     ·exact absurd ⟨z, .inl h5, hxz⟩ hng
     ·exact ⟨h5, hxz⟩) ⟨h2, .refl x⟩
    exact hm ((h0.a m).2 (.inr (.inr key.1)))
   ·exact .inr (.inr (hT x h2))
  ·have e2 : O ++ T = A ++ r :: C1 ∧ m = z := by
    rw [List.concat_eq_append] at e
    have e3 : O ++ T ++ [m] = (A ++ r :: C1) ++ [z] := by rw [e]; simp
    have := List.append_inj' e3 (by simp)
    exact ⟨this.1, by simpa using this.2⟩
   obtain ⟨e3, rfl⟩ := e2
   rcases h.k A r C1 e3 x hx hxr with ⟨y, h2, h3⟩ | ⟨y, h2, h3⟩ | h2
   ·exact .inl ⟨y, by simp [h2], h3⟩
   ·rcases h2 with (h2 | h2) | h2
    ·exact .inr (.inl ⟨y, .inl h2, h3⟩)
    ·subst h2; exact .inl ⟨y, by simp, h3⟩
    ·exact .inr (.inl ⟨y, .inr h2, h3⟩)
   ·exact .inr (.inr h2)
theorem walk_ev {g : List (List Int)} (hg : g.length ≤ 1048576) (ha : Arrows g) (B : Int → Prop) : ∀ (u : Nat) (G : Int → Prop) (Sn : List Bool) (O : List Int) (m : Int), Sn.count false ≤ u → O.length + Sn.count false ≤ 2097152 → 0 ≤ m → m < (g.length : Int) → Wk g B G Sn O →
  ∃ Sn' T, Ev (fun k => spec_walk.f k g m Sn O) (Sn', O ++ T) ∧ Wk g B G Sn' (O ++ T) ∧ (∀ x ∈ T, Rch g m x) ∧ sn g Sn' m ∧ Sn'.count false ≤ Sn.count false ∧ (O ++ T).length + Sn'.count false ≤ O.length + Sn.count false := by
 intro u
 induction u with
 | zero =>
  intro G Sn O m hu hb h0 h1 hw
  by_cases hs : Sn.getD m.toNat false = true
  ·exact ⟨Sn, [], ev_eq (Ev.step (f := fun _ => some (Sn, O)) (fun k => by simp only [spec_walk.f]; rw [if_pos ⟨h0, h1⟩, if_pos hs]) (Ev.now _)) (by simp), by simpa using hw, by simp, ⟨h0, h1, hs⟩, Nat.le_refl _, by simp⟩
  ·have := cset (l := Sn) (i := m.toNat) (by rw [hw.len]; omega) (Bool.eq_false_iff.mpr hs)
   omega
 | succ u ih =>
  intro G Sn O m hu hb h0 h1 hw
  by_cases hs : Sn.getD m.toNat false = true
  ·exact ⟨Sn, [], ev_eq (Ev.step (f := fun _ => some (Sn, O)) (fun k => by simp only [spec_walk.f]; rw [if_pos ⟨h0, h1⟩, if_pos hs]) (Ev.now _)) (by simp), by simpa using hw, by simp, ⟨h0, h1, hs⟩, Nat.le_refl _, by simp⟩
  ·have hc := cset (l := Sn) (i := m.toNat) (by rw [hw.len]; omega) (Bool.eq_false_iff.mpr hs)
   have er : rd_L1 g m = g.getD m.toNat [] := by simp [rd_L1]
   generalize hrow : g.getD m.toNat [] = row at er
   have hmem : row ∈ g := hrow ▸ getD_mem (show m.toNat < g.length by omega) []
   obtain ⟨hrl, hrr⟩ := ha row hmem
   have hed : ∀ y, Ed g m y ↔ y ∈ row := fun y => ⟨fun e => hrow ▸ e.2.2, fun e => ⟨h0, h1, by rw [hrow]; exact e⟩⟩
   have loop : ∀ (d i : Nat) (Sn1 : List Bool) (T1 : List Int), i + d = row.length → Sn1.count false ≤ u → Wk g B (fun x => G x ∨ x = m) Sn1 (O ++ T1) → (∀ x ∈ T1, Rch g m x) → (O ++ T1).length + Sn1.count false ≤ 2097152 → (∀ j, j < i → sn g Sn1 (row.getD j 0)) →
     ∃ Sn2 T2, Ev (fun k => spec_walk.l0 k g row (i : Int) Sn1 (O ++ T1)) (Sn2, O ++ T2) ∧ Wk g B (fun x => G x ∨ x = m) Sn2 (O ++ T2) ∧ (∀ x ∈ T2, Rch g m x) ∧ (∀ j, j < row.length → sn g Sn2 (row.getD j 0)) ∧ Sn2.count false ≤ Sn1.count false ∧ (O ++ T2).length + Sn2.count false ≤ (O ++ T1).length + Sn1.count false := by
    intro d
    induction d with
    | zero =>
     intro i Sn1 T1 hi hu1 hw1 hT1 hb1 hj
     exact ⟨Sn1, T1, Ev.step (f := fun _ => some (Sn1, O ++ T1)) (fun k => by simp only [spec_walk.l0]; rw [if_neg (by omega)]) (Ev.now _), hw1, hT1, fun j h => hj j (by omega), Nat.le_refl _, Nat.le_refl _⟩
    | succ d ihd =>
     intro i Sn1 T1 hi hu1 hw1 hT1 hb1 hj
     have hil : i < row.length := by omega
     obtain ⟨r0, r1⟩ := hrr _ (getD_mem hil 0)
     obtain ⟨Sn2, T, e1, hw2, hT, hs2, hc2, hl2⟩ := ih (fun x => G x ∨ x = m) Sn1 (O ++ T1) (row.getD i 0) hu1 hb1 r0 r1 hw1
     rw [List.append_assoc] at e1 hw2 hl2
     have hw2' : Wk g B (fun x => G x ∨ x = m) Sn2 ((O ++ T1) ++ T) := by rw [List.append_assoc]; exact hw2
     have hstep : Rch g m (row.getD i 0) := Rch.one ((hed _).2 (getD_mem hil 0))
     obtain ⟨Sn3, T3, e3, hw3, hT3, hj3, hc3, hl3⟩ := ihd (i + 1) Sn2 (T1 ++ T) (by omega) (by omega) hw2 (fun x hx => (List.mem_append.1 hx).elim (hT1 x) (fun h => hstep.trans (hT x h))) (by omega) (fun j hji => by
      by_cases hje : j = i
      ·subst hje; exact hs2
      ·exact hw1.mono hw2' (hj j (by omega)))
     refine ⟨Sn3, T3, ?_, hw3, hT3, hj3, by omega, by omega⟩
     refine Ev.step (fun k => by simp only [spec_walk.l0]; rw [if_pos (by omega), if_pos (by omega), rd_nat, wsucc (by omega)]) ?_
     exact Ev.bind e1 e3
   obtain ⟨Sn2, T2, e2, hw2, hT2, hj2, hc2, hl2⟩ := loop row.length 0 (Sn.set m.toNat true) [] (by omega) (by omega) (by simpa using hw.enter h0 h1) (by simp) (by simp; omega) (fun j h => absurd h (Nat.not_lt_zero j))
   rw [List.append_nil] at hl2
   have hns : ¬ sn g Sn m := fun h => hs h.2.2
   have hlv := hw.leave hns hw2 hT2 (fun y e => by
    obtain ⟨j, hj, ej⟩ := List.mem_iff_getElem.1 ((hed y).1 e)
    have := hj2 j hj
    rwa [gdE hj, ej] at this)
   have hlen : (O ++ T2).length < 17592186044416 := by omega
   refine ⟨Sn2, T2 ++ [m], ?_, by rw [← List.append_assoc]; exact hlv, fun x hx => ?_, hlv.a m |>.2 (.inr (.inr (by simp))), by omega, by rw [← List.append_assoc, List.length_append, List.length_singleton]; omega⟩
   ·refine Ev.step (fun k => by simp only [spec_walk.f]; rw [if_pos ⟨h0, h1⟩, if_neg hs, er]) ?_
    have e3 : Ev (fun k => spec_walk.l0 k g row 0 (Sn.set m.toNat true) O) (Sn2, O ++ T2) := by simpa using e2
    refine Ev.bind e3 ?_
    refine ev_eq (ev_pos hlen (Ev.now _)) (by simp)
   ·rcases List.mem_append.1 hx with h | h
    ·exact hT2 x h
    ·rw [List.mem_singleton] at h; subst h; exact .refl x
theorem l11_w (g : List (List Int)) (hg : g.length ≤ 1048576) (ha : Arrows g) (d : Nat) : ∀ (i : Nat) (Sn : List Bool) (O : List Int), i + d = g.length → O.length + Sn.count false ≤ 2097152 → Wk g (fun _ => False) (fun _ => False) Sn O → (∀ j : Nat, j < i → sn g Sn (j : Int)) →
  ∃ O', Ev (fun k => spec_l11Parts.w k g (i : Int) Sn O) O' ∧ O'.length ≤ 2097152 ∧ ∃ Sn', Wk g (fun _ => False) (fun _ => False) Sn' O' ∧ ∀ j : Nat, j < g.length → sn g Sn' (j : Int) := by
 induction d with
 | zero =>
  intro i Sn O hi hb hw hj
  exact ⟨O, Ev.step (f := fun _ => some O) (fun k => by simp only [spec_l11Parts.w]; rw [if_neg (by omega)]) (Ev.now _), by omega, Sn, hw, fun j h => hj j (by omega)⟩
 | succ d ih =>
  intro i Sn O hi hb hw hj
  obtain ⟨Sn1, T, e1, hw1, _, hs1, hc1, hl1⟩ := walk_ev hg ha (fun _ => False) (Sn.count false) (fun _ => False) Sn O (i : Int) (Nat.le_refl _) hb (by omega) (by omega) hw
  obtain ⟨O', e2, hO, hw2⟩ := ih (i + 1) Sn1 (O ++ T) (by omega) (by omega) hw1 (fun j h => by
   by_cases hji : j = i
   ·subst hji; exact hs1
   ·exact hw.mono hw1 (hj j (by omega)))
  exact ⟨O', Ev.step (fun k => by simp only [spec_l11Parts.w]; rw [if_pos (by omega), wsucc (by omega)]) (Ev.bind e1 e2), hO, hw2⟩
theorem l11_m (row : List Int) (hr : row.length ≤ 4194304) (d : Nat) : ∀ (i : Nat) (l : Int), i + d = row.length → ∃ l', Ev (fun k => spec_l11Parts.m k row (i : Int) l) l' ∧ (l' = l ∨ l' ∈ row) ∧ l' ≤ l ∧ ∀ j, i ≤ j → j < row.length → l' ≤ row.getD j 0 := by
 induction d with
 | zero =>
  intro i l hi
  exact ⟨l, Ev.step (f := fun _ => some l) (fun k => by simp only [spec_l11Parts.m]; rw [if_neg (by omega)]) (Ev.now _), .inl rfl, Int.le_refl _, fun j h1 h2 => by omega⟩
 | succ d ih =>
  intro i l hi
  obtain ⟨l', e, h1, h2, h3⟩ := ih (i + 1) (if row.getD i 0 < l then row.getD i 0 else l) (by omega)
  refine ⟨l', Ev.step (fun k => by simp only [spec_l11Parts.m]; rw [if_pos (by omega), if_pos (by omega), rd_nat, wsucc (by omega)]) e, ?_, ?_, fun j h4 h5 => ?_⟩
  ·rcases h1 with h1 | h1
   ·split at h1
    ·exact .inr (h1 ▸ getD_mem (by omega) 0)
    ·exact .inl h1
   ·exact .inr h1
  ·split at h2 <;> omega
  ·by_cases hj : j = i
   ·subst hj; split at h2 <;> omega
   ·exact h3 j (by omega) h5
theorem l11_s (row : List Int) (hr : row.length ≤ 4194304) (l : Int) (n : Nat) (hx : ∀ x ∈ row, 0 ≤ x ∧ x < (n : Int)) (d : Nat) : ∀ (i : Nat) (out : List Int), i + d = row.length → out.length = n →
  ∃ out', Ev (fun k => spec_l11Parts.s k row (i : Int) l out) out' ∧ out'.length = n ∧ ∀ v : Nat, v < n → out'.getD v 0 = if (v : Int) ∈ row.drop i then l else out.getD v 0 := by
 induction d with
 | zero =>
  intro i out hi ho
  refine ⟨out, Ev.step (f := fun _ => some out) (fun k => by simp only [spec_l11Parts.s]; rw [if_neg (by omega)]) (Ev.now _), ho, fun v _ => ?_⟩
  rw [List.drop_of_length_le (by omega), if_neg (by simp)]
 | succ d ih =>
  intro i out hi ho
  obtain ⟨x0, x1⟩ := hx _ (getD_mem (show i < row.length by omega) 0)
  obtain ⟨out', e, h1, h2⟩ := ih (i + 1) (out.set (row.getD i 0).toNat l) (by omega) (by rw [List.length_set]; exact ho)
  refine ⟨out', Ev.step (fun k => by simp only [spec_l11Parts.s]; rw [if_pos (by omega), rd_nat, if_pos ⟨by omega, x0, by omega⟩, wsucc (by omega)]) e, h1, fun v hv => ?_⟩
  rw [h2 v hv, drop_cons (show i < row.length by omega) 0, getD_set]
  by_cases c : (v : Int) ∈ row.drop (i + 1)
  ·rw [if_pos c, if_pos (by simp [c])]
  ·rw [if_neg c]
   by_cases c2 : (v : Int) = row.getD i 0
   ·rw [if_pos ⟨by omega, by omega⟩, if_pos (by simp [c2])]
   ·rw [if_neg (by omega), if_neg (by simp only [List.mem_cons, c2, c, or_self]; exact fun h => h)]
theorem l11_o (g : List (List Int)) (hg : g.length ≤ 1048576) (ha : Arrows g) (ht : tot g ≤ 1048576) (O : List Int) (hO : O.length ≤ 2097152) {SnF : List Bool} (hw : Wk g (fun _ => False) (fun _ => False) SnF O) (hall : ∀ x : Int, 0 ≤ x → x < (g.length : Int) → x ∈ O) (hin : ∀ x ∈ O, 0 ≤ x ∧ x < (g.length : Int)) : ∀ (c : Nat) (A D : List Int) (Sn : List Bool) (out : List Int), A.length = c → O = A ++ D → out.length = g.length → Sn.length = g.length →
  (∀ x, sn g Sn x ↔ (0 ≤ x ∧ x < (g.length : Int)) ∧ ∃ r ∈ D, Rch g x r) → (∀ v : Nat, sn g Sn (v : Int) → Least g (v : Int) (out.getD v 0)) → ∃ out', Ev (fun k => spec_l11Parts.o k O (turnedOf g) ((c : Int) - 1) Sn out) out' ∧ IsPart g out' := by
 intro c
 induction c with
 | zero =>
  intro A D Sn out hA hOD ho hS hch hl
  have hA0 : A = [] := List.eq_nil_of_length_eq_zero hA
  subst hA0
  refine ⟨out, Ev.step (f := fun _ => some out) (fun k => by simp only [spec_l11Parts.o]; rw [if_neg (by omega)]) (Ev.now _), ho, fun v hv => hl v ((hch v).2 ⟨⟨by omega, by omega⟩, (v : Int), ?_, .refl _⟩)⟩
  have := hall (v : Int) (by omega) (by omega)
  rwa [hOD] at this
 | succ c ih =>
  intro A D Sn out hA hOD ho hS hch hl
  rcases List.eq_nil_or_concat A with rfl | ⟨A1, r, rfl⟩
  ·simp at hA
  rw [List.concat_eq_append] at hA hOD
  have hA1 : A1.length = c := by simpa using hA
  have hOD' : O = A1 ++ r :: D := by rw [hOD]; simp
  have hrO : r ∈ O := by rw [hOD']; simp
  obtain ⟨r0, r1⟩ := hin r hrO
  have hML := turnedOf_length g
  have haM := scc_turned ha ht
  have esn : ∀ S x, sn (turnedOf g) S x ↔ sn g S x := fun S x => by unfold sn; rw [hML]
  have hrd : rd O (c : Int) = r := by
   rw [rd_nat, hOD', List.getD_eq_getElem?_getD, List.getElem?_append_right (by omega)]
   simp [hA1]
  have hOl : c < O.length := by rw [hOD']; simp; omega
  have hwM : Wk (turnedOf g) (sn g Sn) (fun _ => False) Sn [] :=
   ⟨by rw [hS, hML], fun x => by rw [esn]; simp, fun x y hx e => by
    obtain ⟨_, r', h2, h3⟩ := (hch x).1 hx
    have e2 := (Ed.turned ha).1 e
    exact (hch y).2 ⟨⟨e2.1, e2.2.1⟩, r', h2, Rch.head e2 h3⟩, by simp, by simp, fun A' r' C' e => by simp at e⟩
  have hcl : Sn.count false ≤ Sn.length := List.count_le_length
  obtain ⟨Sn', T, e1, hwT, hTr, hsr, hc1, hl1⟩ := walk_ev (by omega) haM (sn g Sn) (Sn.count false) (fun _ => False) Sn [] r (Nat.le_refl _) (by simp; omega) r0 (by omega) hwM
  rw [List.nil_append] at e1 hwT hl1
  have hTl : T.length ≤ 4194304 := by simp at hl1; omega
  have hTg : ∀ x ∈ T, Rch g x r := fun x hx => (hTr x hx).turned ha
  have hTs : ∀ x ∈ T, sn g Sn' x := fun x hx => (esn _ _).1 ((hwT.a x).2 (.inr (.inr hx)))
  have hTi : ∀ x ∈ T, 0 ≤ x ∧ x < (g.length : Int) := fun x hx => ⟨(hTs x hx).1, (hTs x hx).2.1⟩
  have hch' : ∀ x, sn g Sn' x ↔ (0 ≤ x ∧ x < (g.length : Int)) ∧ ∃ r' ∈ r :: D, Rch g x r' := by
   intro x
   constructor
   ·intro hx
    refine ⟨⟨hx.1, hx.2.1⟩, ?_⟩
    rcases (hwT.a x).1 ((esn _ _).2 hx) with h2 | h2 | h2
    ·obtain ⟨_, r', h3, h4⟩ := (hch x).1 h2
     exact ⟨r', by simp [h3], h4⟩
    ·exact h2.elim
    ·exact ⟨r, by simp, hTg x h2⟩
   ·rintro ⟨hx, r', h2, h3⟩
    rcases List.mem_cons.1 h2 with rfl | h2
    ·have := (h3.turned' ha).closed (X := sn (turnedOf g) Sn') (fun y z hy e => by
      rcases (hwT.a y).1 hy with h4 | h4 | h4
      ·exact (hwT.a z).2 (.inl (hwT.bb y z h4 e))
      ·exact h4.elim
      ·exact hwT.b y z h4 e) hsr
     exact (esn _ _).1 this
    ·exact (esn _ _).1 ((hwT.a x).2 (.inl ((hch x).2 ⟨hx, r', h2, h3⟩)))
  have hTn : ∀ x ∈ T, ∀ r' ∈ D, ¬ Rch g x r' := fun x hx r' hr' h => hwT.d x hx ((hch x).2 ⟨hTi x hx, r', hr', h⟩)
  have hback : ∀ x ∈ T, Rch g r x := fun x hx => by
   have hxO := hall x (hTi x hx).1 (hTi x hx).2
   rw [hOD'] at hxO
   rcases List.mem_append.1 hxO with h2 | h2
   ·rcases hw.k A1 r D hOD' x h2 (hTg x hx) with ⟨y, h3, h4⟩ | ⟨y, h3, _⟩ | h3
    ·exact absurd h4 (hTn x hx y h3)
    ·exact (h3.elim id id).elim
    ·exact h3
   ·rcases List.mem_cons.1 h2 with rfl | h2
    ·exact .refl _
    ·exact absurd (.refl x) (hTn x hx x h2)
  obtain ⟨l, e2, hl2, hl3, hl4⟩ := l11_m T hTl T.length 0 ((turnedOf g).length : Int) (by omega)
  obtain ⟨out2, e3, ho2, ho3⟩ := l11_s T hTl l g.length hTi T.length 0 out (by omega) ho
  obtain ⟨out', e4, hp⟩ := ih A1 (r :: D) Sn' out2 hA1 hOD' ho2 (by rw [hwT.len, hML]) hch' (fun v hv => by
   rw [ho3 v (by have := hv.2.1; omega), List.drop_zero]
   by_cases hvT : (v : Int) ∈ T
   ·rw [if_pos hvT]
    have hle : ∀ w ∈ T, l ≤ w := fun w hw' => by
     obtain ⟨j, hj, ej⟩ := List.mem_iff_getElem.1 hw'
     have := hl4 j (by omega) hj
     rwa [gdE hj, ej] at this
    have hlT : l ∈ T := by
     rcases hl2 with h2 | h2
     ·have h3 := hle _ hvT
      have h4 := (hTi _ hvT).2
      omega
     ·exact h2
    refine ⟨⟨(hTg _ hvT).trans (hback l hlT), (hTg l hlT).trans (hback _ hvT)⟩, fun w hsw => ?_⟩
    have hwr := hsw.1.lt ha (hTi _ hvT)
    have hws := (hch' w).2 ⟨hwr, r, by simp, hsw.2.trans (hTg _ hvT)⟩
    rcases (hwT.a w).1 ((esn _ _).2 hws) with h2 | h2 | h2
    ·obtain ⟨_, r', h3, h4⟩ := (hch w).1 h2
     exact absurd (hsw.1.trans h4) (hTn _ hvT r' h3)
    ·exact h2.elim
    ·exact hle w h2
   ·rw [if_neg hvT]
    refine hl v ?_
    rcases (hwT.a (v : Int)).1 ((esn _ _).2 hv) with h2 | h2 | h2
    ·exact h2
    ·exact h2.elim
    ·exact absurd h2 hvT)
  refine ⟨out', Ev.step (fun k => by simp only [spec_l11Parts.o]; rw [if_pos (by omega), if_pos (by omega), show ((c + 1 : Nat) : Int) - 1 = (c : Int) by omega, hrd]) ?_, hp⟩
  refine Ev.bind e1 (Ev.bind e2 (Ev.bind e3 ?_))
  have hwr : wrap64 ((c : Int) - 1) = (c : Int) - 1 := by unfold wrap64; omega
  simp only [hwr]
  exact e4
theorem l11Parts_ev (g : List (List Int)) (hg : g.length ≤ 1048576) (ha : Arrows g) (ht : tot g ≤ 1048576) : ∃ out, Ev (fun k => spec_l11Parts.f k g) out ∧ IsPart g out := by
 have h0 : Wk g (fun _ => False) (fun _ => False) (List.replicate g.length false) [] :=
  ⟨by simp, fun x => ⟨fun h => by
   have := h.2.2
   rw [List.getD_eq_getElem?_getD, List.getElem?_replicate] at this
   split at this <;> simp at this, fun h => by simp at h⟩, fun _ _ h => h.elim, by simp, by simp, fun A r C e => by simp at e⟩
 have hcl : (List.replicate g.length false).count false ≤ g.length := by have := List.count_le_length (a := false) (l := List.replicate g.length false); rw [List.length_replicate] at this; exact this
 obtain ⟨O, e1, hO, SnF, hw, hs⟩ := l11_w g hg ha g.length 0 (List.replicate g.length false) [] (by omega) (by simp; omega) h0 (fun j h => absurd h (Nat.not_lt_zero j))
 have hall : ∀ x : Int, 0 ≤ x → x < (g.length : Int) → x ∈ O := fun x x0 x1 => by
  have := hs x.toNat (by omega)
  rw [show ((x.toNat : Nat) : Int) = x by omega] at this
  rcases (hw.a x).1 this with h | h | h
  ·exact h.elim
  ·exact h.elim
  ·exact h
 have hin : ∀ x ∈ O, 0 ≤ x ∧ x < (g.length : Int) := fun x hx => by
  have := (hw.a x).2 (.inr (.inr hx))
  exact ⟨this.1, this.2.1⟩
 obtain ⟨out, e2, hp⟩ := l11_o g hg ha ht O hO hw hall hin O.length O [] (List.replicate g.length false) (List.replicate g.length 0) rfl (by simp) (by simp) (by simp) (fun x => ⟨fun h => by
   rcases (h0.a x).1 h with h2 | h2 | h2
   ·exact h2.elim
   ·exact h2.elim
   ·simp at h2, fun h => by simp at h⟩) (fun v h => by
   rcases (h0.a (v : Int)).1 h with h2 | h2 | h2
   ·exact h2.elim
   ·exact h2.elim
   ·simp at h2)
 refine ⟨out, ev_pos hg (Ev.bind e1 (Ev.bind (l11Turn_ev g hg ha (by omega)) (ev_pos (turnedOf_length g) ?_))), hp⟩
 have hwr : wrap64 ((O.length : Int) - 1) = (O.length : Int) - 1 := by unfold wrap64; omega
 simp only [hwr]
 exact e2
theorem gset {α : Type} {l : List α} {i j : Nat} {x d : α} : (l.set i x).getD j d = if i = j ∧ j < l.length then x else l.getD j d := by
 rw [List.getD_eq_getElem?_getD, List.getD_eq_getElem?_getD, List.getElem?_set]
 by_cases h : i = j
 ·subst h
  by_cases hl : i < l.length
  ·simp [hl]
  ·simp [hl]
 ·simp [h]
def stays (p : List Int) (v : Nat) (l : List Int) : List Int := l.filter (fun y => decide (p.getD v 0 = rd p y))
theorem within_l1 (p : List Int) (n j : Nat) (hn : n ≤ 1048576) (hp : p.length = n) (hj : j < n) (row : List Int) (hrl : row.length ≤ 1048576) (hr : ∀ w ∈ row, 0 ≤ w ∧ w < (n : Int)) (g : List (List Int)) (hg : g.length = n) (r : List (List Int)) (d : Nat) : ∀ (i : Nat) (y : List (List Int)), i + d = row.length → y.length = n → (y.getD j []).length ≤ i →
  Ev (fun k => spec_l11Within.l0 k p (y.set j (y.getD j [] ++ stays p j (row.drop i))) g (n : Int) ((j + 1 : Nat) : Int)) r → Ev (fun k => spec_l11Within.l1 k p y (j : Int) g (n : Int) (j : Int) row (row.length : Int) (i : Int)) r := by
 induction d with
 | zero =>
  intro i y hi hy hc h
  rw [List.drop_of_length_le (by omega)] at h
  have e : y.set j (y.getD j [] ++ stays p j []) = y := by
   rw [show stays p j [] = [] from rfl, List.append_nil, gdE (show j < y.length by omega), List.set_getElem_self]
  rw [e] at h
  exact Ev.step (fun k => by simp only [spec_l11Within.l1]; rw [if_neg (by omega), wsucc (by omega)]) h
 | succ d ih =>
  intro i y hi hy hc h
  have hil : i < row.length := by omega
  obtain ⟨w0, w1⟩ := hr _ (getD_mem hil 0)
  rw [drop_cons hil 0] at h
  have er : rd_L1 y (j : Int) = y.getD j [] := by simp [rd_L1]
  by_cases c : p.getD j 0 = rd p (row.getD i 0)
  ·have es : stays p j (row.getD i 0 :: row.drop (i + 1)) = row.getD i 0 :: stays p j (row.drop (i + 1)) := by unfold stays; rw [List.filter_cons_of_pos (by simpa using c)]
   rw [es] at h
   refine Ev.step (fun k => by simp only [spec_l11Within.l1]; rw [if_pos (by omega), if_pos (by omega), if_pos (by omega), if_pos (by omega), if_pos (by omega), rd_nat, rd_nat, if_pos w0, if_pos (by omega), if_pos c, if_pos (by omega), er, if_pos (by omega), wsucc (by omega), Int.toNat_natCast]) ?_
   refine ih (i + 1) _ (by omega) (by rw [List.length_set]; exact hy) (by rw [gset, if_pos ⟨rfl, by omega⟩, List.length_append, List.length_singleton]; omega) ?_
   rw [gset, if_pos ⟨rfl, by omega⟩, List.set_set]
   simpa using h
  ·have es : stays p j (row.getD i 0 :: row.drop (i + 1)) = stays p j (row.drop (i + 1)) := by unfold stays; rw [List.filter_cons_of_neg (by simpa using c)]
   rw [es] at h
   refine Ev.step (fun k => by simp only [spec_l11Within.l1]; rw [if_pos (by omega), if_pos (by omega), if_pos (by omega), if_pos (by omega), if_pos (by omega), rd_nat, rd_nat, if_pos w0, if_pos (by omega), if_neg c, wsucc (by omega)]) ?_
   exact ih (i + 1) _ (by omega) hy (by omega) h
theorem within_l0 (g : List (List Int)) (hn : g.length ≤ 1048576) (ha : Arrows g) (p : List Int) (hp : p.length = g.length) (d : Nat) : ∀ (j : Nat) (y : List (List Int)), j + d = g.length → y.length = g.length → (∀ v, j ≤ v → y.getD v [] = []) → (∀ v, v < j → y.getD v [] = stays p v (g.getD v [])) →
  ∃ W, Ev (fun k => spec_l11Within.l0 k p y g (g.length : Int) (j : Int)) W ∧ W.length = g.length ∧ ∀ v, v < g.length → W.getD v [] = stays p v (g.getD v []) := by
 induction d with
 | zero =>
  intro j y hj hy h0 h1
  exact ⟨y, Ev.step (f := fun _ => some y) (fun k => by simp only [spec_l11Within.l0]; rw [if_neg (by omega)]) (Ev.now _), hy, fun v hv => h1 v (by omega)⟩
 | succ d ih =>
  intro j y hj hy h0 h1
  have hjl : j < g.length := by omega
  obtain ⟨hrl, hrr⟩ := ha _ (getD_mem hjl [])
  have er : rd_L1 g (j : Int) = g.getD j [] := by simp [rd_L1]
  obtain ⟨W, e, hW, hw⟩ := ih (j + 1) (y.set j (y.getD j [] ++ stays p j ((g.getD j []).drop 0))) (by omega) (by rw [List.length_set]; exact hy) (fun v hv => by
   rw [gset, if_neg (by omega)]; exact h0 v (by omega)) (fun v hv => by
   rw [gset]
   by_cases c : j = v
   ·subst c
    rw [if_pos ⟨rfl, by omega⟩, h0 j (Nat.le_refl _), List.drop_zero, List.nil_append]
   ·rw [if_neg (by omega)]; exact h1 v (by omega))
  refine ⟨W, Ev.step (fun k => by simp only [spec_l11Within.l0]; rw [if_pos (by omega), if_pos (by omega), if_pos (by omega), er]) ?_, hW, hw⟩
  exact within_l1 p g.length j hn hp hjl (g.getD j []) hrl hrr g rfl W (g.getD j []).length 0 y (by omega) hy (by rw [h0 j (Nat.le_refl _)]; simp) e
theorem within_ev (g : List (List Int)) (hn : g.length ≤ 1048576) (ha : Arrows g) (p : List Int) (hp : p.length = g.length) : ∃ W, Ev (fun k => spec_l11Within.f k g p) W ∧ W.length = g.length ∧ ∀ v, v < g.length → W.getD v [] = stays p v (g.getD v []) := by
 obtain ⟨W, e, h1, h2⟩ := within_l0 g hn ha p hp g.length 0 (List.replicate g.length []) (by omega) (by simp) (fun v _ => by
  rw [List.getD_eq_getElem?_getD, List.getElem?_replicate]; split <;> rfl) (fun v hv => absurd hv (Nat.not_lt_zero v))
 refine ⟨W, ev_pos (by omega) (ev_pos (by omega) ?_), h1, h2⟩
 rw [Int.toNat_natCast]
 exact e
def trues : Nat → List Bool → List Int
 | _, [] => []
 | j, b :: t => if b = true then (j : Int) :: trues (j + 1) t else trues (j + 1) t
theorem trues_length : ∀ (l : List Bool) (j : Nat), (trues j l).length ≤ l.length
 | [], _ => Nat.le_refl 0
 | b :: t, j => by
  have := trues_length t (j + 1)
  simp only [trues]
  split <;> simp <;> omega
theorem rdOf_nat (l : List Bool) (j : Nat) : rdOf false l (j : Int) = l.getD j false := by simp [rdOf]
def Lp (g : List (List Int)) (p : List Int) (q : Int) : Prop := ∃ x : Nat, x < g.length ∧ p.getD x 0 = q ∧ ∃ y ∈ g.getD x [], rd p y = q
def Mt (p goal : List Int) (q : Int) : Prop := ∃ m ∈ goal, rd p m = q
def PIn (n : Nat) (p : List Int) : Prop := p.length = n ∧ ∀ v, v < n → 0 ≤ p.getD v 0 ∧ p.getD v 0 < (n : Int)
theorem PIn.at_ {n : Nat} {p : List Int} (h : PIn n p) {w : Int} (w0 : 0 ≤ w) (w1 : w < (n : Int)) : 0 ≤ rd p w ∧ rd p w < (n : Int) := h.2 w.toNat (by omega)
theorem IsPart.pin {g : List (List Int)} (ha : Arrows g) {p : List Int} (h : IsPart g p) : PIn g.length p :=
 ⟨h.1, fun v hv => (h.2 v hv).1.1.lt ha ⟨by omega, by omega⟩⟩
theorem rdB (l : List Bool) {x : Int} : rdOf false l x = l.getD x.toNat false := by simp [rdOf]
theorem sfair_l0 (g go W : List (List Int)) (p met : List Int) (hn : g.length ≤ 1048576) (hp : PIn g.length p) (hW : W.length = g.length) (d : Nat) : ∀ (i : Nat) (x7 : List Bool), i + d = g.length → x7.length = g.length → (∀ q, q < g.length → (x7.getD q false = true ↔ ∃ v, v < i ∧ p.getD v 0 = (q : Int) ∧ 0 < (W.getD v []).length)) →
  ∃ y7, y7.length = g.length ∧ (∀ q, q < g.length → (y7.getD q false = true ↔ ∃ v, v < g.length ∧ p.getD v 0 = (q : Int) ∧ 0 < (W.getD v []).length)) ∧ ∀ r, Ev (fun k => spec_l11Fair.l1 k g go p y7 met go (go.length : Int) 0) r → Ev (fun k => spec_l11Fair.l0 k g go p x7 met W (W.length : Int) (i : Int)) r := by
 induction d with
 | zero =>
  intro i x7 hi hx hq
  have e : i = g.length := by omega
  subst e
  exact ⟨x7, hx, hq, fun r h => Ev.step (fun k => by simp only [spec_l11Fair.l0]; rw [if_neg (by omega)]) h⟩
 | succ d ih =>
  intro i x7 hi hx hq
  have hpl := hp.1
  obtain ⟨p0, p1⟩ := hp.2 i (by omega)
  have er : rd_L1 W (i : Int) = W.getD i [] := by simp [rd_L1]
  by_cases c : x7.getD (p.getD i 0).toNat false = true
  ·obtain ⟨y7, h1, h2, h3⟩ := ih (i + 1) (x7.set (p.getD i 0).toNat true) (by omega) (by rw [List.length_set]; exact hx) (fun q hql => by
    rw [gset]
    constructor
    ·intro h
     split at h
     ·rename_i h4
      obtain ⟨v, v1, v2, v3⟩ := (hq q hql).1 (h4.1 ▸ c)
      exact ⟨v, by omega, v2, v3⟩
     ·obtain ⟨v, v1, v2, v3⟩ := (hq q hql).1 h
      exact ⟨v, by omega, v2, v3⟩
    ·rintro ⟨v, v1, v2, v3⟩
     split
     ·rfl
     ·rename_i h4
      refine (hq q hql).2 ⟨v, ?_, v2, v3⟩
      by_cases e : v = i
      ·subst e; exact absurd ⟨by omega, by omega⟩ h4
      ·omega)
   exact ⟨y7, h1, h2, fun r h => Ev.step (fun k => by simp only [spec_l11Fair.l0]; rw [if_pos (by omega), if_pos (by omega), if_pos (by omega), if_pos (by omega), rd_nat, if_pos p0, if_pos (by omega), rdB, if_pos c, wsucc (by omega)]) (h3 r h)⟩
  ·obtain ⟨y7, h1, h2, h3⟩ := ih (i + 1) (x7.set (p.getD i 0).toNat (decide (((W.getD i []).length : Int) > 0))) (by omega) (by rw [List.length_set]; exact hx) (fun q hql => by
    rw [gset]
    constructor
    ·intro h
     split at h
     ·rename_i h4
      have := of_decide_eq_true h
      exact ⟨i, by omega, by omega, by omega⟩
     ·obtain ⟨v, v1, v2, v3⟩ := (hq q hql).1 h
      exact ⟨v, by omega, v2, v3⟩
    ·rintro ⟨v, v1, v2, v3⟩
     split
     ·rename_i h4
      refine decide_eq_true ?_
      by_cases e : v = i
      ·subst e; omega
      ·exact absurd (h4.1 ▸ (hq q hql).2 ⟨v, by omega, v2, v3⟩) c
     ·rename_i h4
      refine (hq q hql).2 ⟨v, ?_, v2, v3⟩
      by_cases e : v = i
      ·subst e; exact absurd ⟨by omega, by omega⟩ h4
      ·omega)
   exact ⟨y7, h1, h2, fun r h => Ev.step (fun k => by simp only [spec_l11Fair.l0]; rw [if_pos (by omega), if_pos (by omega), if_pos (by omega), if_pos (by omega), rd_nat, if_pos p0, if_pos (by omega), rdB, if_neg c, er, wsucc (by omega)]) (h3 r h)⟩
theorem sfair_l2 (g go : List (List Int)) (p : List Int) (x7 : List Bool) (hp : PIn g.length p) (i : Nat) (hi : i < 1048576) (row : List Int) (hrl : row.length ≤ 1048576) (hr : ∀ w ∈ row, 0 ≤ w ∧ w < (g.length : Int)) (d : Nat) : ∀ (j : Nat) (x8 : List Int), j + d = row.length → x8.length = g.length →
  ∃ y8, y8.length = g.length ∧ (∀ q, q < g.length → (x8.getD q 0 = (i : Int) ∧ Mt p (row.drop j) (q : Int) → y8.getD q 0 = (i : Int) + 1) ∧ (¬ (x8.getD q 0 = (i : Int) ∧ Mt p (row.drop j) (q : Int)) → y8.getD q 0 = x8.getD q 0)) ∧
   ∀ r, Ev (fun k => spec_l11Fair.l1 k g go p x7 y8 go (go.length : Int) ((i + 1 : Nat) : Int)) r → Ev (fun k => spec_l11Fair.l2 k g go p x7 x8 (i : Int) go (go.length : Int) (i : Int) row (row.length : Int) (j : Int)) r := by
 induction d with
 | zero =>
  intro j x8 hj hx
  refine ⟨x8, hx, fun q _ => ⟨fun h => ?_, fun _ => rfl⟩, fun r h => Ev.step (fun k => by simp only [spec_l11Fair.l2]; rw [if_neg (by omega), wsucc (by omega)]) h⟩
  obtain ⟨m, hm, _⟩ := h.2
  rw [List.drop_of_length_le (by omega)] at hm
  simp at hm
 | succ d ih =>
  intro j x8 hj hx
  have hjl : j < row.length := by omega
  have hpl := hp.1
  obtain ⟨w0, w1⟩ := hr _ (getD_mem hjl 0)
  obtain ⟨p0, p1⟩ := hp.at_ w0 w1
  rw [drop_cons hjl 0]
  have hM : ∀ q : Int, Mt p (row.getD j 0 :: row.drop (j + 1)) q ↔ rd p (row.getD j 0) = q ∨ Mt p (row.drop (j + 1)) q := fun q => by
   unfold Mt; simp only [List.mem_cons, exists_eq_or_imp]
  have e8 : rd x8 (rd p (row.getD j 0)) = x8.getD (rd p (row.getD j 0)).toNat 0 := rfl
  generalize hP : rd p (row.getD j 0) = P at *
  by_cases c : x8.getD P.toNat 0 = (i : Int)
  ·obtain ⟨y8, h1, h2, h3⟩ := ih (j + 1) (x8.set P.toNat ((i : Int) + 1)) (by omega) (by rw [List.length_set]; exact hx)
   refine ⟨y8, h1, fun q hq => ?_, fun r h => Ev.step (fun k => by simp only [spec_l11Fair.l2]; rw [if_pos (by omega), if_pos (by omega), if_pos (by omega), rd_nat, if_pos w0, if_pos (by omega), hP, if_pos p0, if_pos (by omega), e8, if_pos c, wsucc (j := i) (by omega), wsucc (j := j) (by omega), show ((i + 1 : Nat) : Int) = (i : Int) + 1 by omega]) (h3 r h)⟩
   have k2 := h2 q hq
   rw [gset] at k2
   rw [hM]
   by_cases e : P.toNat = q ∧ q < x8.length
   ·rw [if_pos e] at k2
    have h4 := k2.2 (fun h => by omega)
    have e5 : x8.getD q 0 = (i : Int) := e.1 ▸ c
    exact ⟨fun _ => h4, fun h => absurd ⟨e5, .inl (by omega)⟩ h⟩
   ·rw [if_neg e] at k2
    have hne : P ≠ (q : Int) := fun h => e ⟨by omega, by omega⟩
    exact ⟨fun h => k2.1 ⟨h.1, h.2.resolve_left hne⟩, fun h => k2.2 (fun h' => h ⟨h'.1, .inr h'.2⟩)⟩
  ·obtain ⟨y8, h1, h2, h3⟩ := ih (j + 1) x8 (by omega) hx
   refine ⟨y8, h1, fun q hq => ?_, fun r h => Ev.step (fun k => by simp only [spec_l11Fair.l2]; rw [if_pos (by omega), if_pos (by omega), if_pos (by omega), rd_nat, if_pos w0, if_pos (by omega), hP, if_pos p0, if_pos (by omega), e8, if_neg c, wsucc (by omega)]) (h3 r h)⟩
   have k2 := h2 q hq
   rw [hM]
   have hne : x8.getD q 0 = (i : Int) → P ≠ (q : Int) := fun h h' => c (by rw [show P.toNat = q by omega]; exact h)
   exact ⟨fun h => k2.1 ⟨h.1, h.2.resolve_left (hne h.1)⟩, fun h => k2.2 (fun h' => h ⟨h'.1, .inr h'.2⟩)⟩
theorem sfair_l1 (g go : List (List Int)) (p : List Int) (x7 : List Bool) (hn : g.length ≤ 1048576) (hp : PIn g.length p) (hgo : go.length ≤ 1048575) (hr : ∀ x ∈ go, x.length ≤ 1048576 ∧ ∀ w ∈ x, 0 ≤ w ∧ w < (g.length : Int)) (d : Nat) : ∀ (i : Nat) (x8 : List Int), i + d = go.length → x8.length = g.length → (∀ q, q < g.length → (x8.getD q 0 ≤ (i : Int) ∧ (x8.getD q 0 = (i : Int) ↔ ∀ t, t < i → Mt p (go.getD t []) (q : Int)))) →
  ∃ y8, y8.length = g.length ∧ (∀ q, q < g.length → (y8.getD q 0 = (go.length : Int) ↔ ∀ t, t < go.length → Mt p (go.getD t []) (q : Int))) ∧ ∀ r, Ev (fun k => spec_l11Fair.l3 k go p x7 y8 [] (g.length : Int) 0) r → Ev (fun k => spec_l11Fair.l1 k g go p x7 x8 go (go.length : Int) (i : Int)) r := by
 induction d with
 | zero =>
  intro i x8 hi hx hq
  have e : i = go.length := by omega
  subst e
  exact ⟨x8, hx, fun q h => (hq q h).2, fun r h => Ev.step (fun k => by simp only [spec_l11Fair.l1]; rw [if_neg (by omega)]) h⟩
 | succ d ih =>
  intro i x8 hi hx hq
  have hil : i < go.length := by omega
  obtain ⟨hrl, hrr⟩ := hr _ (getD_mem hil [])
  have er : rd_L1 go (i : Int) = go.getD i [] := by simp [rd_L1]
  obtain ⟨y8, h1, h2, h3⟩ := sfair_l2 g go p x7 hp i (by omega) (go.getD i []) hrl hrr (go.getD i []).length 0 x8 (by omega) hx
  simp only [List.drop_zero] at h2
  obtain ⟨z8, k1, k2, k3⟩ := ih (i + 1) y8 (by omega) h1 (fun q hql => by
   obtain ⟨q1, q2⟩ := hq q hql
   obtain ⟨q3, q4⟩ := h2 q hql
   have hall : (∀ t, t < i + 1 → Mt p (go.getD t []) (q : Int)) ↔ (∀ t, t < i → Mt p (go.getD t []) (q : Int)) ∧ Mt p (go.getD i []) (q : Int) :=
    ⟨fun h => ⟨fun t ht => h t (by omega), h i (by omega)⟩, fun h t ht => by
     by_cases e : t = i
     ·subst e; exact h.2
     ·exact h.1 t (by omega)⟩
   rw [hall, ← q2]
   by_cases c : x8.getD q 0 = (i : Int) ∧ Mt p (go.getD i []) (q : Int)
   ·have := q3 c
    exact ⟨by omega, fun _ => c, fun _ => by omega⟩
   ·have := q4 c
    exact ⟨by omega, fun h => by omega, fun h => absurd h c⟩)
  exact ⟨z8, k1, k2, fun r h => Ev.step (fun k => by simp only [spec_l11Fair.l1]; rw [if_pos (by omega), if_pos (by omega), if_pos (by omega), er]; rfl) (h3 r (k3 r h))⟩
theorem sfair_l3 (g go : List (List Int)) (p : List Int) (x7 : List Bool) (x8 : List Int) (bl : List Bool) (hn : g.length ≤ 1048576) (hp : PIn g.length p) (h7 : x7.length = g.length) (h8 : x8.length = g.length) (hb : bl.length = g.length) (hbl : ∀ v, v < g.length → (bl.getD v false = true ↔ x7.getD (p.getD v 0).toNat false = true ∧ x8.getD (p.getD v 0).toNat 0 = (go.length : Int))) (d : Nat) : ∀ (j : Nat) (out : List Int), j + d = g.length → out.length ≤ j →
  Ev (fun k => spec_l11Fair.l3 k go p x7 x8 out (g.length : Int) (j : Int)) (out ++ trues j (bl.drop j)) := by
 induction d with
 | zero =>
  intro j out hj ho
  refine ev_eq (Ev.step (f := fun _ => some out) (fun k => by simp only [spec_l11Fair.l3]; rw [if_neg (by omega)]) (Ev.now _)) ?_
  rw [List.drop_of_length_le (by omega)]; simp [trues]
 | succ d ih =>
  intro j out hj ho
  have hpl := hp.1
  obtain ⟨p0, p1⟩ := hp.2 j (by omega)
  have e8 : rd x8 (p.getD j 0) = x8.getD (p.getD j 0).toNat 0 := rfl
  have hj' := hbl j (by omega)
  rw [drop_cons (show j < bl.length by omega) false, trues]
  by_cases c7 : x7.getD (p.getD j 0).toNat false = true
  ·by_cases c8 : x8.getD (p.getD j 0).toNat 0 = (go.length : Int)
   ·rw [if_pos (hj'.2 ⟨c7, c8⟩)]
    refine Ev.step (fun k => by simp only [spec_l11Fair.l3]; rw [if_pos (by omega), if_pos (by omega), if_pos (by omega), rd_nat, if_pos p0, if_pos (by omega), rdB, if_pos c7, if_pos (by omega), e8, if_pos c8, if_pos (by omega), wsucc (by omega)]) ?_
    exact ev_eq (ih (j + 1) (out ++ [(j : Int)]) (by omega) (by simp; omega)) (by simp)
   ·rw [if_neg (fun h => c8 (hj'.1 h).2)]
    exact Ev.step (fun k => by simp only [spec_l11Fair.l3]; rw [if_pos (by omega), if_pos (by omega), if_pos (by omega), rd_nat, if_pos p0, if_pos (by omega), rdB, if_pos c7, if_pos (by omega), e8, if_neg c8, wsucc (by omega)]) (ih (j + 1) out (by omega) (by omega))
  ·rw [if_neg (fun h => c7 (hj'.1 h).1)]
   exact Ev.step (fun k => by simp only [spec_l11Fair.l3]; rw [if_pos (by omega), if_pos (by omega), if_pos (by omega), rd_nat, if_pos p0, if_pos (by omega), rdB, if_neg c7, wsucc (by omega)]) (ih (j + 1) out (by omega) (by omega))
def FairB (g go : List (List Int)) (p : List Int) (bl : List Bool) : Prop := bl.length = g.length ∧ ∀ v, v < g.length → (bl.getD v false = true ↔ Lp g p (p.getD v 0) ∧ ∀ t, t < go.length → Mt p (go.getD t []) (p.getD v 0))
theorem FairB.uniq {g go : List (List Int)} {p : List Int} {a b : List Bool} (h : FairB g go p a) (k : FairB g go p b) : a = b := by
 refine List.ext_getElem (by rw [h.1, k.1]) fun i h1 h2 => ?_
 have e1 := h.2 i (by rw [← h.1]; exact h1)
 have e2 := k.2 i (by rw [← h.1]; exact h1)
 rw [gdE h1] at e1
 rw [gdE h2] at e2
 exact Bool.eq_iff_iff.2 (e1.trans e2.symm)
theorem sfair_ev (g go : List (List Int)) (p : List Int) (hn : g.length ≤ 1048576) (ha : Arrows g) (hp : PIn g.length p) (hgo : go.length ≤ 1048575) (hr : ∀ x ∈ go, x.length ≤ 1048576 ∧ ∀ w ∈ x, 0 ≤ w ∧ w < (g.length : Int)) (hparts : Ev (fun k => spec_l11Parts.f k g) p) :
  ∃ bl, FairB g go p bl ∧ Ev (fun k => spec_l11Fair.f k g go) (trues 0 bl) := by
 obtain ⟨W, e1, hW, hw⟩ := within_ev g hn ha p hp.1
 have h0 : ∀ q, (List.replicate g.length false).getD q false = false := fun q => by
  rw [List.getD_eq_getElem?_getD, List.getElem?_replicate]; split <;> rfl
 have h0i : ∀ q, (List.replicate g.length (0 : Int)).getD q 0 = 0 := fun q => by
  rw [List.getD_eq_getElem?_getD, List.getElem?_replicate]; split <;> rfl
 obtain ⟨y7, l7, q7, c7⟩ := sfair_l0 g go W p (List.replicate g.length 0) hn hp hW g.length 0 (List.replicate g.length false) (by omega) (by simp) (fun q _ => ⟨fun h => by rw [h0] at h; exact absurd h (by decide), fun ⟨v, hv, _⟩ => absurd hv (Nat.not_lt_zero v)⟩)
 obtain ⟨y8, l8, q8, c8⟩ := sfair_l1 g go p y7 hn hp hgo hr go.length 0 (List.replicate g.length 0) (by omega) (by simp) (fun q _ => ⟨by rw [h0i]; omega, fun _ t ht => absurd ht (Nat.not_lt_zero t), fun _ => by rw [h0i]; rfl⟩)
 let bl : List Bool := (List.range g.length).map (fun v => y7.getD (p.getD v 0).toNat false && decide (y8.getD (p.getD v 0).toNat 0 = (go.length : Int)))
 have hbl : bl.length = g.length := by simp [bl]
 have hb : ∀ v, v < g.length → (bl.getD v false = true ↔ y7.getD (p.getD v 0).toNat false = true ∧ y8.getD (p.getD v 0).toNat 0 = (go.length : Int)) := fun v hv => by
  rw [gdE (show v < bl.length by omega)]
  simp [bl]
 refine ⟨bl, ⟨hbl, fun v hv => ?_⟩, ?_⟩
 ·obtain ⟨p0, p1⟩ := hp.2 v hv
  have ep : (((p.getD v 0).toNat : Nat) : Int) = p.getD v 0 := by omega
  rw [hb v hv, q7 _ (by omega), q8 _ (by omega), ep]
  refine and_congr ⟨?_, ?_⟩ Iff.rfl
  ·rintro ⟨x, x1, x2, x3⟩
   rw [hw x x1] at x3
   obtain ⟨y, hy⟩ := List.exists_mem_of_length_pos x3
   have := List.mem_filter.1 hy
   exact ⟨x, x1, x2, y, this.1, by rw [← of_decide_eq_true this.2]; exact x2⟩
  ·rintro ⟨x, x1, x2, y, y1, y2⟩
   refine ⟨x, x1, x2, ?_⟩
   rw [hw x x1]
   exact List.length_pos_of_mem (List.mem_filter.2 ⟨y1, decide_eq_true (by rw [x2, y2])⟩)
 ·refine Ev.bind hparts (Ev.bind e1 (ev_pos (by omega) (ev_pos (by omega) (ev_pos (by omega) ?_))))
  rw [Int.toNat_natCast]
  refine c7 _ (c8 _ ?_)
  exact ev_eq (sfair_l3 g go p y7 y8 bl hn hp l7 l8 hbl hb g.length 0 [] (by omega) (by simp)) (by simp)
theorem l1Own_eq (l : List Int) (h : l.length ≤ 1048576) : spec_l1Own.f l = some l := by
 simp only [spec_l1Own.f, Option.bind_some, List.nil_append, List.length_nil]
 rw [if_pos (by omega)]
theorem relax_both (g : List (List Int)) (hg : g.length ≤ 1048576) (v : Int) (ws : List Int) (hw : ∀ w ∈ ws, 0 ≤ w ∧ w < (g.length : Int)) (hwl : ws.length ≤ 1048576) (N : Nat) (hN : N ≤ 4194304) (c : Int) (hc : c ≤ 4194304) (hv0 : 0 ≤ v) (hv1 : v < (g.length : Int)) (hwv : ws = g.getD v.toNat []) {Rz : List Int → Prop}
  (M : ∀ st q, BI g.length N (c + 1) st q → Par g st → ∃ r', Rz r' ∧ Ev (fun k => impl_stepsFrom.l1 k g st q) r' ∧ Ev (fun k => spec_l11Far.l2 k g st q) r') (d : Nat) : ∀ (j : Nat) (st q : List Int), j + d = ws.length → BI g.length N (c + 1) st q → Par g st → 0 ≤ st.getD v.toNat 0 → st.getD v.toNat 0 ≤ c →
  ∃ r', Rz r' ∧ Ev (fun k => impl_stepsFrom.l2 k g st (v :: q) ws (ws.length : Int) (j : Int)) r' ∧ Ev (fun k => spec_l11Far.l3 k g st q v ws (ws.length : Int) (j : Int)) r' := by
 induction d with
 | zero =>
  intro j st q hj hb hp h0 h1
  obtain ⟨r', hr, e1, e2⟩ := M st q hb hp
  exact ⟨r', hr, Ev.step (fun k => by simp only [impl_stepsFrom.l2]; rw [if_neg (by omega), if_pos (by simp only [List.length_cons]; omega)]; rfl) e1, Ev.step (fun k => by simp only [spec_l11Far.l3]; rw [if_neg (by omega)]) e2⟩
 | succ d ih =>
  intro j st q hj hb hp h0 h1
  have hl := hb.len
  have hm := hw _ (getD_mem (l := ws) (j := j) (by omega) 0)
  have hs := hb.sum
  obtain ⟨u, hu⟩ := Int.eq_ofNat_of_zero_le hm.1
  have er : rd st (ws.getD j 0) = st.getD (ws.getD j 0).toNat 0 := by rw [hu, rd_nat]; rfl
  have ev : rd st v = st.getD v.toNat 0 := by obtain ⟨u', rfl⟩ := Int.eq_ofNat_of_zero_le hv0; rw [rd_nat]; rfl
  have eh : rd (v :: q) 0 = v := by simp [rd]
  by_cases hn : st.getD (ws.getD j 0).toNat 0 < 0
  ·have hb2 := hb.set (d := st.getD v.toNat 0) hm.1 hm.2 hn (by omega) h0
   have hne : ¬ ((ws.getD j 0).toNat = v.toNat ∧ v.toNat < st.length) := fun h => by rw [h.1] at hn; omega
   obtain ⟨r', hr, e1, e2⟩ := ih (j + 1) _ _ (by omega) hb2 (hp.set hl (by omega) (by rw [← hwv, show (((ws.getD j 0).toNat : Nat) : Int) = ws.getD j 0 by omega]; exact getD_mem (by omega) 0) hn h0) (by rw [getD_set, if_neg hne]; exact h0) (by rw [getD_set, if_neg hne]; exact h1)
   have ew : wrap64 (st.getD v.toNat 0 + 1) = st.getD v.toNat 0 + 1 := wid (by omega) (by omega)
   refine ⟨r', hr, ?_, ?_⟩
   ·exact Ev.step (fun k => by simp only [impl_stepsFrom.l2]; rw [if_pos (by omega), if_pos (by omega), if_pos (by omega), rd_nat, if_pos hm.1, if_pos (by omega), er, if_pos hn, if_pos (by simp only [List.length_cons]; omega), eh, if_pos hv0, if_pos (by omega), if_pos (by simp only [List.length_cons]; omega), ev, ew, wsucc (by omega)]; rfl) e1
   ·exact Ev.step (fun k => by simp only [spec_l11Far.l3]; rw [if_pos (by omega), if_pos (by omega), if_pos (by omega), rd_nat, if_pos hm.1, if_pos (by omega), er, if_pos hn, if_pos hv0, if_pos (by omega), if_pos (by omega), ev, ew, wsucc (by omega)]) e2
  ·obtain ⟨r', hr, e1, e2⟩ := ih (j + 1) st q (by omega) hb hp h0 h1
   refine ⟨r', hr, ?_, ?_⟩
   ·exact Ev.step (fun k => by simp only [impl_stepsFrom.l2]; rw [if_pos (by omega), if_pos (by omega), if_pos (by omega), rd_nat, if_pos hm.1, if_pos (by omega), er, if_neg hn, wsucc (by omega)]) e1
   ·exact Ev.step (fun k => by simp only [spec_l11Far.l3]; rw [if_pos (by omega), if_pos (by omega), if_pos (by omega), rd_nat, if_pos hm.1, if_pos (by omega), er, if_neg hn, wsucc (by omega)]) e2
theorem bfs_both (g : List (List Int)) (hg : g.length ≤ 1048576) (ha : Arrows g) : ∀ (N : Nat) (st q : List Int) (c : Int), 0 ≤ c → c + N ≤ 4194304 → BI g.length N c st q → Par g st →
  ∃ r, (r.length = g.length ∧ Par g r ∧ ∀ x ∈ r, x ≤ c + N) ∧ Ev (fun k => impl_stepsFrom.l1 k g st q) r ∧ Ev (fun k => spec_l11Far.l2 k g st q) r
 | N, st, [], c, _, _, hb, hp => ⟨st, ⟨hb.len, hp, fun x hx => by have := hb.hi x hx; omega⟩, Ev.step (f := fun _ => some st) (fun k => by simp only [impl_stepsFrom.l1]; rw [if_neg (by simp)]) (Ev.now _), Ev.step (f := fun _ => some st) (fun k => by simp only [spec_l11Far.l2]; rw [if_neg (by simp)]) (Ev.now _)⟩
 | 0, st, v :: q, c, _, _, hb, _ => by have := hb.sum; simp only [List.length_cons] at this; omega
 | N + 1, st, v :: q, c, h0, hc, hb, hp => by
  obtain ⟨h1, h2, h3⟩ := hb.ok v (by simp)
  have hl := hb.len
  obtain ⟨u, hu⟩ := Int.eq_ofNat_of_zero_le h1
  have hug : u < g.length := by omega
  have eh : rd (v :: q) 0 = v := by simp [rd]
  have er : rd_L1 g v = g.getD u [] := by rw [hu]; simp [rd_L1]
  obtain ⟨hwl, hws⟩ := ha _ (getD_mem hug [])
  have hlv : st.getD v.toNat 0 ≤ c := hb.hi _ (getD_mem (by omega) 0)
  obtain ⟨r, hr, e1, e2⟩ := relax_both g hg v (g.getD u []) hws hwl N (by omega) c (by omega) h1 h2 (by rw [hu]; rfl) (Rz := fun r => r.length = g.length ∧ Par g r ∧ ∀ x ∈ r, x ≤ c + (N + 1 : Nat)) (fun st' q' hb' hp' => by
   obtain ⟨r, ⟨z1, z2, z3⟩, z4⟩ := bfs_both g hg ha N st' q' (c + 1) (by omega) (by omega) hb' hp'
   exact ⟨r, ⟨z1, z2, fun x hx => by have := z3 x hx; omega⟩, z4⟩) (g.getD u []).length 0 st q (by omega) (hb.pop.up (by omega)) hp h3 hlv
  refine ⟨r, hr, ?_, ?_⟩
  ·exact Ev.step (fun k => by simp only [impl_stepsFrom.l1]; rw [if_pos (by simp only [List.length_cons]; omega), if_pos (by simp only [List.length_cons]; omega), eh, if_pos h1, if_pos (by omega), er]; rfl) e1
  ·exact Ev.step (fun k => by simp only [spec_l11Far.l2]; rw [if_pos (by simp only [List.length_cons]; omega), if_pos (by simp only [List.length_cons]; omega), if_pos (by simp only [List.length_cons]; omega), eh, if_pos h1, if_pos (by omega), er]; rfl) e2
theorem isIncreasing_l0 (l : List Int) (b : Int) (hl : l.length ≤ 9223372036854775807) (d : Nat) : ∀ (j : Nat), j + d = l.length →
  Tells (fun k => impl_isIncreasing.l0 k l b l (l.length : Int) (j : Int)) (∀ i, j ≤ i → i < l.length → RiseAt l 0 (b - 1) i) := by
 induction d with
 | zero => exact fun j hd => tells_step (f := fun _ => some true) (fun k => by simp only [impl_isIncreasing.l0]; rw [if_neg (by omega)]) (tells_yes (fun i h1 h2 => by omega))
 | succ d ih =>
  intro j hd
  have hj : j < l.length := by omega
  refine tells_step (fun k => by simp only [impl_isIncreasing.l0]; rw [if_pos (by omega), if_pos (by omega), if_pos (by omega), wsucc (by omega), rd_nat]) ?_
  refine tells_iff ?_ (from_here hj).symm
  refine tells_if (fun h1 => tells_no (fun h => by have := h.1.1.1; omega)) (fun h1 => ?_)
  refine tells_if (fun h2 => tells_no (fun h => by have := h.1.1.2; omega)) (fun h2 => ?_)
  by_cases h0 : 0 < j
  ·refine tells_pos (by omega) ?_
   rw [wpred h0 (by omega), rd_nat]
   refine tells_pos (by omega) (tells_pos (by omega) (tells_if (fun hc => ?_) (fun hc => ?_)))
   ·exact tells_no (fun h => by have := h.1.2 h0; omega)
   ·exact tells_iff (ih (j + 1) (by omega)) ⟨fun h => ⟨⟨⟨by omega, by omega⟩, fun _ => by omega⟩, h⟩, fun h => h.2⟩
  ·refine tells_neg (by omega) ?_
   exact tells_iff (ih (j + 1) (by omega)) ⟨fun h => ⟨⟨⟨by omega, by omega⟩, fun h1 => absurd h1 h0⟩, h⟩, fun h => h.2⟩
theorem isIncreasing_tells (l : List Int) (b : Int) (hl : l.length ≤ 9223372036854775807) : Tells (fun k => impl_isIncreasing.f k l b) (Rising l 0 (b - 1)) :=
 (tells_iff (isIncreasing_l0 l b hl l.length 0 (by omega)) ⟨fun h i hi => h i (Nat.zero_le _) hi, fun h i _ hi => h i hi⟩)
theorem areGoals_tells (go : List (List Int)) (n : Int) (hx : ∀ x ∈ go, x.length ≤ 9223372036854775807) : Tells (fun k => impl_areGoals.f k go n) (GoalsOk n go) := by
 refine tells_if (fun h => ?_) (fun h => tells_no (fun g => by have := g.1; omega))
 have h1 : Tells (fun k => anyO (fun x_ => impl_areGoals_1.f k x_ n) go) (∃ x ∈ go, ¬ Rising x 0 (n - 1)) := anyO_tells go (fun x hx2 => tells_ask (isIncreasing_tells x n (hx x hx2)) (fun h2 => tells_no (fun h3 => h3 h2)) (fun h2 => tells_yes h2))
 refine tells_ask h1 (fun h2 => tells_no ?_) (fun h2 => tells_yes ⟨by omega, fun x hx2 => ?_⟩)
 ·obtain ⟨x, h3, h4⟩ := h2
  exact fun g => h4 (g.2 x h3)
 ·exact Classical.byContradiction (fun h4 => h2 ⟨x, hx2, h4⟩)
theorem impl_GoodGraph_l0 (l : List (List Int)) (hn : l.length ≤ 1200) (hx : ∀ x ∈ l, x.length ≤ 9223372036854775807) (d : Nat) : ∀ (j : Nat) (a : Nat), a ≤ 1200 * j → j + d = l.length →
  Tells (fun k => impl_GoodGraph.l0 k (a : Int) l (l.length : Int) (j : Int) l) ((∀ x ∈ l.drop j, Rising x 0 ((l.length : Int) - 1)) ∧ a + arcs (l.drop j) ≤ 20000) := by
 induction d with
 | zero =>
  intro j a ha hd
  refine tells_step (f := fun _ => some (decide ((a : Int) ≤ 20000))) (fun k => by simp only [impl_GoodGraph.l0]; rw [if_neg (by omega)]) (tells_some ?_)
  rw [List.drop_of_length_le (by omega)]
  simp [arcs] <;> omega
 | succ d ih =>
  intro j a ha hd
  have hj : j < l.length := by omega
  have er : rd_L1 l (j : Int) = l.getD j [] := by simp [rd_L1]
  have hm := hx _ (getD_mem hj [])
  refine tells_step (fun k => by simp only [impl_GoodGraph.l0]; rw [if_pos (by omega), if_pos (by omega), if_pos (by omega), er, wsucc (by omega)]) ?_
  rw [drop_cons hj [], arcs_cons]
  generalize l.getD j [] = x at hm ⊢
  refine tells_ask (isIncreasing_tells x (l.length : Int) hm) (fun hr => tells_pos rfl ?_) (fun hr => tells_neg (by simp) (tells_no (fun h2 => hr (h2.1 x (by simp)))))
  have hs := row_short hr
  rw [wid (x := (a : Int) + (x.length : Int)) (by omega) (by omega)]
  have e : (a : Int) + (x.length : Int) = ((a + x.length : Nat) : Int) := by omega
  rw [e]
  refine tells_iff (ih (j + 1) (a + x.length) (by omega) (by omega)) ⟨fun ⟨h1, h2⟩ => ⟨fun y hy => ?_, by omega⟩, fun ⟨h1, h2⟩ => ⟨fun y hy => h1 y (List.mem_cons_of_mem _ hy), by omega⟩⟩
  rcases List.mem_cons.1 hy with rfl | hy
  ·exact hr
  ·exact h1 y hy
theorem impl_GoodGraph_tells (l : List (List Int)) (hx : ∀ x ∈ l, x.length ≤ 9223372036854775807) : Tells (fun k => impl_GoodGraph.f k l) (GG l) := by
 refine tells_if (fun h => tells_no (fun h2 => by have := h2.1; omega)) (fun h => ?_)
 exact tells_iff (impl_GoodGraph_l0 l (by omega) hx l.length 0 0 (by omega) (by omega)) ⟨fun ⟨h1, h2⟩ => ⟨by omega, by simpa using h1, by simpa using h2⟩, fun ⟨_, h1, h2⟩ => ⟨by simpa using h1, by simpa using h2⟩⟩
theorem isGraphFrom_tells (g : List (List Int)) (fr : List Int) (hx : ∀ x ∈ g, x.length ≤ 9223372036854775807) (hf : fr.length ≤ 9223372036854775807) : Tells (fun k => impl_isGraphFrom.f k g fr) (GG g ∧ Rising fr 0 ((g.length : Int) - 1)) := by
 refine tells_ask (impl_GoodGraph_tells g hx) (fun h => tells_pos rfl ?_) (fun h => tells_neg (by simp) (tells_no (fun h2 => h h2.1)))
 obtain ⟨b, hb, e⟩ := isIncreasing_tells fr (g.length : Int) hf
 exact ⟨b, Ev.bind hb (Ev.now _), e.trans ⟨fun h2 => ⟨h, h2⟩, fun h2 => h2.2⟩⟩
theorem sIndex_l0 (l : List Int) (x : Int) (hl : l.length ≤ 9223372036854775807) (d : Nat) : ∀ (j : Nat), j + d = l.length → ∃ i, Ev (fun k => slices_Index_int_int.l0 k l x (l.length : Int) (j : Int)) i ∧ -1 ≤ i ∧ (0 ≤ i ↔ x ∈ l.drop j) := by
 induction d with
 | zero => exact fun j hj => ⟨-1, Ev.step (f := fun _ => some (-1)) (fun k => by simp only [slices_Index_int_int.l0]; rw [if_neg (by omega)]) (Ev.now _), by omega, by rw [List.drop_of_length_le (by omega)]; simp⟩
 | succ d ih =>
  intro j hj
  by_cases h : x = l.getD j 0
  ·exact ⟨j, Ev.step (f := fun _ => some (j : Int)) (fun k => by simp only [slices_Index_int_int.l0]; rw [if_pos (by omega), if_pos (by omega), if_pos (by omega), rd_nat, if_pos h]) (Ev.now _), by omega, by rw [drop_cons (by omega) 0, ← h]; simp⟩
  ·obtain ⟨i, e, h1, h2⟩ := ih (j + 1) (by omega)
   refine ⟨i, Ev.step (fun k => by simp only [slices_Index_int_int.l0]; rw [if_pos (by omega), if_pos (by omega), if_pos (by omega), rd_nat, if_neg h, wsucc (by omega)]) e, h1, h2.trans ?_⟩
   rw [drop_cons (show j < l.length by omega) 0, List.mem_cons]
   exact ⟨fun g => .inr g, fun g => g.resolve_left h⟩
theorem rdset {l : List Int} {i x a : Int} (h0 : 0 ≤ i) (h1 : i < (l.length : Int)) (hx : 0 ≤ x) : rd (l.set i.toNat a) x = if x = i then a else rd l x := by
 unfold rd
 rw [getD_set]
 by_cases h : x = i
 ·subst h; rw [if_pos ⟨rfl, by omega⟩, if_pos rfl]
 ·rw [if_neg (by omega), if_neg h]
theorem cset0 {a : Int} (ha : a ≠ 0) : ∀ {l : List Int} {i : Nat}, i < l.length → l.getD i 0 = 0 → (l.set i a).count 0 + 1 = l.count 0
 | [], i, h, _ => by simp at h
 | x :: l, 0, _, h => by
  simp only [List.getD_cons_zero] at h
  subst h
  simp [ha]
 | x :: l, i + 1, h, k => by
  have ih := cset0 ha (l := l) (i := i) (by simpa using h) (by simpa using k)
  simp only [List.set_cons_succ, List.count_cons]
  omega
def InR (g : List (List Int)) (x : Int) : Prop := 0 ≤ x ∧ x < (g.length : Int)
structure Tj (g : List (List Int)) (G : Int → Prop) (F P S : List Int) (vis : Int) : Prop where
 lF : F.length = g.length
 lP : P.length = g.length
 vz : vis + (F.count 0 : Int) = g.length
 v0 : 0 ≤ vis
 fn : ∀ x, InR g x → 0 ≤ rd F x ∧ rd F x ≤ vis
 sl : (S.length : Int) ≤ vis
 s : ∀ x, x ∈ S ↔ InR g x ∧ rd F x ≠ 0 ∧ rd P x < 0
 inc : S.Pairwise (fun a b => rd F a < rd F b)
 gs : ∀ x, G x → x ∈ S
 up : ∀ a ∈ S, ∀ b ∈ S, rd F a ≤ rd F b → Rch g a b
 dn : ∀ b ∈ S, ∃ a, G a ∧ rd F a ≤ rd F b ∧ Rch g b a
 bl : ∀ x y, InR g x → rd F x ≠ 0 → ¬ G x → Ed g x y → rd F y ≠ 0
 cl : ∀ x y, InR g x → 0 ≤ rd P x → Ed g x y → 0 ≤ rd P y
 pf : ∀ x, InR g x → 0 ≤ rd P x → rd F x ≠ 0
 ls : ∀ x, InR g x → 0 ≤ rd P x → Least g x (rd P x)
theorem Tj.push {g : List (List Int)} {G : Int → Prop} {F P S : List Int} {vis : Int} (h : Tj g G F P S vis) {v : Int} (hv : InR g v) (hz : rd F v = 0) (hG : ∀ a, G a → Rch g a v) : Tj g (fun x => G x ∨ x = v) (F.set v.toNat (vis + 1)) P (S ++ [v]) (vis + 1) := by
 have hv0 := h.v0
 have hset : ∀ x, 0 ≤ x → rd (F.set v.toNat (vis + 1)) x = if x = v then vis + 1 else rd F x := fun x hx => rdset hv.1 (by rw [h.lF]; exact hv.2) hx
 have hne : ∀ x ∈ S, x ≠ v := fun x hx e => ((h.s x).1 hx).2.1 (e ▸ hz)
 have hS : ∀ x ∈ S, rd (F.set v.toNat (vis + 1)) x = rd F x := fun x hx => by rw [hset x ((h.s x).1 hx).1.1, if_neg (hne x hx)]
 have hV : rd (F.set v.toNat (vis + 1)) v = vis + 1 := by rw [hset v hv.1, if_pos rfl]
 have hfS : ∀ x ∈ S, rd F x ≤ vis := fun x hx => (h.fn x ((h.s x).1 hx).1).2
 have hcs := cset0 (a := vis + 1) (by omega) (l := F) (i := v.toNat) (by rw [h.lF]; have := hv.1; have := hv.2; omega) hz
 have hmem : ∀ x, x ∈ S ++ [v] ↔ x ∈ S ∨ x = v := fun x => by simp
 have hpv : rd P v < 0 := Classical.byContradiction fun hn => h.pf v hv (by omega) hz
 refine ⟨by rw [List.length_set]; exact h.lF, h.lP, by have := h.vz; omega, by omega, fun x hx => ?_, by rw [List.length_append, List.length_singleton]; have := h.sl; omega, fun x => ?_, ?_, fun x hx => ?_, ?_, ?_, ?_, h.cl, fun x hx hp => ?_, h.ls⟩
 ·rw [hset x hx.1]
  have := h.fn x hx
  split <;> omega
 ·rw [hmem]
  constructor
  ·rintro (hx | rfl)
   ·have := (h.s x).1 hx
    exact ⟨this.1, by rw [hS x hx]; exact this.2.1, this.2.2⟩
   ·exact ⟨hv, by rw [hV]; omega, hpv⟩
  ·rintro ⟨h1, h2, h3⟩
   by_cases e : x = v
   ·exact .inr e
   ·rw [hset x h1.1, if_neg e] at h2
    exact .inl ((h.s x).2 ⟨h1, h2, h3⟩)
 ·rw [List.pairwise_append]
  refine ⟨h.inc.imp_of_mem (fun {a b} ha hb hab => by rw [hS a ha, hS b hb]; exact hab), List.pairwise_singleton _ _, fun a ha b hb => ?_⟩
  rw [List.mem_singleton] at hb
  subst hb
  rw [hS a ha, hV]
  have := hfS a ha
  omega
 ·rw [hmem]
  exact hx.imp (h.gs x) id
 ·intro a ha b hb hab
  rcases (hmem a).1 ha with ha1 | rfl
  ·rcases (hmem b).1 hb with hb1 | rfl
   ·rw [hS a ha1, hS b hb1] at hab
    exact h.up a ha1 b hb1 hab
   ·obtain ⟨a', h1, _, h3⟩ := h.dn a ha1
    exact h3.trans (hG a' h1)
  ·rcases (hmem b).1 hb with hb1 | rfl
   ·rw [hV, hS b hb1] at hab
    have := hfS b hb1
    omega
   ·exact .refl _
 ·intro b hb
  rcases (hmem b).1 hb with hb | rfl
  ·obtain ⟨a', h1, h2, h3⟩ := h.dn b hb
   exact ⟨a', .inl h1, by rw [hS b hb, hS a' (h.gs a' h1)]; exact h2, h3⟩
  ·exact ⟨b, .inr rfl, Int.le_refl _, .refl _⟩
 ·intro x y hx h1 h2 e
  have hxv : x ≠ v := fun e' => h2 (.inr e')
  rw [hset x hx.1, if_neg hxv] at h1
  have hy := h.bl x y hx h1 (fun hg => h2 (.inl hg)) e
  by_cases e2 : y = v
  ·rw [e2, hV]; omega
  ·by_cases hy0 : 0 ≤ y
   ·rw [hset y hy0, if_neg e2]; exact hy
   ·unfold rd at hy ⊢
    rw [getD_set]
    split
    ·omega
    ·exact hy
 ·rw [hset x hx.1]
  split
  ·omega
  ·exact h.pf x hx hp
theorem Tj.leave {g : List (List Int)} {G : Int → Prop} {F P S : List Int} {vis v : Int} (h : Tj g (fun x => G x ∨ x = v) F P S vis) {z : Int} (hz : z ∈ S) (hlt : rd F z < rd F v) (hr : Rch g v z) (hb : ∀ y, Ed g v y → rd F y ≠ 0) : Tj g G F P S vis :=
 { h with
  gs := fun x hx => h.gs x (.inl hx)
  dn := fun b hb' => by
   obtain ⟨a, h1, h2, h3⟩ := h.dn b hb'
   rcases h1 with h1 | rfl
   ·exact ⟨a, h1, h2, h3⟩
   ·obtain ⟨a', k1, k2, k3⟩ := h.dn z hz
    rcases k1 with k1 | rfl
    ·exact ⟨a', k1, by omega, h3.trans (hr.trans k3)⟩
    ·omega
  bl := fun x y hx h1 h2 e => by
   by_cases e2 : x = v
   ·subst e2; exact hb y e
   ·exact h.bl x y hx h1 (fun h3 => h3.elim h2 e2) e }
theorem Tj.pop {g : List (List Int)} (ha : Arrows g) {G : Int → Prop} {F P S0 T : List Int} {vis v : Int} (h : Tj g (fun x => G x ∨ x = v) F P (S0 ++ v :: T) vis) (hG : ∀ x, G x → x ∈ S0) (hcr : ∀ x ∈ v :: T, ∀ y ∈ S0, ¬ Ed g x y) (hb : ∀ y, Ed g v y → rd F y ≠ 0)
  {m : Int} (hm : m ∈ v :: T) (hml : ∀ x ∈ v :: T, m ≤ x) {P2 : List Int} (hl2 : P2.length = g.length) (hP2 : ∀ x, InR g x → rd P2 x = if x ∈ v :: T then m else rd P x) : Tj g G F P2 S0 vis := by
 have hin : ∀ x ∈ v :: T, x ∈ S0 ++ v :: T := fun x hx => List.mem_append_right _ hx
 have hi0 : ∀ x ∈ S0, x ∈ S0 ++ v :: T := fun x hx => List.mem_append_left _ hx
 have hpw := List.pairwise_append.1 h.inc
 have hlt : ∀ x ∈ S0, ∀ y ∈ v :: T, rd F x < rd F y := fun x hx y hy => hpw.2.2 x hx y hy
 have hvT : ∀ x ∈ v :: T, rd F v ≤ rd F x := fun x hx => by
  rcases List.mem_cons.1 hx with rfl | hx
  ·exact Int.le_refl _
  ·exact Int.le_of_lt ((List.pairwise_cons.1 hpw.2.1).1 x hx)
 have hdis : ∀ x ∈ S0, x ∉ v :: T := fun x hx hx2 => by have := hlt x hx x hx2; omega
 have hR : ∀ x ∈ v :: T, InR g x := fun x hx => ((h.s x).1 (hin x hx)).1
 have hvm : v ∈ v :: T := List.mem_cons_self
 have hX : ∀ x y, (x ∈ v :: T ∨ (InR g x ∧ 0 ≤ rd P x)) → Ed g x y → (y ∈ v :: T ∨ (InR g y ∧ 0 ≤ rd P y)) := by
  intro x y hx e
  have hy : InR g y := e.lt ha
  rcases hx with hx | ⟨hx, hp⟩
  ·by_cases hp : 0 ≤ rd P y
   ·exact .inr ⟨hy, hp⟩
   ·have hf : rd F y ≠ 0 := by
     by_cases e2 : x = v
     ·subst e2; exact hb y e
     ·refine h.bl x y (hR x hx) ((h.s x).1 (hin x hx)).2.1 (fun h3 => ?_) e
      rcases h3 with h3 | h3
      ·exact hdis x (hG x h3) hx
      ·exact e2 h3
    have hyS := (h.s y).2 ⟨hy, hf, by omega⟩
    rcases List.mem_append.1 hyS with h3 | h3
    ·exact absurd e (hcr x hx y h3)
    ·exact .inl h3
  ·exact .inr ⟨hy, h.cl x y hx hp e⟩
 have hclo : ∀ x y, Rch g x y → (x ∈ v :: T ∨ (InR g x ∧ 0 ≤ rd P x)) → (y ∈ v :: T ∨ (InR g y ∧ 0 ≤ rd P y)) := fun x y hr hx => hr.closed (X := fun y => y ∈ v :: T ∨ (InR g y ∧ 0 ≤ rd P y)) hX hx
 have hto : ∀ x ∈ v :: T, Rch g v x := fun x hx => h.up v (hin v hvm) x (hin x hx) (hvT x hx)
 have hfr : ∀ x ∈ v :: T, Rch g x v := fun x hx => by
  obtain ⟨a, h1, _, h3⟩ := h.dn x (hin x hx)
  rcases h1 with h1 | rfl
  ·exfalso
   rcases hclo x a h3 (.inl hx) with h4 | h4
   ·exact hdis a (hG a h1) h4
   ·have := ((h.s a).1 (hi0 a (hG a h1))).2.2
    omega
  ·exact h3
 have hall : ∀ w, Scc g v w → w ∈ v :: T := fun w hw => by
  rcases hclo v w hw.1 (.inl hvm) with h4 | h4
  ·exact h4
  ·have h5 := hw.2.closed (X := fun y => InR g y ∧ 0 ≤ rd P y) (fun x y hx e => ⟨e.lt ha, h.cl x y hx.1 hx.2 e⟩) h4
   have := ((h.s v).1 (hin v hvm)).2.2
   omega
 have hm0 : 0 ≤ m := (hR m hm).1
 have hnon : ∀ x, InR g x → 0 ≤ rd P2 x → x ∈ v :: T ∨ (x ∉ v :: T ∧ 0 ≤ rd P x) := fun x hx hp => by
  rw [hP2 x hx] at hp
  by_cases c : x ∈ v :: T
  ·exact .inl c
  ·rw [if_neg c] at hp; exact .inr ⟨c, hp⟩
 have hge : ∀ x, InR g x → (x ∈ v :: T ∨ 0 ≤ rd P x) → 0 ≤ rd P2 x := fun x hx hp => by
  rw [hP2 x hx]
  by_cases c : x ∈ v :: T
  ·rw [if_pos c]; exact hm0
  ·rw [if_neg c]; exact hp.resolve_left c
 refine ⟨h.lF, hl2, h.vz, h.v0, h.fn, by have := h.sl; rw [List.length_append] at this; omega, fun x => ?_, hpw.1, hG, fun a ha' b hb' hab => h.up a (hi0 a ha') b (hi0 b hb') hab, fun b hb' => ?_, fun x y hx h1 h2 e => ?_, fun x y hx hp e => ?_, fun x hx hp => ?_, fun x hx hp => ?_⟩
 ·constructor
  ·intro hx
   have h1 := (h.s x).1 (hi0 x hx)
   refine ⟨h1.1, h1.2.1, ?_⟩
   rw [hP2 x h1.1, if_neg (hdis x hx)]
   exact h1.2.2
  ·rintro ⟨h1, h2, h3⟩
   have c : x ∉ v :: T := fun c => by rw [hP2 x h1, if_pos c] at h3; omega
   rw [hP2 x h1, if_neg c] at h3
   exact (List.mem_append.1 ((h.s x).2 ⟨h1, h2, h3⟩)).resolve_right c
 ·obtain ⟨a, h1, h2, h3⟩ := h.dn b (hi0 b hb')
  rcases h1 with h1 | rfl
  ·exact ⟨a, h1, h2, h3⟩
  ·have := hlt b hb' a hvm
   omega
 ·by_cases e2 : x = v
  ·subst e2; exact hb y e
  ·exact h.bl x y hx h1 (fun h3 => h3.elim h2 e2) e
 ·have hy : InR g y := e.lt ha
  refine hge y hy ?_
  rcases hnon x hx hp with h3 | ⟨_, h3⟩
  ·exact (hX x y (.inl h3) e).imp id (fun h => h.2)
  ·exact .inr (h.cl x y hx h3 e)
 ·rcases hnon x hx hp with h3 | ⟨_, h3⟩
  ·exact ((h.s x).1 (hin x h3)).2.1
  ·exact h.pf x hx h3
 ·rw [hP2 x hx]
  rcases hnon x hx hp with h3 | ⟨c, h3⟩
  ·rw [if_pos h3]
   refine ⟨⟨(hfr x h3).trans (hto m hm), (hfr m hm).trans (hto x h3)⟩, fun w hw => hml w (hall w ⟨(hto x h3).trans hw.1, hw.2.trans (hfr x h3)⟩)⟩
  ·rw [if_neg c]; exact h.ls x hx h3
theorem tIndex_l0 (S0 T : List Int) (v : Int) (hv : v ∉ S0) (hl : (S0 ++ v :: T).length ≤ 4194304) (d : Nat) : ∀ (j : Nat), j + d = S0.length → Ev (fun k => slices_Index_int_int.l0 k (S0 ++ v :: T) v ((S0 ++ v :: T).length : Int) (j : Int)) (S0.length : Int) := by
 have hll : (S0 ++ v :: T).length = S0.length + (T.length + 1) := by simp
 induction d with
 | zero =>
  intro j hj
  have e : (S0 ++ v :: T).getD j 0 = v := by
   rw [List.getD_eq_getElem?_getD, List.getElem?_append_right (by omega), show j - S0.length = 0 by omega]; rfl
  exact Ev.step (f := fun _ => some (S0.length : Int)) (fun k => by simp only [slices_Index_int_int.l0]; rw [if_pos (by omega), if_pos (by omega), if_pos (by omega), rd_nat, e, if_pos rfl, show j = S0.length by omega]) (Ev.now _)
 | succ d ih =>
  intro j hj
  have e : v ≠ (S0 ++ v :: T).getD j 0 := by
   rw [List.getD_eq_getElem?_getD, List.getElem?_append_left (by omega), ← List.getD_eq_getElem?_getD]
   exact fun h => hv (h ▸ getD_mem (by omega) 0)
  exact Ev.step (fun k => by simp only [slices_Index_int_int.l0]; rw [if_pos (by omega), if_pos (by omega), if_pos (by omega), rd_nat, if_neg e, wsucc (by omega)]) (ih (j + 1) (by omega))
theorem tMin_l0 (l : List Int) (hl : l.length ≤ 4194304) (d : Nat) : ∀ (j : Nat) (m : Int), j + d = l.length → m ∈ l → (∀ i, i < j → m ≤ l.getD i 0) → ∃ m', Ev (fun k => slices_Min_int_int.l0 k l m (j : Int)) m' ∧ m' ∈ l ∧ ∀ x ∈ l, m' ≤ x := by
 induction d with
 | zero =>
  intro j m hj hm hi
  refine ⟨m, Ev.step (f := fun _ => some m) (fun k => by simp only [slices_Min_int_int.l0]; rw [if_neg (by omega)]) (Ev.now _), hm, fun x hx => ?_⟩
  obtain ⟨i, h1, h2⟩ := List.mem_iff_getElem.1 hx
  have := hi i (by omega)
  rwa [gdE h1, h2] at this
 | succ d ih =>
  intro j m hj hm hi
  have hmn : mn m (l.getD j 0) = if l.getD j 0 < m then l.getD j 0 else m := rfl
  obtain ⟨m', e, h1, h2⟩ := ih (j + 1) (mn m (l.getD j 0)) (by omega) (by rw [hmn]; split; exact getD_mem (by omega) 0; exact hm) (fun i hi2 => by
   rw [hmn]
   by_cases c : i = j
   ·subst c; split <;> omega
   ·have := hi i (by omega); split <;> omega)
  exact ⟨m', Ev.step (fun k => by simp only [slices_Min_int_int.l0]; rw [if_pos (by omega), if_pos (by omega), rd_nat, wsucc (by omega)]) e, h1, h2⟩
theorem visit_l1 (g : List (List Int)) (F L S : List Int) (vis m : Int) (cut : List Int) (hc : cut.length ≤ 4194304) (hcr : ∀ x ∈ cut, InR g x) (d : Nat) : ∀ (j : Nat) (P : List Int), j + d = cut.length → P.length = g.length →
  ∃ P2, Ev (fun k => impl_visit.l1 k F L S vis cut m P (j : Int)) (F, L, P2, S, vis) ∧ P2.length = g.length ∧ ∀ x, InR g x → rd P2 x = if x ∈ cut.drop j then m else rd P x := by
 induction d with
 | zero =>
  intro j P hj hP
  refine ⟨P, Ev.step (f := fun _ => some (F, L, P, S, vis)) (fun k => by simp only [impl_visit.l1]; rw [if_neg (by omega)]) (Ev.now _), hP, fun x _ => ?_⟩
  rw [List.drop_of_length_le (by omega), if_neg (by simp)]
 | succ d ih =>
  intro j P hj hP
  obtain ⟨x0, x1⟩ := hcr _ (getD_mem (show j < cut.length by omega) 0)
  obtain ⟨P2, e, h1, h2⟩ := ih (j + 1) (P.set (cut.getD j 0).toNat m) (by omega) (by rw [List.length_set]; exact hP)
  refine ⟨P2, Ev.step (fun k => by simp only [impl_visit.l1]; rw [if_pos (by omega), rd_nat, if_pos ⟨by omega, x0, by omega⟩, wsucc (by omega)]) e, h1, fun x hx => ?_⟩
  rw [h2 x hx, drop_cons (show j < cut.length by omega) 0, rdset x0 (by omega) hx.1]
  by_cases c : x ∈ cut.drop (j + 1)
  ·rw [if_pos c, if_pos (by simp [c])]
  ·rw [if_neg c]
   by_cases c2 : x = cut.getD j 0
   ·rw [if_pos c2, if_pos (by simp [c2])]
   ·rw [if_neg c2, if_neg (by simp only [List.mem_cons, c2, c, or_self]; exact fun h => h)]
structure Done (g : List (List Int)) (G : Int → Prop) (v : Int) (F L P S : List Int) (vis : Int) (r : List Int × List Int × List Int × List Int × Int) : Prop where
 tj : Tj g G r.1 r.2.2.1 r.2.2.2.1 r.2.2.2.2
 ll : r.2.1.length = g.length
 st : ∃ T, r.2.2.2.1 = S ++ T ∧ ∀ x ∈ T, ∀ y ∈ S, Ed g x y → rd r.2.1 v ≤ rd r.1 y
 old : ∀ x, InR g x → rd F x ≠ 0 → rd r.1 x = rd F x ∧ rd r.2.1 x = rd L x
 fv : rd r.1 v ≠ 0
 low : (∃ z ∈ r.2.2.2.1, rd r.1 z = rd r.2.1 v ∧ Rch g v z) ∨ vis < rd r.2.1 v
 cnt : r.1.count 0 ≤ F.count 0
theorem visit_e {g : List (List Int)} (hg : g.length ≤ 1048576) (ha : Arrows g) {G : Int → Prop} {v : Int} {F L P S0 T F0 L0 : List Int} {vis vis0 : Int} (h : Tj g (fun x => G x ∨ x = v) F P (S0 ++ v :: T) vis) (hL : L.length = g.length) (hG : ∀ x, G x → x ∈ S0) (hvF : rd F v = vis0 + 1)
  (hle : rd L v ≤ rd F v) (hwit : ∃ z ∈ S0 ++ v :: T, rd F z = rd L v ∧ Rch g v z) (hcr : ∀ x ∈ v :: T, ∀ y ∈ S0, Ed g x y → rd L v ≤ rd F y) (hb : ∀ y, Ed g v y → rd F y ≠ 0) (hv0 : 0 ≤ vis0)
  (hold : ∀ x, InR g x → rd F0 x ≠ 0 → rd F x = rd F0 x ∧ rd L x = rd L0 x) (hcnt : F.count 0 ≤ F0.count 0) {P0 : List Int} :
  ∃ r, Ev (fun k => impl_visit.e k v F L P (S0 ++ v :: T) vis) r ∧ Done g G v F0 L0 P0 S0 vis0 r := by
 obtain ⟨z, hz, hz1, hz2⟩ := hwit
 have hpw := List.pairwise_append.1 h.inc
 have hsl := h.sl
 have hvz := h.vz
 by_cases c : rd L v < rd F v
 ·refine ⟨(F, L, P, S0 ++ v :: T, vis), Ev.congr (f := fun _ => some (F, L, P, S0 ++ v :: T, vis)) (fun k => by unfold impl_visit.e; rw [if_pos c]) (Ev.now _), ⟨h.leave hz (by omega) hz2 hb, hL, ⟨v :: T, rfl, hcr⟩, hold, by simp only; omega, .inl ⟨z, hz, hz1, hz2⟩, hcnt⟩⟩
 ·have hlen : (S0 ++ v :: T).length ≤ 4194304 := by omega
  have hlt : ∀ x ∈ S0, rd F x < rd F v := fun x hx => hpw.2.2 x hx v List.mem_cons_self
  have hvS : v ∉ S0 := fun hx => by have := hlt v hx; omega
  have hR : ∀ x ∈ v :: T, InR g x := fun x hx => ((h.s x).1 (List.mem_append_right _ hx)).1
  have hTl : (v :: T).length ≤ 4194304 := by rw [List.length_append] at hlen; omega
  have e1 := tIndex_l0 S0 T v hvS hlen S0.length 0 (by omega)
  have ed : (S0 ++ v :: T).drop ((S0.length : Int)).toNat = v :: T := by rw [Int.toNat_natCast, List.drop_left]
  have et : (S0 ++ v :: T).take ((S0.length : Int)).toNat = S0 := by rw [Int.toNat_natCast, List.take_left]
  obtain ⟨m, e2, hm, hml⟩ := tMin_l0 (v :: T) hTl T.length 1 v (by simp; omega) (by simp) (fun i hi => by
   rw [show i = 0 by omega]; exact Int.le_refl _)
  obtain ⟨P2, e3, hl2, hP2⟩ := visit_l1 g F L S0 vis m (v :: T) hTl hR (v :: T).length 0 P (by omega) h.lP
  rw [List.drop_zero] at hP2
  refine ⟨(F, L, P2, S0, vis), ?_, ⟨h.pop ha hG (fun x hx y hy e => by have := hcr x hx y hy e; have := hlt y hy; omega) hb hm hml hl2 hP2, hL, ⟨[], by simp, by simp⟩, hold, by simp only; omega, .inr (by simp only; omega), hcnt⟩⟩
  refine Ev.congr (f := fun k => (slices_Index_int_int.f k (S0 ++ v :: T) v).bind fun j => if 0 ≤ j ∧ j ≤ ((S0 ++ v :: T).length : Int) then (slices_Min_int_int.f k ((S0 ++ v :: T).drop j.toNat)).bind fun m => impl_visit.l1 k F L ((S0 ++ v :: T).take j.toNat) vis ((S0 ++ v :: T).drop j.toNat) m P 0 else none) (fun k => by unfold impl_visit.e; rw [if_neg c]) ?_
  refine Ev.bind (a := (S0.length : Int)) e1 (ev_pos ⟨by omega, by rw [List.length_append]; omega⟩ ?_)
  rw [ed, et]
  refine Ev.bind (a := m) ?_ e3
  refine ev_neg (by simp; omega) (ev_pos (by simp) ?_)
  rw [show rd (v :: T) 0 = v from rfl]
  exact e2
theorem visit_ev {g : List (List Int)} (hg : g.length ≤ 1048576) (ha : Arrows g) : ∀ (u : Nat) (G : Int → Prop) (F L P S : List Int) (vis v : Int), F.count 0 ≤ u → Tj g G F P S vis → L.length = g.length → InR g v → rd F v = 0 → (∀ a, G a → Rch g a v) →
  ∃ r, Ev (fun k => impl_visit.f k g v F L P S vis) r ∧ Done g G v F L P S vis r := by
 intro u
 induction u with
 | zero =>
  intro G F L P S vis v hu h hL hv hz hG
  have := cset0 (a := 1) (by omega) (l := F) (i := v.toNat) (by rw [h.lF]; have := hv.1; have := hv.2; omega) hz
  omega
 | succ u ih =>
  intro G F0 L0 P0 S0 vis0 v hu h0 hL0 hv hz hG
  have hvis0 := h0.v0
  have hvz0 := h0.vz
  have hsl0 := h0.sl
  have hc0 := cset0 (a := vis0 + 1) (by omega) (l := F0) (i := v.toNat) (by rw [h0.lF]; have := hv.1; have := hv.2; omega) hz
  have hT1 := h0.push hv hz hG
  have hw64 : wrap64 (vis0 + 1) = vis0 + 1 := by unfold wrap64; omega
  have er : rd_L1 g v = g.getD v.toNat [] := by simp [rd_L1]
  generalize hrow : g.getD v.toNat [] = row at er
  have hmem : row ∈ g := hrow ▸ getD_mem (show v.toNat < g.length by have := hv.1; have := hv.2; omega) []
  obtain ⟨hrl, hrr⟩ := ha row hmem
  have hed : ∀ y, Ed g v y ↔ y ∈ row := fun y => ⟨fun e => hrow ▸ e.2.2, fun e => ⟨hv.1, hv.2, by rw [hrow]; exact e⟩⟩
  have hGS : ∀ x, G x → x ∈ S0 := h0.gs
  have hS0 : ∀ x ∈ S0, InR g x ∧ rd F0 x ≠ 0 := fun x hx => ⟨((h0.s x).1 hx).1, ((h0.s x).1 hx).2.1⟩
  have loop : ∀ (d i : Nat) (F L P T : List Int) (vis : Int), i + d = row.length → F.count 0 < F0.count 0 → Tj g (fun x => G x ∨ x = v) F P (S0 ++ v :: T) vis → L.length = g.length → rd F v = vis0 + 1 →
    (∀ x, InR g x → rd F0 x ≠ 0 → rd F x = rd F0 x ∧ rd L x = rd L0 x) → rd L v ≤ rd F v → (∃ z ∈ S0 ++ v :: T, rd F z = rd L v ∧ Rch g v z) → (∀ x ∈ T, ∀ y ∈ S0, Ed g x y → rd L v ≤ rd F y) →
    (∀ j, j < i → rd F (row.getD j 0) ≠ 0 ∧ (row.getD j 0 ∈ S0 → rd L v ≤ rd F (row.getD j 0))) →
    ∃ r, Ev (fun k => impl_visit.l0 k g v row (i : Int) F L P (S0 ++ v :: T) vis) r ∧ Done g G v F0 L0 P0 S0 vis0 r := by
   intro d
   induction d with
   | zero =>
    intro i F L P T vis hi hu1 h hL hvF hold hle hwit hcr hpr
    have hb : ∀ y, Ed g v y → rd F y ≠ 0 ∧ (y ∈ S0 → rd L v ≤ rd F y) := fun y e => by
     obtain ⟨j, hj, ej⟩ := List.mem_iff_getElem.1 ((hed y).1 e)
     have := hpr j (by omega)
     rwa [gdE hj, ej] at this
    obtain ⟨r, e, hd⟩ := visit_e (P0 := P0) hg ha h hL hGS hvF hle hwit (fun x hx y hy e => by
     rcases List.mem_cons.1 hx with rfl | hx
     ·exact (hb y e).2 hy
     ·exact hcr x hx y hy e) (fun y e => (hb y e).1) hvis0 hold (by omega)
    exact ⟨r, Ev.step (fun k => by simp only [impl_visit.l0]; rw [if_neg (by omega)]) e, hd⟩
   | succ d ihd =>
    intro i F L P T vis hi hu1 h hL hvF hold hle hwit hcr hpr
    have hil : i < row.length := by omega
    obtain ⟨w0, w1⟩ := hrr _ (getD_mem hil 0)
    have hEw : Ed g v (row.getD i 0) := (hed _).2 (getD_mem hil 0)
    generalize hw : row.getD i 0 = w at w0 w1 hEw
    have hLv : v < (L.length : Int) := by rw [hL]; exact hv.2
    have hmin : ∀ a b : Int, mn a b = if b < a then b else a := fun _ _ => rfl
    have hset : ∀ (L : List Int) (x a : Int), L.length = g.length → 0 ≤ x → rd (L.set v.toNat a) x = if x = v then a else rd L x := fun L x a hl hx => rdset hv.1 (by rw [hl]; exact hv.2) hx
    have hnv : ∀ x, rd F0 x ≠ 0 → x ≠ v := fun x hx e => hx (e ▸ hz)
    by_cases c1 : rd F w = 0
    ·obtain ⟨r, e1, hd⟩ := ih (fun x => G x ∨ x = v) F L P (S0 ++ v :: T) vis w (by omega) h hL ⟨w0, w1⟩ c1 (fun a hga => by
      rcases hga with hga | rfl
      ·exact (hG a hga).tail hEw
      ·exact .one hEw)
     obtain ⟨F', L', P', S', vis'⟩ := r
     obtain ⟨T', hS', hcr'⟩ := hd.st
     have hLl := hd.ll
     have hold' := hd.old
     have hlow := hd.low
     have htj := hd.tj
     have hcn := hd.cnt
     have hfw := hd.fv
     simp only at hS' hcr' hLl hold' hlow htj hcn hfw
     subst hS'
     have hvo := hold' v hv (by omega)
     have hm := hmin (rd L' v) (rd L' w)
     have hS0f : ∀ y ∈ S0, rd F' y = rd F y := fun y hy => (hold' y (hS0 y hy).1 (by rw [(hold y (hS0 y hy).1 (hS0 y hy).2).1]; exact (hS0 y hy).2)).1
     have eapp : (S0 ++ v :: T) ++ T' = S0 ++ v :: (T ++ T') := by simp
     rw [eapp] at e1 hlow htj
     have hvL2 : rd (L'.set v.toNat (mn (rd L' v) (rd L' w))) v = mn (rd L' v) (rd L' w) := by rw [hset L' v _ hLl hv.1, if_pos rfl]
     obtain ⟨r2, e2, hd2⟩ := ihd (i + 1) F' (L'.set v.toNat (mn (rd L' v) (rd L' w))) P' (T ++ T') vis' (by omega) (by omega) htj (by rw [List.length_set]; exact hLl) (by rw [hvo.1]; exact hvF)
      (fun x hx hx0 => by
       obtain ⟨o1, o2⟩ := hold x hx hx0
       obtain ⟨o3, o4⟩ := hold' x hx (by rw [o1]; exact hx0)
       exact ⟨o3.trans o1, by rw [hset L' x _ hLl hx.1, if_neg (hnv x hx0)]; exact o4.trans o2⟩)
      (by rw [hvL2, hm]; split <;> omega)
      (by
       rw [hvL2, hm]
       split
       ·rename_i hlt
        rcases hlow with ⟨z, z1, z2, z3⟩ | hlow
        ·exact ⟨z, z1, z2, Rch.head hEw z3⟩
        ·have := (h.fn v hv).2
         omega
       ·obtain ⟨z, z1, z2, z3⟩ := hwit
        have zs := (h.s z).1 z1
        refine ⟨z, ?_, by rw [(hold' z zs.1 zs.2.1).1, hvo.2]; exact z2, z3⟩
        rw [← eapp]
        exact List.mem_append_left _ z1)
      (fun x hx y hy e => by
       rw [hvL2, hm]
       rcases List.mem_append.1 hx with hx | hx
       ·have h1 := hcr x hx y hy e
        have h2 := hS0f y hy
        split <;> omega
       ·have h1 := hcr' x hx y (List.mem_append_left _ hy) e
        split <;> omega)
      (fun j hj => by
       by_cases hji : j = i
       ·subst hji
        rw [hw]
        refine ⟨hfw, fun hy => ?_⟩
        have h1 := (h.s w).1 (List.mem_append_left _ hy)
        exact absurd c1 h1.2.1
       ·obtain ⟨p1, p2⟩ := hpr j (by omega)
        have hyr : InR g (row.getD j 0) := hrr _ (getD_mem (show j < row.length by omega) 0)
        have h1 := (hold' _ hyr p1).1
        refine ⟨by rw [h1]; exact p1, fun hy => ?_⟩
        have h2 := p2 hy
        rw [hvL2, hm]
        split <;> omega)
     refine ⟨r2, Ev.step (fun k => by simp only [impl_visit.l0]; rw [if_pos (by omega), rd_nat, hw, if_pos ⟨by omega, w0, w1⟩, if_pos c1, wsucc (by omega)]) ?_, hd2⟩
     exact Ev.bind e1 e2
    ·by_cases c2 : rd P w < 0
     ·have hwS := (h.s w).2 ⟨⟨w0, w1⟩, c1, c2⟩
      have hm := hmin (rd L v) (rd F w)
      have hvL2 : rd (L.set v.toNat (mn (rd L v) (rd F w))) v = mn (rd L v) (rd F w) := by rw [hset L v _ hL hv.1, if_pos rfl]
      obtain ⟨r2, e2, hd2⟩ := ihd (i + 1) F (L.set v.toNat (mn (rd L v) (rd F w))) P T vis (by omega) hu1 h (by rw [List.length_set]; exact hL) hvF
       (fun x hx hx0 => by
        obtain ⟨o1, o2⟩ := hold x hx hx0
        exact ⟨o1, by rw [hset L x _ hL hx.1, if_neg (hnv x hx0)]; exact o2⟩)
       (by rw [hvL2, hm]; split <;> omega)
       (by
        rw [hvL2, hm]
        split
        ·exact ⟨w, hwS, rfl, .one hEw⟩
        ·exact hwit)
       (fun x hx y hy e => by
        rw [hvL2, hm]
        have h1 := hcr x hx y hy e
        split <;> omega)
       (fun j hj => by
        rw [hvL2, hm]
        by_cases hji : j = i
        ·subst hji
         rw [hw]
         exact ⟨c1, fun _ => by split <;> omega⟩
        ·obtain ⟨p1, p2⟩ := hpr j (by omega)
         refine ⟨p1, fun hy => ?_⟩
         have h2 := p2 hy
         split <;> omega)
      exact ⟨r2, Ev.step (fun k => by simp only [impl_visit.l0]; rw [if_pos (by omega), rd_nat, hw, if_pos ⟨by omega, w0, w1⟩, if_neg c1, if_pos c2, wsucc (by omega)]) e2, hd2⟩
     ·obtain ⟨r2, e2, hd2⟩ := ihd (i + 1) F L P T vis (by omega) hu1 h hL hvF hold hle hwit hcr (fun j hj => by
       by_cases hji : j = i
       ·subst hji
        rw [hw]
        exact ⟨c1, fun hy => absurd ((h.s w).1 (List.mem_append_left _ hy)).2.2 c2⟩
       ·exact hpr j (by omega))
      exact ⟨r2, Ev.step (fun k => by simp only [impl_visit.l0]; rw [if_pos (by omega), rd_nat, hw, if_pos ⟨by omega, w0, w1⟩, if_neg c1, if_neg c2, wsucc (by omega)]) e2, hd2⟩
  have hF1v : rd (F0.set v.toNat (vis0 + 1)) v = vis0 + 1 := by rw [rdset hv.1 (by rw [h0.lF]; exact hv.2) hv.1, if_pos rfl]
  have hL1v : rd (L0.set v.toNat (vis0 + 1)) v = vis0 + 1 := by rw [rdset hv.1 (by rw [hL0]; exact hv.2) hv.1, if_pos rfl]
  obtain ⟨r, e, hd⟩ := loop row.length 0 (F0.set v.toNat (vis0 + 1)) (L0.set v.toNat (vis0 + 1)) P0 [] (vis0 + 1) (by omega) (by omega) hT1 (by rw [List.length_set]; exact hL0) hF1v
   (fun x hx hx0 => by
    have hxv : x ≠ v := fun e => hx0 (e ▸ hz)
    rw [rdset hv.1 (by rw [h0.lF]; exact hv.2) hx.1, rdset hv.1 (by rw [hL0]; exact hv.2) hx.1, if_neg hxv, if_neg hxv]
    exact ⟨rfl, rfl⟩)
   (by rw [hF1v, hL1v]; exact Int.le_refl _) ⟨v, by simp, by rw [hF1v, hL1v], .refl _⟩ (by simp) (fun j hj => absurd hj (Nat.not_lt_zero j))
  refine ⟨r, Ev.step (fun k => by simp only [impl_visit.f]; rw [if_pos ⟨hv.1, hv.2, by omega⟩, er, hw64]; rfl) e, hd⟩
theorem parts_l0 (g : List (List Int)) (hg : g.length ≤ 1048576) (ha : Arrows g) (d : Nat) : ∀ (i : Nat) (F L P S : List Int) (vis : Int), i + d = g.length → Tj g (fun _ => False) F P S vis → L.length = g.length → (∀ j : Nat, j < i → rd F (j : Int) ≠ 0) → ∃ out, Ev (fun k => impl_parts.l0 k g (i : Int) F L P S vis) out ∧ IsPart g out := by
 induction d with
 | zero =>
  intro i F L P S vis hi h hL hj
  refine ⟨P, Ev.step (f := fun _ => some P) (fun k => by simp only [impl_parts.l0]; rw [if_neg (by omega)]) (Ev.now _), h.lP, fun v hv => ?_⟩
  have hvR : InR g (v : Int) := ⟨by omega, by omega⟩
  have hp : 0 ≤ rd P (v : Int) := Classical.byContradiction fun hn => by
   obtain ⟨a, h1, _⟩ := h.dn (v : Int) ((h.s (v : Int)).2 ⟨hvR, hj v (by omega), by omega⟩)
   exact h1
  have := h.ls (v : Int) hvR hp
  rwa [rd_nat] at this
 | succ d ih =>
  intro i F L P S vis hi h hL hj
  have hiR : InR g (i : Int) := ⟨by omega, by omega⟩
  by_cases c : rd F (i : Int) = 0
  ·obtain ⟨r, e1, hd⟩ := visit_ev hg ha (F.count 0) (fun _ => False) F L P S vis (i : Int) (Nat.le_refl _) h hL hiR c (fun a h => h.elim)
   obtain ⟨out, e2, hp⟩ := ih (i + 1) r.1 r.2.1 r.2.2.1 r.2.2.2.1 r.2.2.2.2 (by omega) hd.tj hd.ll (fun j hji => by
    by_cases e : j = i
    ·subst e; exact hd.fv
    ·have h1 := hj j (by omega)
     rw [(hd.old (j : Int) ⟨by omega, by omega⟩ h1).1]
     exact h1)
   exact ⟨out, Ev.step (fun k => by simp only [impl_parts.l0]; rw [if_pos (by omega), if_pos (by omega), if_pos c, wsucc (by omega)]) (Ev.bind e1 e2), hp⟩
  ·obtain ⟨out, e2, hp⟩ := ih (i + 1) F L P S vis (by omega) h hL (fun j hji => by
    by_cases e : j = i
    ·subst e; exact c
    ·exact hj j (by omega))
   exact ⟨out, Ev.step (fun k => by simp only [impl_parts.l0]; rw [if_pos (by omega), if_pos (by omega), if_neg c, wsucc (by omega)]) e2, hp⟩
theorem parts_ev (g : List (List Int)) (hg : g.length ≤ 1048576) (ha : Arrows g) : ∃ out, Ev (fun k => impl_parts.f k g) out ∧ IsPart g out := by
 have hz : ∀ x : Int, rd (List.replicate g.length (0 : Int)) x = 0 := fun x => by
  unfold rd
  rw [List.getD_eq_getElem?_getD, List.getElem?_replicate]
  split <;> rfl
 have hm : ∀ x, InR g x → rd (List.replicate g.length (-1 : Int)) x = -1 := fun x hx => by
  unfold rd
  rw [List.getD_eq_getElem?_getD, List.getElem?_replicate, if_pos (by have := hx.1; have := hx.2; omega), Option.getD_some]
 have hT : Tj g (fun _ => False) (List.replicate g.length 0) (List.replicate g.length (-1)) [] 0 :=
  ⟨by simp, by simp, by simp, by omega, fun x _ => by rw [hz]; omega, by simp, fun x => by rw [hz]; simp, List.Pairwise.nil, fun _ h => h.elim, by simp, by simp, fun x y _ h => absurd (hz x) h, fun x y hx h => by rw [hm x hx] at h; omega, fun x hx h => by rw [hm x hx] at h; omega, fun x hx h => by rw [hm x hx] at h; omega⟩
 obtain ⟨out, e, hp⟩ := parts_l0 g hg ha g.length 0 _ (List.replicate g.length 0) _ [] 0 (by omega) hT (by simp) (fun j h => absurd h (Nat.not_lt_zero j))
 exact ⟨out, ev_pos hg e, hp⟩
theorem ifair_l1 (g go : List (List Int)) (p : List Int) (x8 : List Bool) (hn : g.length ≤ 1048576) (hp : PIn g.length p) (v : Nat) (hv : v < g.length) (row : List Int) (hrl : row.length ≤ 1048576) (hr : ∀ w ∈ row, 0 ≤ w ∧ w < (g.length : Int)) (d : Nat) : ∀ (j : Nat) (x7 : List Bool), j + d = row.length → x7.length = g.length →
  ∃ y7, y7.length = g.length ∧ (∀ q, q < g.length → (y7.getD q false = true ↔ x7.getD q false = true ∨ (p.getD v 0 = (q : Int) ∧ ∃ y ∈ row.drop j, rd p y = (q : Int)))) ∧
   ∀ r, Ev (fun k => impl_fairVertices.l0 k go p (g.length : Int) y7 x8 g (g.length : Int) ((v + 1 : Nat) : Int)) r → Ev (fun k => impl_fairVertices.l1 k go p (g.length : Int) x7 x8 (v : Int) g (g.length : Int) (v : Int) row (row.length : Int) (j : Int)) r := by
 have hpl := hp.1
 obtain ⟨p0, p1⟩ := hp.2 v hv
 induction d with
 | zero =>
  intro j x7 hj hx
  refine ⟨x7, hx, fun q _ => ⟨.inl, fun h => h.elim id (fun ⟨_, y, hy, _⟩ => ?_)⟩, fun r h => Ev.step (fun k => by simp only [impl_fairVertices.l1]; rw [if_neg (by omega), wsucc (by omega)]) h⟩
  rw [List.drop_of_length_le (by omega)] at hy
  simp at hy
 | succ d ih =>
  intro j x7 hj hx
  have hjl : j < row.length := by omega
  obtain ⟨w0, w1⟩ := hr _ (getD_mem hjl 0)
  rw [drop_cons hjl 0]
  have hM : ∀ q : Int, (∃ y ∈ row.getD j 0 :: row.drop (j + 1), rd p y = q) ↔ rd p (row.getD j 0) = q ∨ ∃ y ∈ row.drop (j + 1), rd p y = q := fun q => by simp only [List.mem_cons, exists_eq_or_imp]
  by_cases c : x7.getD (p.getD v 0).toNat false = true
  ·obtain ⟨y7, h1, h2, h3⟩ := ih (j + 1) (x7.set (p.getD v 0).toNat true) (by omega) (by rw [List.length_set]; exact hx)
   refine ⟨y7, h1, fun q hq => ?_, fun r h => Ev.step (fun k => by simp only [impl_fairVertices.l1]; rw [if_pos (by omega), if_pos (by omega), if_pos (by omega), if_pos (by omega), if_pos (by omega), rd_nat, if_pos p0, if_pos (by omega), rdB, if_pos c, wsucc (by omega)]) (h3 r h)⟩
   rw [h2 q hq, gset, hM]
   by_cases e : (p.getD v 0).toNat = q ∧ q < x7.length
   ·rw [if_pos e]
    have e5 : x7.getD q false = true := e.1 ▸ c
    exact ⟨fun _ => .inl e5, fun _ => .inl rfl⟩
   ·rw [if_neg e]
    have hne : ¬ p.getD v 0 = (q : Int) := fun h => e ⟨by omega, by omega⟩
    simp only [hne, false_and]
  ·obtain ⟨y7, h1, h2, h3⟩ := ih (j + 1) (x7.set (p.getD v 0).toNat ((rd p (row.getD j 0)) == (p.getD v 0))) (by omega) (by rw [List.length_set]; exact hx)
   refine ⟨y7, h1, fun q hq => ?_, fun r h => Ev.step (fun k => by simp only [impl_fairVertices.l1]; rw [if_pos (by omega), if_pos (by omega), if_pos (by omega), if_pos (by omega), if_pos (by omega), rd_nat, if_pos p0, if_pos (by omega), rdB, if_neg c, rd_nat, if_pos w0, if_pos (by omega), wsucc (by omega)]) (h3 r h)⟩
   rw [h2 q hq, gset, hM]
   by_cases e : (p.getD v 0).toNat = q ∧ q < x7.length
   ·rw [if_pos e]
    have e6 : p.getD v 0 = (q : Int) := by omega
    have e5 : ¬ x7.getD q false = true := e.1 ▸ c
    rw [e6]
    rw [beq_iff_eq]
    exact ⟨fun h => .inr ⟨rfl, h.imp id (fun h => h.2)⟩, fun h => (h.resolve_left e5).2.imp id (fun h => ⟨rfl, h⟩)⟩
   ·rw [if_neg e]
    have hne : ¬ p.getD v 0 = (q : Int) := fun h => e ⟨by omega, by omega⟩
    simp only [hne, false_and]
theorem ifair_l0 (g go : List (List Int)) (p : List Int) (x8 : List Bool) (hn : g.length ≤ 1048576) (ha : Arrows g) (hp : PIn g.length p) (d : Nat) : ∀ (i : Nat) (x7 : List Bool), i + d = g.length → x7.length = g.length → (∀ q, q < g.length → (x7.getD q false = true ↔ ∃ x : Nat, x < i ∧ p.getD x 0 = (q : Int) ∧ ∃ y ∈ g.getD x [], rd p y = (q : Int))) →
  ∃ y7, y7.length = g.length ∧ (∀ q : Nat, q < g.length → (y7.getD q false = true ↔ Lp g p (q : Int))) ∧ ∀ r, Ev (fun k => impl_fairVertices.l2 k p (g.length : Int) y7 x8 go (go.length : Int) 0) r → Ev (fun k => impl_fairVertices.l0 k go p (g.length : Int) x7 x8 g (g.length : Int) (i : Int)) r := by
 induction d with
 | zero =>
  intro i x7 hi hx hq
  have e : i = g.length := by omega
  subst e
  exact ⟨x7, hx, hq, fun r h => Ev.step (fun k => by simp only [impl_fairVertices.l0]; rw [if_neg (by omega)]) h⟩
 | succ d ih =>
  intro i x7 hi hx hq
  have hil : i < g.length := by omega
  obtain ⟨hrl, hrr⟩ := ha _ (getD_mem hil [])
  have er : rd_L1 g (i : Int) = g.getD i [] := by simp [rd_L1]
  obtain ⟨y7, h1, h2, h3⟩ := ifair_l1 g go p x8 hn hp i hil (g.getD i []) hrl hrr (g.getD i []).length 0 x7 (by omega) hx
  obtain ⟨z7, k1, k2, k3⟩ := ih (i + 1) y7 (by omega) h1 (fun q hql => by
   rw [h2 q hql, hq q hql, List.drop_zero]
   constructor
   ·rintro (⟨x, x1, x2⟩ | ⟨x2, x3⟩)
    ·exact ⟨x, by omega, x2⟩
    ·exact ⟨i, by omega, x2, x3⟩
   ·rintro ⟨x, x1, x2⟩
    by_cases e : x = i
    ·subst e; exact .inr x2
    ·exact .inl ⟨x, by omega, x2⟩)
  exact ⟨z7, k1, k2, fun r h => Ev.step (fun k => by simp only [impl_fairVertices.l0]; rw [if_pos (by omega), if_pos (by omega), if_pos (by omega), er]; rfl) (h3 r (k3 r h))⟩
theorem ifair_l3 (g go : List (List Int)) (p : List Int) (x7 x8 : List Bool) (hp : PIn g.length p) (h7 : x7.length = g.length) (i : Nat) (row : List Int) (hrl : row.length ≤ 1048576) (hr : ∀ w ∈ row, 0 ≤ w ∧ w < (g.length : Int)) (d : Nat) : ∀ (j : Nat) (x15 : List Bool), j + d = row.length → x15.length = g.length →
  ∃ y15, y15.length = g.length ∧ (∀ q, q < g.length → (y15.getD q false = true ↔ x15.getD q false = true ∨ Mt p (row.drop j) (q : Int))) ∧
   ∀ r, Ev (fun k => impl_fairVertices.l4 k p (g.length : Int) x7 x8 y15 go (go.length : Int) (i : Int) (g.length : Int) 0) r → Ev (fun k => impl_fairVertices.l3 k p (g.length : Int) x7 x8 x15 go (go.length : Int) (i : Int) row (row.length : Int) (j : Int)) r := by
 have hpl := hp.1
 induction d with
 | zero =>
  intro j x15 hj hx
  refine ⟨x15, hx, fun q _ => ⟨.inl, fun h => h.elim id (fun ⟨y, hy, _⟩ => ?_)⟩, fun r h => Ev.step (fun k => by simp only [impl_fairVertices.l3]; rw [if_neg (by omega), h7]) h⟩
  rw [List.drop_of_length_le (by omega)] at hy
  simp at hy
 | succ d ih =>
  intro j x15 hj hx
  have hjl : j < row.length := by omega
  obtain ⟨w0, w1⟩ := hr _ (getD_mem hjl 0)
  obtain ⟨p0, p1⟩ := hp.at_ w0 w1
  rw [drop_cons hjl 0]
  have hM : ∀ q : Int, Mt p (row.getD j 0 :: row.drop (j + 1)) q ↔ rd p (row.getD j 0) = q ∨ Mt p (row.drop (j + 1)) q := fun q => by
   unfold Mt; simp only [List.mem_cons, exists_eq_or_imp]
  obtain ⟨y15, h1, h2, h3⟩ := ih (j + 1) (x15.set (rd p (row.getD j 0)).toNat true) (by omega) (by rw [List.length_set]; exact hx)
  refine ⟨y15, h1, fun q hq => ?_, fun r h => Ev.step (fun k => by simp only [impl_fairVertices.l3]; rw [if_pos (by omega), if_pos (by omega), if_pos (by omega), rd_nat, if_pos w0, if_pos (by omega), if_pos p0, if_pos (by omega), wsucc (by omega)]) (h3 r h)⟩
  rw [h2 q hq, gset, hM]
  by_cases e : (rd p (row.getD j 0)).toNat = q ∧ q < x15.length
  ·rw [if_pos e]
   have e6 : rd p (row.getD j 0) = (q : Int) := by omega
   simp only [e6, true_or, or_true]
  ·rw [if_neg e]
   have hne : ¬ rd p (row.getD j 0) = (q : Int) := fun h => e ⟨by omega, by omega⟩
   simp only [hne, false_or]
theorem ifair_l4 (g go : List (List Int)) (p : List Int) (x8 x15 : List Bool) (hn : g.length ≤ 1048576) (h15 : x15.length = g.length) (i : Nat) (hi : i < 1048576) (d : Nat) : ∀ (j : Nat) (x7 : List Bool), j + d = g.length → x7.length = g.length →
  ∃ y7, y7.length = g.length ∧ (∀ q, q < g.length → (y7.getD q false = true ↔ x7.getD q false = true ∧ (j ≤ q → x15.getD q false = true))) ∧
   ∀ r, Ev (fun k => impl_fairVertices.l2 k p (g.length : Int) y7 x8 go (go.length : Int) ((i + 1 : Nat) : Int)) r → Ev (fun k => impl_fairVertices.l4 k p (g.length : Int) x7 x8 x15 go (go.length : Int) (i : Int) (g.length : Int) (j : Int)) r := by
 induction d with
 | zero =>
  intro j x7 hj hx
  exact ⟨x7, hx, fun q hq => ⟨fun h => ⟨h, fun h2 => by omega⟩, fun h => h.1⟩, fun r h => Ev.step (fun k => by simp only [impl_fairVertices.l4]; rw [if_neg (by omega), wsucc (by omega)]) h⟩
 | succ d ih =>
  intro j x7 hj hx
  by_cases c : x7.getD j false = true
  ·obtain ⟨y7, h1, h2, h3⟩ := ih (j + 1) (x7.set j (x15.getD j false)) (by omega) (by rw [List.length_set]; exact hx)
   refine ⟨y7, h1, fun q hq => ?_, fun r h => Ev.step (fun k => by simp only [impl_fairVertices.l4]; rw [if_pos (by omega), if_pos (by omega), if_pos (by omega), rdOf_nat, if_pos c, if_pos (by omega), rdOf_nat, Int.toNat_natCast, wsucc (by omega)]) (h3 r h)⟩
   rw [h2 q hq, gset]
   by_cases e : j = q
   ·subst e
    rw [if_pos ⟨rfl, by omega⟩]
    simp only [c, Nat.le_refl, true_implies, true_and]
    exact ⟨fun h => h.1, fun h => ⟨h, fun h2 => by omega⟩⟩
   ·rw [if_neg (fun h => e h.1)]
    exact and_congr_right fun _ => ⟨fun h h2 => h (by omega), fun h h2 => h (by omega)⟩
  ·obtain ⟨y7, h1, h2, h3⟩ := ih (j + 1) (x7.set j false) (by omega) (by rw [List.length_set]; exact hx)
   refine ⟨y7, h1, fun q hq => ?_, fun r h => Ev.step (fun k => by simp only [impl_fairVertices.l4]; rw [if_pos (by omega), if_pos (by omega), if_pos (by omega), rdOf_nat, if_neg c, Int.toNat_natCast, wsucc (by omega)]) (h3 r h)⟩
   rw [h2 q hq, gset]
   by_cases e : j = q
   ·subst e
    rw [if_pos ⟨rfl, by omega⟩]
    exact ⟨fun h => absurd h.1 (by decide), fun h => absurd h.1 c⟩
   ·rw [if_neg (fun h => e h.1)]
    exact and_congr_right fun _ => ⟨fun h h2 => h (by omega), fun h h2 => h (by omega)⟩
theorem ifair_l2 (g go : List (List Int)) (p : List Int) (x8 : List Bool) (hn : g.length ≤ 1048576) (hp : PIn g.length p) (hgo : go.length ≤ 1048575) (hr : ∀ x ∈ go, x.length ≤ 1048576 ∧ ∀ w ∈ x, 0 ≤ w ∧ w < (g.length : Int)) (h8 : x8.length = g.length) (d : Nat) : ∀ (i : Nat) (x7 : List Bool), i + d = go.length → x7.length = g.length → (∀ q : Nat, q < g.length → (x7.getD q false = true ↔ Lp g p (q : Int) ∧ ∀ t, t < i → Mt p (go.getD t []) (q : Int))) →
  ∃ y7, y7.length = g.length ∧ (∀ q : Nat, q < g.length → (y7.getD q false = true ↔ Lp g p (q : Int) ∧ ∀ t, t < go.length → Mt p (go.getD t []) (q : Int))) ∧ ∀ r, Ev (fun k => impl_fairVertices.l5 k p y7 x8 (g.length : Int) 0) r → Ev (fun k => impl_fairVertices.l2 k p (g.length : Int) x7 x8 go (go.length : Int) (i : Int)) r := by
 induction d with
 | zero =>
  intro i x7 hi hx hq
  have e : i = go.length := by omega
  subst e
  exact ⟨x7, hx, hq, fun r h => Ev.step (fun k => by simp only [impl_fairVertices.l2]; rw [if_neg (by omega), h8]) h⟩
 | succ d ih =>
  intro i x7 hi hx hq
  have hil : i < go.length := by omega
  obtain ⟨hrl, hrr⟩ := hr _ (getD_mem hil [])
  have er : rd_L1 go (i : Int) = go.getD i [] := by simp [rd_L1]
  have h0 : ∀ q, (List.replicate g.length false).getD q false = false := fun q => by
   rw [List.getD_eq_getElem?_getD, List.getElem?_replicate]; split <;> rfl
  obtain ⟨y15, h1, h2, h3⟩ := ifair_l3 g go p x7 x8 hp hx i (go.getD i []) hrl hrr (go.getD i []).length 0 (List.replicate g.length false) (by omega) (by simp)
  obtain ⟨y7, k1, k2, k3⟩ := ifair_l4 g go p x8 y15 hn h1 i (by omega) g.length 0 x7 (by omega) hx
  obtain ⟨z7, m1, m2, m3⟩ := ih (i + 1) y7 (by omega) k1 (fun q hql => by
   rw [k2 q hql, hq q hql, h2 q hql, h0, List.drop_zero]
   simp only [Nat.zero_le, true_implies, Bool.false_eq_true, false_or, and_assoc]
   refine and_congr_right fun _ => ⟨fun h t ht => ?_, fun h => ⟨fun t ht => h t (by omega), h i (by omega)⟩⟩
   by_cases e : t = i
   ·subst e; exact h.2
   ·exact h.1 t (by omega))
  exact ⟨z7, m1, m2, fun r h => Ev.step (fun k => by simp only [impl_fairVertices.l2]; rw [if_pos (by omega), if_pos (by omega), if_pos (by omega), if_pos (by omega), if_pos (by omega), er, Int.toNat_natCast]; rfl) (h3 r (k3 r (m3 r h)))⟩
theorem ifair_l5 (g : List (List Int)) (p : List Int) (x7 : List Bool) (hn : g.length ≤ 1048576) (hp : PIn g.length p) (h7 : x7.length = g.length) (d : Nat) : ∀ (j : Nat) (x8 : List Bool), j + d = g.length → x8.length = g.length → (∀ v, v < j → x8.getD v false = x7.getD (p.getD v 0).toNat false) →
  ∃ bl, bl.length = g.length ∧ (∀ v, v < g.length → bl.getD v false = x7.getD (p.getD v 0).toNat false) ∧ Ev (fun k => impl_fairVertices.l5 k p x7 x8 (g.length : Int) (j : Int)) bl := by
 induction d with
 | zero =>
  intro j x8 hj hx hv
  exact ⟨x8, hx, fun v h => hv v (by omega), Ev.step (f := fun _ => some x8) (fun k => by simp only [impl_fairVertices.l5]; rw [if_neg (by omega)]) (Ev.now _)⟩
 | succ d ih =>
  intro j x8 hj hx hv
  have hpl := hp.1
  obtain ⟨p0, p1⟩ := hp.2 j (by omega)
  obtain ⟨bl, h1, h2, h3⟩ := ih (j + 1) (x8.set j (x7.getD (p.getD j 0).toNat false)) (by omega) (by rw [List.length_set]; exact hx) (fun v h => by
   rw [gset]
   by_cases e : j = v
   ·subst e; rw [if_pos ⟨rfl, by omega⟩]
   ·rw [if_neg (fun h => e h.1)]; exact hv v (by omega))
  exact ⟨bl, h1, h2, Ev.step (fun k => by simp only [impl_fairVertices.l5]; rw [if_pos (by omega), if_pos (by omega), if_pos (by omega), rd_nat, if_pos p0, if_pos (by omega), if_pos (by omega), rdB, Int.toNat_natCast, wsucc (by omega)]) h3⟩
theorem ifair_ev (g go : List (List Int)) (p : List Int) (hn : g.length ≤ 1048576) (ha : Arrows g) (hp : PIn g.length p) (hgo : go.length ≤ 1048575) (hr : ∀ x ∈ go, x.length ≤ 1048576 ∧ ∀ w ∈ x, 0 ≤ w ∧ w < (g.length : Int)) (hparts : Ev (fun k => impl_parts.f k g) p) :
  ∃ bl, FairB g go p bl ∧ Ev (fun k => impl_fairVertices.f k g go) bl := by
 have h0 : ∀ q, (List.replicate g.length false).getD q false = false := fun q => by
  rw [List.getD_eq_getElem?_getD, List.getElem?_replicate]; split <;> rfl
 obtain ⟨y7, l7, q7, c7⟩ := ifair_l0 g go p (List.replicate g.length false) hn ha hp g.length 0 (List.replicate g.length false) (by omega) (by simp) (fun q _ => ⟨fun h => by rw [h0] at h; exact absurd h (by decide), fun ⟨v, hv, _⟩ => absurd hv (Nat.not_lt_zero v)⟩)
 obtain ⟨z7, lz, qz, cz⟩ := ifair_l2 g go p (List.replicate g.length false) hn hp hgo hr (by simp) go.length 0 y7 (by omega) l7 (fun q hq => by
  rw [q7 q hq]
  exact ⟨fun h => ⟨h, fun t ht => absurd ht (Nat.not_lt_zero t)⟩, fun h => h.1⟩)
 obtain ⟨bl, lb, qb, cb⟩ := ifair_l5 g p z7 hn hp lz g.length 0 (List.replicate g.length false) (by omega) (by simp) (fun v hv => absurd hv (Nat.not_lt_zero v))
 refine ⟨bl, ⟨lb, fun v hv => ?_⟩, ?_⟩
 ·obtain ⟨p0, p1⟩ := hp.2 v hv
  have ep : (((p.getD v 0).toNat : Nat) : Int) = p.getD v 0 := by omega
  rw [qb v hv, qz _ (by omega), ep]
 ·refine Ev.bind hparts (ev_pos (by omega) (ev_pos (by omega) ?_))
  rw [Int.toNat_natCast]
  exact c7 _ (cz _ cb)
theorem cloneInt_eq (l : List Int) (h : l.length < 17592186044416) : slices_Clone_int_int.f l = some l := by
 rw [slices_Clone_int_int.f, if_pos h]
theorem repeatNeg_eq (n : Nat) (h : n ≤ 1048576) : slices_Repeat_int_int.f [(-1)] (n : Int) = some (List.replicate n (-1)) := by
 rw [slices_Repeat_int_int.f, if_pos ⟨rfl, by omega, by omega⟩]; rfl
theorem far_init (g : List (List Int)) (fr : List Int) (hg : g.length ≤ 1048576) (ha : Arrows g) (hfr : ∀ v ∈ fr, 0 ≤ v ∧ v < (g.length : Int)) (hfl : fr.length ≤ 1048576) (d : Nat) : ∀ (j : Nat) (st : List Int), j + d = fr.length → st.length = g.length → (∀ x ∈ st, x ≤ 0) → (∀ x ∈ st, -1 ≤ x) → (∀ i, i < j → st.getD (fr.getD i 0).toNat 0 = 0) →
  ∃ r, (r.length = g.length ∧ Par g r ∧ ∀ x ∈ r, x ≤ ((g.length + fr.length : Nat) : Int)) ∧ Ev (fun k => impl_stepsFrom.l0 k g st fr fr (fr.length : Int) (j : Int)) r ∧ Ev (fun k => spec_l11Far.l1 k g fr st fr (fr.length : Int) (j : Int)) r := by
 induction d with
 | zero =>
  intro j st hj hl h1 h2 h3
  have hb : BI g.length (g.length + fr.length) 0 st fr := ⟨hl, h1, h2, fun v hv => by
   obtain ⟨i, hi, rfl⟩ := List.getElem_of_mem hv
   have h4 := h3 i (by omega)
   rw [getD_eq hi] at h4
   exact ⟨(hfr _ hv).1, (hfr _ hv).2, by omega⟩, by have := List.countP_le_length (p := fun x : Int => decide (x < 0)) (l := st); unfold neg; omega⟩
  obtain ⟨r, hr, e1, e2⟩ := bfs_both g hg ha (g.length + fr.length) st fr 0 (by omega) (by omega) hb (Par.of_le h1)
  refine ⟨r, ⟨hr.1, hr.2.1, fun x hx => by have := hr.2.2 x hx; omega⟩, Ev.step (fun k => by simp only [impl_stepsFrom.l0]; rw [if_neg (by omega)]) e1, Ev.step (fun k => by simp only [spec_l11Far.l1]; rw [if_neg (by omega), l1Own_eq fr hfl, Option.bind_some]) e2⟩
 | succ d ih =>
  intro j st hj hl h1 h2 h3
  have hm := hfr _ (getD_mem (l := fr) (j := j) (by omega) 0)
  obtain ⟨r, hr, e1, e2⟩ := ih (j + 1) (st.set (fr.getD j 0).toNat 0) (by omega) (by simpa using hl)
   (fun x hx => by
    rcases List.mem_or_eq_of_mem_set hx with hx | rfl
    ·exact h1 x hx
    ·omega)
   (fun x hx => by
    rcases List.mem_or_eq_of_mem_set hx with hx | rfl
    ·exact h2 x hx
    ·omega)
   (fun i hi => by
    rw [getD_set]
    split
    ·rfl
    ·rename_i h
     rcases Nat.lt_or_ge i j with h4 | h4
     ·exact h3 i h4
     ·obtain rfl : i = j := by omega
      exact absurd ⟨rfl, by omega⟩ h)
  refine ⟨r, hr, ?_, ?_⟩
  ·exact Ev.step (fun k => by simp only [impl_stepsFrom.l0]; rw [if_pos (by omega), if_pos (by omega), if_pos (by omega), rd_nat, if_pos hm.1, if_pos (by omega), wsucc (by omega)]) e1
  ·exact Ev.step (fun k => by simp only [spec_l11Far.l1]; rw [if_pos (by omega), if_pos (by omega), if_pos (by omega), rd_nat, if_pos hm.1, if_pos (by omega), wsucc (by omega)]) e2
theorem far_neg (g : List (List Int)) (fr : List Int) (hg : g.length ≤ 1048576) {r : List Int} (h : Ev (fun k => spec_l11Far.l1 k g fr (List.replicate g.length (-1)) fr (fr.length : Int) ((0 : Nat) : Int)) r) (d : Nat) : ∀ (j : Nat) (st : List Int), j + d = g.length → st = List.replicate j (-1) ++ List.replicate d 0 →
  Ev (fun k => spec_l11Far.l0 k g fr st (g.length : Int) (j : Int)) r := by
 induction d with
 | zero =>
  intro j st hj hst
  have e : st = List.replicate g.length (-1) := by rw [hst, show j = g.length by omega]; simp
  subst e
  exact Ev.step (fun k => by simp only [spec_l11Far.l0]; rw [if_neg (by omega)]; rfl) h
 | succ d ih =>
  intro j st hj hst
  have hl : st.length = g.length := by rw [hst]; simp; omega
  refine Ev.step (fun k => by simp only [spec_l11Far.l0]; rw [if_pos (by omega), if_pos (by omega), if_pos (by omega), wsucc (by omega), Int.toNat_natCast]) (ih (j + 1) _ (by omega) ?_)
  rw [hst, List.replicate_succ, List.set_append_right _ _ (by simp), List.length_replicate, Nat.sub_self, List.set_cons_zero, List.replicate_succ', List.append_assoc]; rfl
theorem steps_par (g : List (List Int)) (fr : List Int) (hg : g.length ≤ 1048576) (ha : Arrows g) (hfr : ∀ v ∈ fr, 0 ≤ v ∧ v < (g.length : Int)) (hfl : fr.length ≤ 1048576) :
  ∃ r, (r.length = g.length ∧ Par g r ∧ ∀ x ∈ r, x ≤ ((g.length + fr.length : Nat) : Int)) ∧ Ev (fun k => impl_stepsFrom.f k g fr) r ∧ Ev (fun k => spec_l11Far.f k g fr) r := by
 obtain ⟨r, hr, e1, e2⟩ := far_init g fr hg ha hfr hfl fr.length 0 (List.replicate g.length (-1)) (by omega) (by simp) (fun x hx => by rw [List.eq_of_mem_replicate hx]; omega) (fun x hx => by rw [List.eq_of_mem_replicate hx]; omega) (fun i hi => by omega)
 refine ⟨r, hr, Ev.bind (ev_const (repeatNeg_eq g.length hg)) (Ev.bind (ev_const (cloneInt_eq fr (by omega))) e1), ?_⟩
 have e3 := far_neg g fr hg e2 g.length 0 (List.replicate g.length 0) (by omega) (by simp)
 refine ev_pos (by omega) (ev_pos (by simp only [Int.toNat_natCast]; omega) (Ev.bind (Ev.now _) ?_))
 simp only [Int.toNat_natCast, List.length_replicate]
 exact e3
theorem steps_both (g : List (List Int)) (fr : List Int) (hg : g.length ≤ 1048576) (ha : Arrows g) (hfr : ∀ v ∈ fr, 0 ≤ v ∧ v < (g.length : Int)) (hfl : fr.length ≤ 1048576) :
  ∃ r, r.length = g.length ∧ Ev (fun k => impl_stepsFrom.f k g fr) r ∧ Ev (fun k => spec_l11Far.f k g fr) r := by
 obtain ⟨r, hr, e⟩ := steps_par g fr hg ha hfr hfl
 exact ⟨r, hr.1, e⟩
theorem turned_same : ∀ k, (∀ a b c d, impl_turned.l0 k a b c d = spec_l11Turn.l0 k a b c d) ∧ (∀ a b c d e f g h, impl_turned.l1 k a b c d e f g h = spec_l11Turn.l1 k a b c d e f g h)
 | 0 => ⟨fun _ _ _ _ => by simp only [impl_turned.l0, spec_l11Turn.l0], fun _ _ _ _ _ _ _ _ => by simp only [impl_turned.l1, spec_l11Turn.l1]⟩
 | k + 1 => by
  obtain ⟨h0, h1⟩ := turned_same k
  exact ⟨fun _ _ _ _ => by simp only [impl_turned.l0, spec_l11Turn.l0, h1], fun _ _ _ _ _ _ _ _ => by simp only [impl_turned.l1, spec_l11Turn.l1, h0, h1]⟩
theorem turned_ev (l : List (List Int)) (hn : l.length ≤ 1048576) (ha : Arrows l) (ht : tot l ≤ 1099511627776) : Ev (fun k => impl_turned.f k l) (turnedOf l) := by
 refine Ev.congr (fun k => ?_) (l11Turn_ev l hn ha ht)
 simp only [impl_turned.f, spec_l11Turn.f, (turned_same k).1]
theorem putArcs_mem (k : Int) : ∀ (x : List Int) (y : List (List Int)) (u : Nat) (v : Int), v ∈ (putArcs k x y).getD u [] → v ∈ y.getD u [] ∨ (v = k ∧ ∃ w ∈ x, w.toNat = u)
 | [], y, u, v, h => .inl h
 | w :: t, y, u, v, h => by
  rw [putArcs] at h
  rcases putArcs_mem k t _ u v h with h | ⟨h1, w2, h2, h3⟩
  ·by_cases e : w.toNat = u
   ·rw [List.getD_eq_getElem?_getD, List.getElem?_set] at h
    rw [if_pos e] at h
    split at h
    ·simp only [Option.getD_some, List.mem_append, List.mem_singleton] at h
     rcases h with h | h
     ·exact .inl (by rw [← e]; exact h)
     ·exact .inr ⟨h, w, by simp, e⟩
    ·simp at h
   ·rw [List.getD_eq_getElem?_getD, List.getElem?_set, if_neg e, ← List.getD_eq_getElem?_getD] at h
    exact .inl h
  ·exact .inr ⟨h1, w2, by simp [h2], h3⟩
theorem turnFrom_mem : ∀ (t : List (List Int)) (j : Nat) (y : List (List Int)) (u : Nat) (v : Int), v ∈ (turnFrom j t y).getD u [] → v ∈ y.getD u [] ∨ ∃ i, i < t.length ∧ v = ((j + i : Nat) : Int) ∧ ∃ w ∈ t.getD i [], w.toNat = u
 | [], j, y, u, v, h => .inl h
 | x :: t, j, y, u, v, h => by
  rw [turnFrom] at h
  rcases turnFrom_mem t (j + 1) _ u v h with h | ⟨i, h1, h2, w, h3, h4⟩
  ·rcases putArcs_mem _ x y u v h with h | ⟨h1, w, h2, h3⟩
   ·exact .inl h
   ·exact .inr ⟨0, by simp, by simpa using h1, w, by simpa using h2, h3⟩
  ·exact .inr ⟨i + 1, by simp; omega, by rw [h2]; congr 1; omega, w, by simpa using h3, h4⟩
theorem turned_mem {g : List (List Int)} (ha : Arrows g) {u : Nat} {v : Int} (h : v ∈ (turnedOf g).getD u []) : ∃ i : Nat, i < g.length ∧ v = (i : Int) ∧ (u : Int) ∈ g.getD i [] := by
 rcases turnFrom_mem g 0 _ u v h with h | ⟨i, h1, h2, w, h3, h4⟩
 ·rw [List.getD_eq_getElem?_getD, List.getElem?_replicate] at h
  split at h <;> simp at h
 ·refine ⟨i, h1, by simpa using h2, ?_⟩
  have hw := (ha _ (getD_mem h1 [])).2 w h3
  rw [show (u : Int) = w by omega]
  exact h3
theorem turned_arrows {g : List (List Int)} (ha : Arrows g) (ht : tot g ≤ 1048576) : Arrows (turnedOf g) := fun x hx => by
 refine ⟨by have := turnedOf_rows g x hx; omega, fun w hw => ?_⟩
 obtain ⟨u, hu, rfl⟩ := List.getElem_of_mem hx
 rw [← getD_eq hu []] at hw
 obtain ⟨i, h1, rfl, _⟩ := turned_mem ha hw
 rw [turnedOf_length]; omega
theorem nearer {g : List (List Int)} (ha : Arrows g) {st : List Int} (hp : Par (turnedOf g) st) {v : Nat} (hv : 0 < st.getD v 0) : ∃ u : Nat, (u : Int) ∈ g.getD v [] ∧ st.getD u 0 = st.getD v 0 - 1 := by
 obtain ⟨u, h1, h2, h3⟩ := hp v hv
 obtain ⟨i, _, h4, h5⟩ := turned_mem ha h2
 obtain rfl : v = i := by omega
 exact ⟨u, h5, h3⟩
theorem first_near (st : List Int) (m : Int) : ∀ (ws : List Int), (∃ x ∈ ws, st.getD x.toNat 0 = m) → ∃ i, i < ws.length ∧ st.getD (ws.getD i 0).toNat 0 = m ∧ ∀ j, j < i → st.getD (ws.getD j 0).toNat 0 ≠ m
 | [], h => by obtain ⟨x, hx, _⟩ := h; simp at hx
 | w :: t, h => by
  by_cases e : st.getD w.toNat 0 = m
  ·exact ⟨0, by simp, e, fun j hj => by omega⟩
  ·obtain ⟨i, h1, h2, h3⟩ := first_near st m t (by
    obtain ⟨x, hx, h4⟩ := h
    rcases List.mem_cons.1 hx with rfl | hx
    ·exact absurd h4 e
    ·exact ⟨x, hx, h4⟩)
   refine ⟨i + 1, by simp; omega, h2, fun j hj => ?_⟩
   cases j with
   | zero => exact e
   | succ j => exact h3 j (by omega)
theorem rd_toNat {l : List Int} {x : Int} (h : 0 ≤ x) : rd l x = l.getD x.toNat 0 := by obtain ⟨u, rfl⟩ := Int.eq_ofNat_of_zero_le h; rw [rd_nat]; rfl
theorem idx_near (st : List Int) (v m : Int) (hv0 : 0 ≤ v) (hv1 : v < (st.length : Int)) (hm : wrap64 (rd st v - 1) = m) : ∀ (ws : List Int) (s : Int) (i : Nat), (∀ w ∈ ws, 0 ≤ w ∧ w < (st.length : Int)) → i < ws.length → st.getD (ws.getD i 0).toNat 0 = m → (∀ j, j < i → st.getD (ws.getD j 0).toNat 0 ≠ m) → idxO (fun x_ => impl_leastWay_1.f x_ st v) ws s = some (s + i)
 | [], s, i, _, hi, _, _ => by simp at hi
 | w :: t, s, i, hw, hi, h1, h2 => by
  have h3 := hw w (by simp)
  have e : impl_leastWay_1.f w st v = some (st.getD w.toNat 0 == m) := by
   simp only [impl_leastWay_1.f]; rw [if_pos h3.1, if_pos h3.2, if_pos hv0, if_pos hv1, hm, rd_toNat h3.1]
  rw [idxO, e, Option.bind_some]
  cases i with
  | zero =>
   have h4 : st.getD w.toNat 0 = m := h1
   rw [if_pos (by rw [h4]; exact beq_self_eq_true m)]; simp
  | succ i =>
   have h4 : st.getD w.toNat 0 ≠ m := h2 0 (by omega)
   rw [if_neg (by simpa using h4), idx_near st v m hv0 hv1 hm t (s + 1) i (fun x hx => hw x (by simp [hx])) (by simpa using hi) h1 (fun j hj => h2 (j + 1) (by omega))]
   congr 1; omega
theorem path_scan (g : List (List Int)) (st : List Int) (v m : Int) (way ws : List Int) (hv0 : 0 ≤ v) (hv1 : v < (st.length : Int)) (hm : wrap64 (rd st v - 1) = m) (hws : ∀ w ∈ ws, 0 ≤ w ∧ w < (st.length : Int)) (hwl : ws.length ≤ 1048576) (hway : way.length ≤ 1048576) (i : Nat) (hi : i < ws.length) (h1 : st.getD (ws.getD i 0).toNat 0 = m) (h2 : ∀ j, j < i → st.getD (ws.getD j 0).toNat 0 ≠ m) {r : List Int × Bool}
  (h : Ev (fun k => spec_l11Path.l1 k g st (ws.getD i 0) (way ++ [ws.getD i 0])) r) (d : Nat) : ∀ (j : Nat), j + d = i → Ev (fun k => spec_l11Path.l2 k g st v way ws (ws.length : Int) (j : Int)) r := by
 induction d with
 | zero =>
  intro j hj
  obtain rfl : j = i := by omega
  have h3 := hws _ (getD_mem hi 0)
  exact Ev.step (fun k => by simp only [spec_l11Path.l2]; rw [if_pos (by omega), if_pos (by omega), if_pos (by omega), rd_nat, if_pos h3.1, if_pos h3.2, if_pos hv0, if_pos hv1, hm, rd_toNat h3.1, if_pos h1, if_pos (by omega)]) h
 | succ d ih =>
  intro j hj
  have h3 := hws _ (getD_mem (l := ws) (j := j) (by omega) 0)
  exact Ev.step (fun k => by simp only [spec_l11Path.l2]; rw [if_pos (by omega), if_pos (by omega), if_pos (by omega), rd_nat, if_pos h3.1, if_pos h3.2, if_pos hv0, if_pos hv1, hm, rd_toNat h3.1, if_neg (h2 j (by omega)), wsucc (by omega)]) (ih (j + 1) (by omega))
theorem path_both (g : List (List Int)) (st : List Int) (hg : g.length ≤ 1048576) (ha : Arrows g) (hl : st.length = g.length) (hp : Par (turnedOf g) st) : ∀ (m : Nat) (v : Int) (way : List Int), m ≤ 4194304 → 0 ≤ v → v < (g.length : Int) → st.getD v.toNat 0 = m → way ≠ [] → way.length + m ≤ 1048576 →
  ∃ r, r ≠ [] ∧ r.length = way.length + m ∧ Ev (fun k => impl_leastWay.l1 k g way st v) r ∧ Ev (fun k => spec_l11Path.l1 k g st v way) (r, true)
 | 0, v, way, _, hv0, hv1, hm, hw, _ => by
  have e := rd_toNat (l := st) hv0
  exact ⟨way, hw, by omega, Ev.step (f := fun _ => some way) (fun k => by simp only [impl_leastWay.l1]; rw [if_pos hv0, if_pos (by omega), e, hm, if_neg (by omega)]) (Ev.now _), Ev.step (f := fun _ => some (way, true)) (fun k => by simp only [spec_l11Path.l1]; rw [if_pos hv0, if_pos (by omega), e, hm, if_neg (by omega)]) (Ev.now _)⟩
 | m + 1, v, way, hmb, hv0, hv1, hm, hw, hwl => by
  have e := rd_toNat (l := st) hv0
  have hvu : v.toNat < g.length := by omega
  obtain ⟨u, hu1, hu2⟩ := nearer ha hp (v := v.toNat) (by omega)
  have er : rd_L1 g v = g.getD v.toNat [] := by obtain ⟨z, rfl⟩ := Int.eq_ofNat_of_zero_le hv0; simp [rd_L1]
  obtain ⟨hxl, hx⟩ := ha _ (getD_mem hvu [])
  generalize g.getD v.toNat [] = ws at hu1 er hxl hx
  obtain ⟨i, hi, h1, h2⟩ := first_near st (m : Int) ws ⟨(u : Int), hu1, by rw [Int.toNat_natCast, hu2, hm]; omega⟩
  have hx2 : ∀ w ∈ ws, 0 ≤ w ∧ w < (st.length : Int) := fun w hw2 => by have := hx w hw2; omega
  have ew : wrap64 (rd st v - 1) = (m : Int) := by rw [e, hm, wid (by omega) (by omega)]; omega
  have hwi := hx2 _ (getD_mem hi 0)
  obtain ⟨r, r1, r2, r3, r4⟩ := path_both g st hg ha hl hp m (ws.getD i 0) (way ++ [ws.getD i 0]) (by omega) hwi.1 (by omega) h1 (by simp) (by simp; omega)
  refine ⟨r, r1, by rw [r2]; simp; omega, ?_, ?_⟩
  ·refine Ev.step (fun k => by simp only [impl_leastWay.l1]; rw [if_pos hv0, if_pos (by omega), e, hm, if_pos (by omega), if_pos (by omega), er]) ?_
   refine Ev.bind (ev_const (idx_near st v m hv0 (by omega) ew ws 0 i hx2 hi h1 h2)) ?_
   have e2 : rd ws (0 + (i : Int)) = ws.getD i 0 := by rw [Int.zero_add, rd_nat]
   rw [e2]
   exact ev_pos (by omega) (ev_pos (by omega) (ev_pos (by omega) r3))
  ·refine Ev.step (fun k => by simp only [spec_l11Path.l1]; rw [if_pos hv0, if_pos (by omega), e, hm, if_pos (by omega), if_pos (by omega), er]) ?_
   exact path_scan g st v m way ws hv0 (by omega) ew hx2 hxl (by omega) i hi h1 h2 r4 i 0 (by omega)
theorem best_both (g : List (List Int)) (st fr : List Int) (hg : g.length ≤ 1048576) (ha : Arrows g) (hl : st.length = g.length) (hp : Par (turnedOf g) st) {B : Int} (hb : ∀ x ∈ st, x ≤ B) (hB0 : 0 ≤ B) (hB : B ≤ 524288) (hfr : ∀ v ∈ fr, 0 ≤ v ∧ v < (g.length : Int)) (hfl : fr.length ≤ 1048576) (d : Nat) : ∀ (j : Nat) (b : Int), j + d = fr.length → (b = -1 ∨ (0 ≤ b ∧ b < (g.length : Int) ∧ 0 ≤ st.getD b.toNat 0)) →
  ∃ r : List Int, ((r.length : Int) ≤ B + 1 ∧ ((0 ≤ b ∨ ∃ v ∈ fr.drop j, 0 ≤ st.getD v.toNat 0) → r ≠ [])) ∧ Ev (fun k => impl_leastWay.l0 k g b fr (fr.length : Int) (j : Int) st) r ∧ Ev (fun k => spec_l11Path.l0 k g st b fr (fr.length : Int) (j : Int)) (r, !r.isEmpty) := by
 induction d with
 | zero =>
  intro j b hj hbb
  rcases hbb with rfl | ⟨h1, h2, h3⟩
  ·refine ⟨[], ⟨by simp only [List.length_nil]; omega, fun h => ?_⟩, Ev.step (f := fun _ => some []) (fun k => by simp only [impl_leastWay.l0]; rw [if_neg (by omega), if_pos (by omega)]) (Ev.now _), Ev.step (f := fun _ => some ([], false)) (fun k => by simp only [spec_l11Path.l0]; rw [if_neg (by omega), if_pos (by omega)]) (Ev.now _)⟩
   rw [List.drop_of_length_le (by omega)] at h
   rcases h with h | ⟨v, h, _⟩
   ·omega
   ·simp at h
  ·obtain ⟨m, hm⟩ := Int.eq_ofNat_of_zero_le h3
   have hm2 := hb _ (getD_mem (l := st) (j := b.toNat) (by omega) 0)
   obtain ⟨r, r1, r2, r3, r4⟩ := path_both g st hg ha hl hp m b [b] (by omega) h1 h2 hm (by simp) (by simp; omega)
   refine ⟨r, ⟨by rw [r2]; simp; omega, fun _ => r1⟩, Ev.step (fun k => by simp only [impl_leastWay.l0]; rw [if_neg (by omega), if_neg (by omega)]) r3, ?_⟩
   refine Ev.step (fun k => by simp only [spec_l11Path.l0]; rw [if_neg (by omega), if_neg (by omega)]) (ev_eq r4 ?_)
   cases r with
   | nil => exact absurd rfl r1
   | cons x t => rfl
 | succ d ih =>
  intro j b hj hbb
  have h3 := hfr _ (getD_mem (l := fr) (j := j) (by omega) 0)
  have e := rd_toNat (l := st) h3.1
  have ed := drop_cons (show j < fr.length by omega) 0
  by_cases hn : st.getD (fr.getD j 0).toNat 0 ≥ 0
  ·rcases hbb with rfl | ⟨h1, h2, h4⟩
   ·obtain ⟨r, ⟨r0, rn⟩, r1, r2⟩ := ih (j + 1) (fr.getD j 0) (by omega) (.inr ⟨h3.1, h3.2, hn⟩)
    exact ⟨r, ⟨r0, fun _ => rn (.inl h3.1)⟩, Ev.step (fun k => by simp only [impl_leastWay.l0]; rw [if_pos (by omega), if_pos (by omega), if_pos (by omega), rd_nat, if_pos h3.1, if_pos (by omega), e, if_pos hn, if_pos (by omega), wsucc (by omega)]) r1, Ev.step (fun k => by simp only [spec_l11Path.l0]; rw [if_pos (by omega), if_pos (by omega), if_pos (by omega), rd_nat, if_pos h3.1, if_pos (by omega), e, if_pos hn, if_pos (by omega), wsucc (by omega)]) r2⟩
   ·have eb := rd_toNat (l := st) h1
    by_cases hlt : st.getD (fr.getD j 0).toNat 0 < st.getD b.toNat 0
    ·obtain ⟨r, ⟨r0, rn⟩, r1, r2⟩ := ih (j + 1) (fr.getD j 0) (by omega) (.inr ⟨h3.1, h3.2, hn⟩)
     exact ⟨r, ⟨r0, fun _ => rn (.inl h3.1)⟩, Ev.step (fun k => by simp only [impl_leastWay.l0]; rw [if_pos (by omega), if_pos (by omega), if_pos (by omega), rd_nat, if_pos h3.1, if_pos (by omega), e, if_pos hn, if_neg (by omega), if_pos h1, if_pos (by omega), eb, if_pos hlt, wsucc (by omega)]) r1, Ev.step (fun k => by simp only [spec_l11Path.l0]; rw [if_pos (by omega), if_pos (by omega), if_pos (by omega), rd_nat, if_pos h3.1, if_pos (by omega), e, if_pos hn, if_neg (by omega), if_pos h1, if_pos (by omega), eb, if_pos hlt, wsucc (by omega)]) r2⟩
    ·obtain ⟨r, ⟨r0, rn⟩, r1, r2⟩ := ih (j + 1) b (by omega) (.inr ⟨h1, h2, h4⟩)
     exact ⟨r, ⟨r0, fun _ => rn (.inl h1)⟩, Ev.step (fun k => by simp only [impl_leastWay.l0]; rw [if_pos (by omega), if_pos (by omega), if_pos (by omega), rd_nat, if_pos h3.1, if_pos (by omega), e, if_pos hn, if_neg (by omega), if_pos h1, if_pos (by omega), eb, if_neg hlt, wsucc (by omega)]) r1, Ev.step (fun k => by simp only [spec_l11Path.l0]; rw [if_pos (by omega), if_pos (by omega), if_pos (by omega), rd_nat, if_pos h3.1, if_pos (by omega), e, if_pos hn, if_neg (by omega), if_pos h1, if_pos (by omega), eb, if_neg hlt, wsucc (by omega)]) r2⟩
  ·obtain ⟨r, ⟨r0, rn⟩, r1, r2⟩ := ih (j + 1) b (by omega) hbb
   refine ⟨r, ⟨r0, fun h => rn (h.imp id fun ⟨v, hv, h5⟩ => ?_)⟩, Ev.step (fun k => by simp only [impl_leastWay.l0]; rw [if_pos (by omega), if_pos (by omega), if_pos (by omega), rd_nat, if_pos h3.1, if_pos (by omega), e, if_neg hn, wsucc (by omega)]) r1, Ev.step (fun k => by simp only [spec_l11Path.l0]; rw [if_pos (by omega), if_pos (by omega), if_pos (by omega), rd_nat, if_pos h3.1, if_pos (by omega), e, if_neg hn, wsucc (by omega)]) r2⟩
   rw [ed] at hv
   rcases List.mem_cons.1 hv with rfl | hv
   ·exact absurd h5 hn
   ·exact ⟨v, hv, h5⟩
theorem way_more (g : List (List Int)) (fr tg : List Int) (hg : g.length ≤ 200000) (ht : tot g ≤ 1048576) (ha : Arrows g) (hfr : ∀ v ∈ fr, 0 ≤ v ∧ v < (g.length : Int)) (hfl : fr.length ≤ 1048576) (hto : ∀ v ∈ tg, 0 ≤ v ∧ v < (g.length : Int)) (htl : tg.length ≤ 200000) :
  ∃ (r st : List Int), r.length ≤ g.length + tg.length + 1 ∧ Ev (fun k => impl_stepsFrom.f k (turnedOf g) tg) st ∧ ((∃ v ∈ fr, 0 ≤ st.getD v.toNat 0) → r ≠ []) ∧ Ev (fun k => impl_leastWay.f k g fr tg) r ∧ Ev (fun k => spec_l11Path.f k g fr tg) (r, !r.isEmpty) := by
 obtain ⟨st, ⟨h1, h2, h3⟩, e1, e2⟩ := steps_par (turnedOf g) tg (by rw [turnedOf_length]; omega) (turned_arrows ha ht) (by rw [turnedOf_length]; exact hto) (by omega)
 rw [turnedOf_length] at h1 h3
 obtain ⟨r, ⟨r0, rn⟩, r1, r2⟩ := best_both g st fr (by omega) ha h1 h2 (B := ((g.length + tg.length : Nat) : Int)) h3 (by omega) (by omega) hfr hfl fr.length 0 (-1) (by omega) (.inl rfl)
 exact ⟨r, st, by omega, e1, fun h => rn (.inr (by simpa using h)), Ev.bind (turned_ev g (by omega) ha (by omega)) (Ev.bind e1 r1), Ev.bind (l11Turn_ev g (by omega) ha (by omega)) (Ev.bind e2 r2)⟩
theorem way_both (g : List (List Int)) (fr tg : List Int) (hg : g.length ≤ 200000) (ht : tot g ≤ 1048576) (ha : Arrows g) (hfr : ∀ v ∈ fr, 0 ≤ v ∧ v < (g.length : Int)) (hfl : fr.length ≤ 1048576) (hto : ∀ v ∈ tg, 0 ≤ v ∧ v < (g.length : Int)) (htl : tg.length ≤ 200000) :
  ∃ r, r.length ≤ 1048576 ∧ Ev (fun k => impl_leastWay.f k g fr tg) r ∧ Ev (fun k => spec_l11Path.f k g fr tg) (r, !r.isEmpty) := by
 obtain ⟨r, _, h, _, _, e⟩ := way_more g fr tg hg ht ha hfr hfl hto htl
 exact ⟨r, by omega, e⟩
def nigh (st : List Int) : Int → List Int → Int
 | b, [] => b
 | b, v :: t => nigh st (if 0 ≤ st.getD v.toNat 0 ∧ (b < 0 ∨ st.getD v.toNat 0 < st.getD b.toNat 0) then v else b) t
theorem nigh_in (st : List Int) (P : Int → Prop) : ∀ (l : List Int) (b : Int), (b < 0 ∨ (0 ≤ st.getD b.toNat 0 ∧ P b)) → (∀ v ∈ l, P v) → nigh st b l < 0 ∨ (0 ≤ st.getD (nigh st b l).toNat 0 ∧ P (nigh st b l))
 | [], b, h, _ => h
 | v :: t, b, h, hl => by
  rw [nigh]
  refine nigh_in st P t _ ?_ (fun w hw => hl w (by simp [hw]))
  split
  ·rename_i c; exact .inr ⟨c.1, hl v (by simp)⟩
  ·exact h
theorem meeting_l0 (st : List Int) (bl : List Bool) (hb : bl.length ≤ 1048576) (hl : st.length = bl.length) (d : Nat) : ∀ (j : Nat) (b : Int), j + d = bl.length → (b < 0 ∨ (0 ≤ b ∧ b < (bl.length : Int))) → Ev (fun k => impl_meeting.l0 k st b bl (bl.length : Int) (j : Int)) (nigh st b (trues j (bl.drop j))) := by
 induction d with
 | zero =>
  intro j b hj hbb
  rw [List.drop_of_length_le (by omega)]
  exact Ev.step (f := fun _ => some b) (fun k => by simp only [impl_meeting.l0]; rw [if_neg (by omega)]) (Ev.now _)
 | succ d ih =>
  intro j b hj hbb
  have hjl : j < bl.length := by omega
  rw [drop_cons hjl false, trues]
  by_cases c : bl.getD j false = true
  ·rw [if_pos c, nigh, Int.toNat_natCast]
   by_cases c2 : 0 ≤ st.getD j 0
   ·by_cases c3 : b < 0
    ·rw [if_pos ⟨c2, .inl c3⟩]
     exact Ev.step (fun k => by simp only [impl_meeting.l0]; rw [if_pos (by omega), if_pos (by omega), if_pos (by omega), rdOf_nat, if_pos c, if_pos (by omega), rd_nat, if_pos c2, if_pos c3, wsucc (by omega)]) (ih (j + 1) _ (by omega) (.inr ⟨by omega, by omega⟩))
    ·have e := rd_toNat (l := st) (x := b) (by omega)
     by_cases c4 : st.getD j 0 < st.getD b.toNat 0
     ·rw [if_pos ⟨c2, .inr c4⟩]
      exact Ev.step (fun k => by simp only [impl_meeting.l0]; rw [if_pos (by omega), if_pos (by omega), if_pos (by omega), rdOf_nat, if_pos c, if_pos (by omega), rd_nat, if_pos c2, if_neg c3, if_pos (by omega), if_pos (by omega), e, if_pos c4, wsucc (by omega)]) (ih (j + 1) _ (by omega) (.inr ⟨by omega, by omega⟩))
     ·rw [if_neg (fun h => h.2.elim c3 c4)]
      exact Ev.step (fun k => by simp only [impl_meeting.l0]; rw [if_pos (by omega), if_pos (by omega), if_pos (by omega), rdOf_nat, if_pos c, if_pos (by omega), rd_nat, if_pos c2, if_neg c3, if_pos (by omega), if_pos (by omega), e, if_neg c4, wsucc (by omega)]) (ih (j + 1) _ (by omega) hbb)
   ·rw [if_neg (fun h => c2 h.1)]
    exact Ev.step (fun k => by simp only [impl_meeting.l0]; rw [if_pos (by omega), if_pos (by omega), if_pos (by omega), rdOf_nat, if_pos c, if_pos (by omega), rd_nat, if_neg c2, wsucc (by omega)]) (ih (j + 1) _ (by omega) hbb)
  ·rw [if_neg c]
   exact Ev.step (fun k => by simp only [impl_meeting.l0]; rw [if_pos (by omega), if_pos (by omega), if_pos (by omega), rdOf_nat, if_neg c, wsucc (by omega)]) (ih (j + 1) _ (by omega) hbb)
theorem lasso_meet (g go : List (List Int)) (fr st l : List Int) (hl : l.length ≤ 1048576) (hin : ∀ v ∈ l, 0 ≤ v ∧ v < (st.length : Int)) {r : List Int × List Int × Bool} (h : Ev (fun k => spec_l11Lasso.l0 k g fr go st (nigh st (-1) l) l (l.length : Int) (l.length : Int)) r) (d : Nat) : ∀ (j : Nat) (b : Int), j + d = l.length → (b < 0 ∨ (0 ≤ b ∧ b < (st.length : Int))) → nigh st b (l.drop j) = nigh st (-1) l → Ev (fun k => spec_l11Lasso.l0 k g fr go st b l (l.length : Int) (j : Int)) r := by
 induction d with
 | zero =>
  intro j b hj hbb he
  rw [List.drop_of_length_le (by omega), nigh] at he
  rw [he, show j = l.length by omega]
  exact h
 | succ d ih =>
  intro j b hj hbb he
  have hjl : j < l.length := by omega
  obtain ⟨w0, w1⟩ := hin _ (getD_mem hjl 0)
  rw [drop_cons hjl 0, nigh] at he
  have ev := rd_toNat (l := st) w0
  by_cases c2 : 0 ≤ st.getD (l.getD j 0).toNat 0
  ·by_cases c3 : b < 0
   ·rw [if_pos ⟨c2, .inl c3⟩] at he
    exact Ev.step (fun k => by simp only [spec_l11Lasso.l0]; rw [if_pos (by omega), if_pos (by omega), if_pos (by omega), rd_nat, if_pos w0, if_pos w1, ev, if_pos c2, if_pos c3, wsucc (by omega)]) (ih (j + 1) _ (by omega) (.inr ⟨w0, w1⟩) he)
   ·have e := rd_toNat (l := st) (x := b) (by omega)
    by_cases c4 : st.getD (l.getD j 0).toNat 0 < st.getD b.toNat 0
    ·rw [if_pos ⟨c2, .inr c4⟩] at he
     exact Ev.step (fun k => by simp only [spec_l11Lasso.l0]; rw [if_pos (by omega), if_pos (by omega), if_pos (by omega), rd_nat, if_pos w0, if_pos w1, ev, if_pos c2, if_neg c3, if_pos (by omega), if_pos (by omega), e, if_pos c4, wsucc (by omega)]) (ih (j + 1) _ (by omega) (.inr ⟨w0, w1⟩) he)
    ·rw [if_neg (fun h => h.2.elim c3 c4)] at he
     exact Ev.step (fun k => by simp only [spec_l11Lasso.l0]; rw [if_pos (by omega), if_pos (by omega), if_pos (by omega), rd_nat, if_pos w0, if_pos w1, ev, if_pos c2, if_neg c3, if_pos (by omega), if_pos (by omega), e, if_neg c4, wsucc (by omega)]) (ih (j + 1) _ (by omega) hbb he)
  ·rw [if_neg (fun h => c2 h.1)] at he
   exact Ev.step (fun k => by simp only [spec_l11Lasso.l0]; rw [if_pos (by omega), if_pos (by omega), if_pos (by omega), rd_nat, if_pos w0, if_pos w1, ev, if_neg c2, wsucc (by omega)]) (ih (j + 1) _ (by omega) hbb he)
def stayIn (p : List Int) (own : Int) (v : Nat) (l : List Int) : List Int := l.filter (fun y => decide (p.getD v 0 = own ∧ rd p y = own))
theorem inside_l1 (p : List Int) (own : Int) (n j : Nat) (hn : n ≤ 1048576) (hp : p.length = n) (hj : j < n) (row : List Int) (hrl : row.length ≤ 1048576) (hr : ∀ w ∈ row, 0 ≤ w ∧ w < (n : Int)) (g : List (List Int)) (r : List (List Int)) (d : Nat) : ∀ (i : Nat) (y : List (List Int)), i + d = row.length → y.length = n → (y.getD j []).length ≤ i →
  Ev (fun k => impl_inside.l0 k p own (y.set j (y.getD j [] ++ stayIn p own j (row.drop i))) g (n : Int) ((j + 1 : Nat) : Int)) r → Ev (fun k => impl_inside.l1 k p own y (j : Int) g (n : Int) (j : Int) row (row.length : Int) (i : Int)) r := by
 induction d with
 | zero =>
  intro i y hi hy hc h
  rw [List.drop_of_length_le (by omega)] at h
  have e : y.set j (y.getD j [] ++ stayIn p own j []) = y := by
   rw [show stayIn p own j [] = [] from rfl, List.append_nil, gdE (show j < y.length by omega), List.set_getElem_self]
  rw [e] at h
  exact Ev.step (fun k => by simp only [impl_inside.l1]; rw [if_neg (by omega), wsucc (by omega)]) h
 | succ d ih =>
  intro i y hi hy hc h
  have hil : i < row.length := by omega
  obtain ⟨w0, w1⟩ := hr _ (getD_mem hil 0)
  rw [drop_cons hil 0] at h
  have er : rd_L1 y (j : Int) = y.getD j [] := by simp [rd_L1]
  have skip : ¬ (p.getD j 0 = own ∧ rd p (row.getD i 0) = own) → Ev (fun k => impl_inside.l1 k p own y (j : Int) g (n : Int) (j : Int) row (row.length : Int) ((i + 1 : Nat) : Int)) r := fun c => by
   have es : stayIn p own j (row.getD i 0 :: row.drop (i + 1)) = stayIn p own j (row.drop (i + 1)) := by unfold stayIn; rw [List.filter_cons_of_neg (by simpa using c)]
   rw [es] at h
   exact ih (i + 1) _ (by omega) hy (by omega) h
  by_cases c : p.getD j 0 = own
  ·by_cases c2 : rd p (row.getD i 0) = own
   ·have es : stayIn p own j (row.getD i 0 :: row.drop (i + 1)) = row.getD i 0 :: stayIn p own j (row.drop (i + 1)) := by unfold stayIn; rw [List.filter_cons_of_pos (by simpa using ⟨c, c2⟩)]
    rw [es] at h
    refine Ev.step (fun k => by simp only [impl_inside.l1]; rw [if_pos (by omega), if_pos (by omega), if_pos (by omega), if_pos (by omega), if_pos (by omega), rd_nat, if_pos c, rd_nat, if_pos w0, if_pos (by omega), if_pos c2, if_pos (by omega), er, if_pos (by omega), wsucc (by omega), Int.toNat_natCast]) ?_
    refine ih (i + 1) _ (by omega) (by rw [List.length_set]; exact hy) (by rw [gset, if_pos ⟨rfl, by omega⟩, List.length_append, List.length_singleton]; omega) ?_
    rw [gset, if_pos ⟨rfl, by omega⟩, List.set_set]
    simpa using h
   ·exact Ev.step (fun k => by simp only [impl_inside.l1]; rw [if_pos (by omega), if_pos (by omega), if_pos (by omega), if_pos (by omega), if_pos (by omega), rd_nat, if_pos c, rd_nat, if_pos w0, if_pos (by omega), if_neg c2, wsucc (by omega)]) (skip fun h => c2 h.2)
  ·exact Ev.step (fun k => by simp only [impl_inside.l1]; rw [if_pos (by omega), if_pos (by omega), if_pos (by omega), if_pos (by omega), if_pos (by omega), rd_nat, if_neg c, wsucc (by omega)]) (skip fun h => c h.1)
theorem inside_l0 (g : List (List Int)) (hn : g.length ≤ 1048576) (ha : Arrows g) (p : List Int) (own : Int) (hp : p.length = g.length) (d : Nat) : ∀ (j : Nat) (y : List (List Int)), j + d = g.length → y.length = g.length → (∀ v, j ≤ v → y.getD v [] = []) → (∀ v, v < j → y.getD v [] = stayIn p own v (g.getD v [])) →
  ∃ A, Ev (fun k => impl_inside.l0 k p own y g (g.length : Int) (j : Int)) A ∧ A.length = g.length ∧ ∀ v, v < g.length → A.getD v [] = stayIn p own v (g.getD v []) := by
 induction d with
 | zero =>
  intro j y hj hy h0 h1
  exact ⟨y, Ev.step (f := fun _ => some y) (fun k => by simp only [impl_inside.l0]; rw [if_neg (by omega)]) (Ev.now _), hy, fun v hv => h1 v (by omega)⟩
 | succ d ih =>
  intro j y hj hy h0 h1
  have hjl : j < g.length := by omega
  obtain ⟨hrl, hrr⟩ := ha _ (getD_mem hjl [])
  have er : rd_L1 g (j : Int) = g.getD j [] := by simp [rd_L1]
  obtain ⟨A, e, hA, hw⟩ := ih (j + 1) (y.set j (y.getD j [] ++ stayIn p own j ((g.getD j []).drop 0))) (by omega) (by rw [List.length_set]; exact hy) (fun v hv => by
   rw [gset, if_neg (by omega)]; exact h0 v (by omega)) (fun v hv => by
   rw [gset]
   by_cases c : j = v
   ·subst c
    rw [if_pos ⟨rfl, by omega⟩, h0 j (Nat.le_refl _), List.drop_zero, List.nil_append]
   ·rw [if_neg (by omega)]; exact h1 v (by omega))
  refine ⟨A, Ev.step (fun k => by simp only [impl_inside.l0]; rw [if_pos (by omega), if_pos (by omega), if_pos (by omega), er]) ?_, hA, hw⟩
  exact inside_l1 p own g.length j hn hp hjl (g.getD j []) hrl hrr g A (g.getD j []).length 0 y (by omega) hy (by rw [h0 j (Nat.le_refl _)]; simp) e
theorem inside_ev (g : List (List Int)) (hn : g.length ≤ 1048576) (ha : Arrows g) (p : List Int) (own : Int) (hp : p.length = g.length) : ∃ A, Ev (fun k => impl_inside.f k g p own) A ∧ A.length = g.length ∧ ∀ v, v < g.length → A.getD v [] = stayIn p own v (g.getD v []) := by
 obtain ⟨A, e, h1, h2⟩ := inside_l0 g hn ha p own hp g.length 0 (List.replicate g.length []) (by omega) (by simp) (fun v _ => by
  rw [List.getD_eq_getElem?_getD, List.getElem?_replicate]; split <;> rfl) (fun v hv => absurd hv (Nat.not_lt_zero v))
 refine ⟨A, ev_pos (by omega) (ev_pos (by omega) ?_), h1, h2⟩
 rw [Int.toNat_natCast]
 exact e
def Cl (C : Nat → Prop) (l : List Int) : Prop := ∀ w ∈ l, 0 ≤ w ∧ C w.toNat
structure Same (C : Nat → Prop) (a b : List (List Int)) : Prop where
 len : a.length = b.length
 row : ∀ v, C v → a.getD v [] = b.getD v []
 into : ∀ v, C v → Cl C (a.getD v [])
theorem putArcs_off {C : Nat → Prop} (k : Int) {v : Nat} (hv : C v) : ∀ (x : List Int) (y : List (List Int)), (∀ w ∈ x, ¬ C w.toNat) → (putArcs k x y).getD v [] = y.getD v []
 | [], y, _ => rfl
 | w :: t, y, h => by rw [putArcs, putArcs_off k hv t _ (fun z hz => h z (by simp [hz])), gset, if_neg (c := w.toNat = v ∧ v < y.length) (fun e => h w (by simp) (e.1 ▸ hv))]
theorem putArcs_on {C : Nat → Prop} (k : Int) : ∀ (x : List Int) (y y' : List (List Int)), y.length = y'.length → (∀ v, C v → y.getD v [] = y'.getD v []) → ∀ v, C v → (putArcs k x y).getD v [] = (putArcs k x y').getD v []
 | [], y, y', _, h, v, hv => h v hv
 | w :: t, y, y', hl, h, v, hv => by
  rw [putArcs, putArcs]
  refine putArcs_on k t _ _ (by simp [hl]) (fun u hu => ?_) v hv
  rw [gset, gset]
  by_cases e : w.toNat = u ∧ u < y.length
  ·rw [if_pos e, if_pos ⟨e.1, hl ▸ e.2⟩, e.1, h u hu]
  ·rw [if_neg e, if_neg (fun f => e ⟨f.1, hl ▸ f.2⟩)]; exact h u hu
theorem turnFrom_agr {C : Nat → Prop} : ∀ (a b : List (List Int)) (j : Nat) (y y' : List (List Int)), a.length = b.length → (∀ i, C (j + i) → a.getD i [] = b.getD i []) → (∀ i, ¬ C (j + i) → ∀ w, w ∈ a.getD i [] ∨ w ∈ b.getD i [] → ¬ C w.toNat) → y.length = y'.length → (∀ v, C v → y.getD v [] = y'.getD v []) → ∀ v, C v → (turnFrom j a y).getD v [] = (turnFrom j b y').getD v []
 | [], [], j, y, y', _, _, _, _, h, v, hv => h v hv
 | [], _ :: _, _, _, _, hl, _, _, _, _, _, _ => by simp at hl
 | _ :: _, [], _, _, _, hl, _, _, _, _, _, _ => by simp at hl
 | x :: t, x' :: t', j, y, y', hl, h1, h2, hy, h3, v, hv => by
  rw [turnFrom, turnFrom]
  have e : ∀ i, j + (i + 1) = j + 1 + i := fun i => by omega
  refine turnFrom_agr t t' (j + 1) _ _ (by simpa using hl) (fun i hc => by simpa using h1 (i + 1) (by rw [e]; exact hc)) (fun i hc => by simpa using h2 (i + 1) (by rw [e]; exact hc)) (by rw [putArcs_length, putArcs_length]; exact hy) (fun u hu => ?_) v hv
  by_cases c : C j
  ·have e1 : x = x' := by simpa using h1 0 c
   rw [e1]
   exact putArcs_on _ x' y y' hy h3 u hu
  ·have h4 := h2 0 c
   rw [putArcs_off _ hu x y (fun w hw => h4 w (.inl (by simpa using hw))), putArcs_off _ hu x' y' (fun w hw => h4 w (.inr (by simpa using hw)))]
   exact h3 u hu
theorem Same.turned {C : Nat → Prop} {a b : List (List Int)} (ha : Arrows a) (h : Same C a b) (ho : ∀ v, ¬ C v → ∀ w, w ∈ a.getD v [] ∨ w ∈ b.getD v [] → ¬ C w.toNat) : Same C (turnedOf a) (turnedOf b) := by
 refine ⟨by rw [turnedOf_length, turnedOf_length]; exact h.len, fun v hv => ?_, fun v hv w hw => ?_⟩
 ·unfold turnedOf
  exact turnFrom_agr a b 0 _ _ h.len (fun i hc => h.row i (by simpa using hc)) (fun i hc => ho i (by simpa using hc)) (by simp [h.len]) (fun u _ => by rw [h.len]) v hv
 ·obtain ⟨i, _, rfl, h2⟩ := turned_mem ha hw
  refine ⟨by omega, ?_⟩
  rw [Int.toNat_natCast]
  exact Classical.byContradiction fun hc => ho i hc _ (.inl h2) (by rw [Int.toNat_natCast]; exact hv)
theorem rd_in {l : List Int} {j : Int} (h0 : 0 ≤ j) (h1 : j < (l.length : Int)) : rd l j ∈ l := by
 obtain ⟨u, rfl⟩ := Int.eq_ofNat_of_zero_le h0
 rw [rd_nat]
 exact getD_mem (by omega) 0
theorem Cl.at_ {C : Nat → Prop} {l : List Int} (h : Cl C l) {j : Int} (h0 : 0 ≤ j) (h1 : j < (l.length : Int)) : C (rd l j).toNat := (h _ (rd_in h0 h1)).2
theorem Cl.snoc {C : Nat → Prop} {l : List Int} (h : Cl C l) {x : Int} (h0 : 0 ≤ x) (h1 : C x.toNat) : Cl C (l ++ [x]) := fun w hw => by
 rcases List.mem_append.1 hw with hw | hw
 ·exact h w hw
 ·rw [List.mem_singleton.1 hw]; exact ⟨h0, h1⟩
theorem Cl.drop {C : Nat → Prop} {l : List Int} (h : Cl C l) (n : Nat) : Cl C (l.drop n) := fun w hw => h w (List.mem_of_mem_drop hw)
theorem steps_same {C : Nat → Prop} {a b : List (List Int)} (h : Same C a b) : ∀ k, (∀ st q, Cl C q → impl_stepsFrom.l1 k a st q = impl_stepsFrom.l1 k b st q) ∧ (∀ st q ws n j, Cl C q → Cl C ws → impl_stepsFrom.l2 k a st q ws n j = impl_stepsFrom.l2 k b st q ws n j)
 | 0 => ⟨fun _ _ _ => by simp only [impl_stepsFrom.l1], fun _ _ _ _ _ _ _ => by simp only [impl_stepsFrom.l2]⟩
 | k + 1 => by
  obtain ⟨i1, i2⟩ := steps_same h k
  refine ⟨fun st q hq => ?_, fun st q ws n j hq hw => ?_⟩
  ·simp only [impl_stepsFrom.l1, h.len]
   refine ite_congr rfl (fun _ => ?_) (fun _ => rfl)
   refine ite_congr rfl (fun c => ?_) (fun _ => rfl)
   refine ite_congr rfl (fun c0 => ite_congr rfl (fun _ => ?_) (fun _ => rfl)) (fun _ => rfl)
   have hc := hq.at_ (j := 0) (by omega) c
   have e : ∀ g : List (List Int), rd_L1 g (rd q 0) = g.getD (rd q 0).toNat [] := fun g => by simp [rd_L1]
   rw [e, e, ← h.row _ hc]
   exact i2 st q _ _ _ hq (h.into _ hc)
  ·simp only [impl_stepsFrom.l2]
   refine ite_congr rfl (fun _ => ?_) (fun _ => ite_congr rfl (fun _ => i1 _ _ (hq.drop _)) (fun _ => rfl))
   refine ite_congr rfl (fun c0 => ite_congr rfl (fun c1 => ?_) (fun _ => rfl)) (fun _ => rfl)
   refine ite_congr rfl (fun c2 => ite_congr rfl (fun _ => ?_) (fun _ => rfl)) (fun _ => rfl)
   refine ite_congr rfl (fun _ => ?_) (fun _ => i2 _ _ _ _ _ hq hw)
   refine ite_congr rfl (fun _ => ite_congr rfl (fun _ => ite_congr rfl (fun _ => ?_) (fun _ => rfl)) (fun _ => rfl)) (fun _ => rfl)
   exact ite_congr rfl (fun _ => i2 _ _ _ _ _ (hq.snoc c2 (hw.at_ c0 c1)) hw) (fun _ => rfl)
theorem steps_same0 {C : Nat → Prop} {a b : List (List Int)} (h : Same C a b) : ∀ k st q ws n j, Cl C q → impl_stepsFrom.l0 k a st q ws n j = impl_stepsFrom.l0 k b st q ws n j
 | 0, _, _, _, _, _, _ => by simp only [impl_stepsFrom.l0]
 | k + 1, st, q, ws, n, j, hq => by
  simp only [impl_stepsFrom.l0]
  refine ite_congr rfl (fun _ => ?_) (fun _ => (steps_same h k).1 _ _ hq)
  refine ite_congr rfl (fun _ => ite_congr rfl (fun _ => ite_congr rfl (fun _ => ite_congr rfl (fun _ => ?_) (fun _ => rfl)) (fun _ => rfl)) (fun _ => rfl)) (fun _ => rfl)
  exact steps_same0 h k _ _ _ _ _ hq
theorem steps_samef {C : Nat → Prop} {a b : List (List Int)} (h : Same C a b) (k : Nat) {q : List Int} (hq : Cl C q) (hl : q.length ≤ 1048576) : impl_stepsFrom.f k a q = impl_stepsFrom.f k b q := by
 simp only [impl_stepsFrom.f, h.len, cloneInt_eq q (by omega), Option.bind_some, steps_same0 h k _ _ _ _ _ hq]
theorem way_same1 {C : Nat → Prop} {a b : List (List Int)} (h : Same C a b) : ∀ k way st v, C v.toNat → impl_leastWay.l1 k a way st v = impl_leastWay.l1 k b way st v
 | 0, _, _, _, _ => by simp only [impl_leastWay.l1]
 | k + 1, way, st, v, hv => by
  have e : ∀ g : List (List Int), rd_L1 g v = g.getD v.toNat [] := fun g => by simp [rd_L1]
  simp only [impl_leastWay.l1, h.len, e, ← h.row _ hv]
  refine ite_congr rfl (fun _ => ite_congr rfl (fun _ => ite_congr rfl (fun _ => ite_congr rfl (fun _ => ?_) (fun _ => rfl)) (fun _ => rfl)) (fun _ => rfl)) (fun _ => rfl)
  congr 1
  funext t
  exact ite_congr rfl (fun c0 => ite_congr rfl (fun c1 => ite_congr rfl (fun _ => way_same1 h k _ _ _ ((h.into _ hv).at_ c0 c1)) (fun _ => rfl)) (fun _ => rfl)) (fun _ => rfl)
theorem way_same0 {C : Nat → Prop} {a b : List (List Int)} (h : Same C a b) : ∀ k x fr n j st, (x < 0 ∨ C x.toNat) → Cl C fr → impl_leastWay.l0 k a x fr n j st = impl_leastWay.l0 k b x fr n j st
 | 0, _, _, _, _, _, _, _ => by simp only [impl_leastWay.l0]
 | k + 1, x, fr, n, j, st, hx, hf => by
  simp only [impl_leastWay.l0]
  refine ite_congr rfl (fun _ => ?_) (fun _ => ite_congr rfl (fun _ => rfl) (fun c => way_same1 h k _ _ _ (hx.resolve_left c)))
  refine ite_congr rfl (fun c0 => ite_congr rfl (fun c1 => ?_) (fun _ => rfl)) (fun _ => rfl)
  have hn := hf.at_ c0 c1
  refine ite_congr rfl (fun _ => ite_congr rfl (fun _ => ?_) (fun _ => rfl)) (fun _ => rfl)
  refine ite_congr rfl (fun _ => ?_) (fun _ => way_same0 h k _ _ _ _ _ hx hf)
  refine ite_congr rfl (fun _ => way_same0 h k _ _ _ _ _ (.inr hn) hf) (fun _ => ?_)
  exact ite_congr rfl (fun _ => ite_congr rfl (fun _ => ite_congr rfl (fun _ => way_same0 h k _ _ _ _ _ (.inr hn) hf) (fun _ => way_same0 h k _ _ _ _ _ hx hf)) (fun _ => rfl)) (fun _ => rfl)
theorem way_in1 {C : Nat → Prop} {a : List (List Int)} (h : Same C a a) : ∀ k way st v r, C v.toNat → Cl C way → impl_leastWay.l1 k a way st v = some r → Cl C r
 | 0, _, _, _, _, _, _, e => by simp [impl_leastWay.l1] at e
 | k + 1, way, st, v, r, hv, hw, e => by
  have er : rd_L1 a v = a.getD v.toNat [] := by simp [rd_L1]
  simp only [impl_leastWay.l1, er] at e
  split at e
  ·split at e
   ·split at e
    ·split at e
     ·obtain ⟨t, _, e⟩ := Option.bind_eq_some_iff.1 e
      split at e
      ·split at e
       ·split at e
        ·rename_i c0 c1 _
         exact way_in1 h k _ _ _ _ ((h.into _ hv).at_ c0 c1) (hw.snoc ((h.into _ hv) _ (rd_in c0 c1)).1 ((h.into _ hv).at_ c0 c1)) e
        ·simp at e
       ·simp at e
      ·simp at e
     ·simp at e
    ·rw [← Option.some.inj e]; exact hw
   ·simp at e
  ·simp at e
theorem way_in0 {C : Nat → Prop} {a : List (List Int)} (h : Same C a a) : ∀ k x fr n j st r, (x < 0 ∨ C x.toNat) → Cl C fr → impl_leastWay.l0 k a x fr n j st = some r → Cl C r
 | 0, _, _, _, _, _, _, _, _, e => by simp [impl_leastWay.l0] at e
 | k + 1, x, fr, n, j, st, r, hx, hf, e => by
  simp only [impl_leastWay.l0] at e
  split at e
  ·split at e
   ·rename_i c0
    split at e
    ·rename_i c1
     have hn := hf.at_ c0 c1
     split at e
     ·split at e
      ·split at e
       ·split at e
        ·exact way_in0 h k _ _ _ _ _ _ (.inr hn) hf e
        ·split at e
         ·split at e
          ·split at e
           ·exact way_in0 h k _ _ _ _ _ _ (.inr hn) hf e
           ·exact way_in0 h k _ _ _ _ _ _ hx hf e
          ·simp at e
         ·simp at e
       ·exact way_in0 h k _ _ _ _ _ _ hx hf e
      ·simp at e
     ·simp at e
    ·simp at e
   ·simp at e
  ·split at e
   ·rw [← Option.some.inj e]; exact fun w hw => by simp at hw
   ·rename_i c
    exact way_in1 h k _ _ _ _ (hx.resolve_left c) (fun w hw => by rw [List.mem_singleton.1 hw]; exact ⟨by omega, hx.resolve_left c⟩) e
def Arr (g : List (List Int)) : Prop := ∀ x ∈ g, x.length ≤ 1048576 ∧ ∀ w ∈ x, 0 ≤ w ∧ w < (g.length : Int)
def Walk (g : List (List Int)) (fr : List Int) : Nat → Int → Prop
 | 0, v => v ∈ fr
 | n + 1, v => ∃ u : Nat, u < g.length ∧ Walk g fr n (u : Int) ∧ v ∈ g.getD u []
def Reach (g : List (List Int)) (fr : List Int) (v : Int) : Prop := ∃ n, Walk g fr n v
theorem Walk.in_ {g : List (List Int)} {fr : List Int} (ha : Arr g) (hf : ∀ v ∈ fr, 0 ≤ v ∧ v < (g.length : Int)) : ∀ {n : Nat} {v : Int}, Walk g fr n v → 0 ≤ v ∧ v < (g.length : Int)
 | 0, v, h => hf v h
 | n + 1, v, ⟨u, hu, _, hv⟩ => (ha _ (getD_mem hu [])).2 v hv
def negs (l : List Int) : Nat := l.countP (fun x => decide (x < 0))
theorem getD_set' {l : List Int} {i j : Nat} {x d : Int} : (l.set i x).getD j d = if i = j ∧ j < l.length then x else l.getD j d := by
 simp only [List.getD_eq_getElem?_getD, List.getElem?_set]
 by_cases h : i = j
 ·subst h
  by_cases h2 : i < l.length
  ·simp [h2]
  ·simp [h2]
 ·simp [h]
theorem negs_set {l : List Int} {i : Nat} {x : Int} (hi : i < l.length) (h : l.getD i 0 < 0) (hx : 0 ≤ x) : negs (l.set i x) + 1 = negs l := by
 have e : l.getD i 0 = l[i] := getD_eq hi 0
 rw [e] at h
 have h1 : 0 < l.countP (fun x => decide (x < 0)) := List.countP_pos_iff.2 ⟨l[i], List.getElem_mem hi, by simpa using h⟩
 unfold negs
 rw [List.countP_set hi]
 simp only [h, show ¬ x < 0 by omega, decide_true, decide_false, if_true]
 simp only [Bool.false_eq_true, if_false]
 omega
structure Bfs (g : List (List Int)) (fr : List Int) (N : Nat) (c : Int) (st q : List Int) : Prop where
 len : st.length = g.length
 lo : ∀ x ∈ st, -1 ≤ x
 hi : ∀ x ∈ st, x ≤ c
 ok : ∀ v ∈ q, 0 ≤ v ∧ v < (g.length : Int) ∧ 0 ≤ st.getD v.toNat 0
 sum : negs st + q.length ≤ N
 way : ∀ v : Nat, v < g.length → 0 ≤ st.getD v 0 → Walk g fr (st.getD v 0).toNat v
 start : ∀ v ∈ fr, st.getD v.toNat 0 = 0
 shut : ∀ v : Nat, v < g.length → 0 ≤ st.getD v 0 → (v : Int) ∉ q → ∀ w ∈ g.getD v [], 0 ≤ st.getD w.toNat 0 ∧ st.getD w.toNat 0 ≤ st.getD v 0 + 1
 mono : q.Pairwise fun a b => st.getD a.toNat 0 ≤ st.getD b.toNat 0
 top : ∀ a ∈ q, ∀ x ∈ st, x ≤ st.getD a.toNat 0 + 1
structure Dist (g : List (List Int)) (fr : List Int) (st : List Int) : Prop where
 len : st.length = g.length
 lo : ∀ x ∈ st, -1 ≤ x
 few : ∀ x ∈ st, x ≤ 4194304
 way : ∀ v : Nat, v < g.length → 0 ≤ st.getD v 0 → Walk g fr (st.getD v 0).toNat v
 least : ∀ (n : Nat) (v : Nat), v < g.length → Walk g fr n v → 0 ≤ st.getD v 0 ∧ st.getD v 0 ≤ n
theorem Bfs.done {g : List (List Int)} {fr : List Int} {N : Nat} {c : Int} {st : List Int} (h : Bfs g fr N c st []) (hc : c ≤ 4194304) : Dist g fr st := by
 refine ⟨h.len, h.lo, fun x hx => by have := h.hi x hx; omega, h.way, fun n => ?_⟩
 induction n with
 | zero =>
  intro v hv hw
  have := h.start v hw
  rw [Int.toNat_natCast] at this
  omega
 | succ n ih =>
  intro v hv ⟨u, hu, h1, h2⟩
  obtain ⟨h3, h4⟩ := ih u hu h1
  have := h.shut u hu h3 (by simp) v h2
  rw [Int.toNat_natCast] at this
  omega
structure Mid (g : List (List Int)) (fr : List Int) (N : Nat) (c : Int) (v j : Nat) (st q : List Int) : Prop where
 len : st.length = g.length
 lo : ∀ x ∈ st, -1 ≤ x
 hi : ∀ x ∈ st, x ≤ c
 ok : ∀ v ∈ q, 0 ≤ v ∧ v < (g.length : Int) ∧ 0 ≤ st.getD v.toNat 0
 sum : negs st + q.length ≤ N
 way : ∀ v : Nat, v < g.length → 0 ≤ st.getD v 0 → Walk g fr (st.getD v 0).toNat v
 start : ∀ v ∈ fr, st.getD v.toNat 0 = 0
 shut : ∀ u : Nat, u < g.length → 0 ≤ st.getD u 0 → u ≠ v → (u : Int) ∉ q → ∀ w ∈ g.getD u [], 0 ≤ st.getD w.toNat 0 ∧ st.getD w.toNat 0 ≤ st.getD u 0 + 1
 mono : q.Pairwise fun a b => st.getD a.toNat 0 ≤ st.getD b.toNat 0
 top : ∀ x ∈ st, x ≤ st.getD v 0 + 1
 ge : ∀ a ∈ q, st.getD v 0 ≤ st.getD a.toNat 0
 vin : v < g.length
 v0 : 0 ≤ st.getD v 0
 part : ∀ i, i < j → i < (g.getD v []).length → 0 ≤ st.getD ((g.getD v []).getD i 0).toNat 0
theorem Bfs.mid {g : List (List Int)} {fr : List Int} {N : Nat} {c : Int} {st q : List Int} {v : Nat} (h : Bfs g fr (N + 1) c st ((v : Int) :: q)) : Mid g fr N c v 0 st q := by
 obtain ⟨h1, h2, h3⟩ := h.ok v (by simp)
 rw [Int.toNat_natCast] at h3
 obtain ⟨m1, m2⟩ := List.pairwise_cons.1 h.mono
 have hs := h.sum
 simp only [List.length_cons] at hs
 exact ⟨h.len, h.lo, h.hi, fun x hx => h.ok x (by simp [hx]), by omega, h.way, h.start, fun u hu h0 hne hq => h.shut u hu h0 (fun g => by
  rcases List.mem_cons.1 g with e | e
  ·exact hne (by omega)
  ·exact hq e), m2, fun x hx => by have := h.top v (by simp) x hx; rwa [Int.toNat_natCast] at this, fun a ha => by have := m1 a ha; rwa [Int.toNat_natCast] at this, by omega, h3, fun i hi => by omega⟩
theorem Mid.skip {g : List (List Int)} {fr : List Int} {N : Nat} {c : Int} {st q : List Int} {v j : Nat} (h : Mid g fr N c v j st q) (hn : 0 ≤ st.getD ((g.getD v []).getD j 0).toNat 0) : Mid g fr N c v (j + 1) st q := by
 refine ⟨h.len, h.lo, h.hi, h.ok, h.sum, h.way, h.start, h.shut, h.mono, h.top, h.ge, h.vin, h.v0, fun i h1 h2 => ?_⟩
 rcases Nat.lt_or_ge i j with h3 | h3
 ·exact h.part i h3 h2
 ·obtain rfl : i = j := by omega
  exact hn
theorem Mid.put {g : List (List Int)} {fr : List Int} {N : Nat} {c : Int} {st q : List Int} {v j w : Nat} (h : Mid g fr N c v j st q) (hj : j < (g.getD v []).length) (hw : (g.getD v []).getD j 0 = (w : Int)) (hwl : w < g.length) (hn : st.getD w 0 < 0) (hc : st.getD v 0 + 1 ≤ c) :
  Mid g fr N c v (j + 1) (st.set w (st.getD v 0 + 1)) (q ++ [(w : Int)]) := by
 have hl := h.len
 have hwv : w ≠ v := fun e => by subst e; have := h.v0; omega
 have hv0 := h.v0
 have keep : ∀ x : Nat, x ≠ w → (st.set w (st.getD v 0 + 1)).getD x 0 = st.getD x 0 := fun x hx => by
  rw [getD_set', if_neg (fun g => hx g.1.symm)]
 have new : (st.set w (st.getD v 0 + 1)).getD w 0 = st.getD v 0 + 1 := by rw [getD_set', if_pos ⟨rfl, by omega⟩]
 have old : ∀ x : Nat, 0 ≤ st.getD x 0 → (st.set w (st.getD v 0 + 1)).getD x 0 = st.getD x 0 := fun x hx => keep x (fun e => by subst e; omega)
 have hq : ∀ a ∈ q, (st.set w (st.getD v 0 + 1)).getD a.toNat 0 = st.getD a.toNat 0 := fun a ha => old _ (h.ok a ha).2.2
 refine ⟨by simpa using hl, fun x hx => ?_, fun x hx => ?_, fun x hx => ?_, ?_, fun x hx h0 => ?_, fun x hx => ?_, fun u hu h0 hne hnq => ?_, ?_, fun x hx => ?_, fun a ha => ?_, h.vin, by rw [keep v hwv.symm]; exact hv0, fun i h1 h2 => ?_⟩
 ·rcases List.mem_or_eq_of_mem_set hx with hx | rfl
  ·exact h.lo x hx
  ·omega
 ·rcases List.mem_or_eq_of_mem_set hx with hx | rfl
  ·exact h.hi x hx
  ·exact hc
 ·rcases List.mem_append.1 hx with hx | hx
  ·obtain ⟨h1, h2, h3⟩ := h.ok x hx
   exact ⟨h1, h2, by rw [hq x hx]; exact h3⟩
  ·rw [List.mem_singleton.1 hx, Int.toNat_natCast, new]
   exact ⟨by omega, by omega, by omega⟩
 ·have h1 := negs_set (l := st) (i := w) (x := st.getD v 0 + 1) (by omega) hn (by omega)
  have h2 := h.sum
  simp only [List.length_append, List.length_singleton]; omega
 ·by_cases e : x = w
  ·subst e
   rw [new, show (st.getD v 0 + 1).toNat = (st.getD v 0).toNat + 1 by omega]
   exact ⟨v, h.vin, h.way v h.vin hv0, by rw [← hw]; exact getD_mem hj 0⟩
  ·rw [keep x e] at h0 ⊢
   exact h.way x hx h0
 ·have := h.start x hx
  rw [old _ (by omega)]; exact this
 ·have hu2 : u ≠ w := fun e => hnq (by rw [e]; simp)
  rw [keep u hu2] at h0 ⊢
  intro x hx
  obtain ⟨h1, h2⟩ := h.shut u hu h0 hne (fun g => hnq (by simp [g])) x hx
  rw [old _ h1]
  exact ⟨h1, h2⟩
 ·refine List.pairwise_append.2 ⟨h.mono.imp_of_mem (fun {a b} ha hb hab => by rw [hq a ha, hq b hb]; exact hab), by simp, fun a ha b hb => ?_⟩
  rw [List.mem_singleton.1 hb, Int.toNat_natCast, new, hq a ha]
  have h1 := (h.ok a ha).2
  exact h.top _ (getD_mem (by omega) 0)
 ·rw [keep v hwv.symm]
  rcases List.mem_or_eq_of_mem_set hx with hx | rfl
  ·exact h.top x hx
  ·omega
 ·rw [keep v hwv.symm]
  rcases List.mem_append.1 ha with ha | ha
  ·rw [hq a ha]; exact h.ge a ha
  ·rw [List.mem_singleton.1 ha, Int.toNat_natCast, new]; omega
 ·rcases Nat.lt_or_ge i j with h3 | h3
  ·have := h.part i h3 h2
   rw [old _ this]; exact this
  ·obtain rfl : i = j := by omega
   rw [hw, Int.toNat_natCast, new]; omega
theorem Mid.done {g : List (List Int)} {fr : List Int} {N : Nat} {c : Int} {st q : List Int} {v : Nat} (ha : Arr g) (h : Mid g fr N c v (g.getD v []).length st q) : Bfs g fr N c st q := by
 refine ⟨h.len, h.lo, h.hi, h.ok, h.sum, h.way, h.start, fun u hu h0 hq w hw => ?_, h.mono, fun a hm x hx => ?_⟩
 ·by_cases e : u = v
  ·subst e
   obtain ⟨i, hi, e2⟩ := List.getElem_of_mem hw
   have h1 := h.part i hi hi
   rw [getD_eq hi, e2] at h1
   have h2 := (ha _ (getD_mem hu [])).2 w hw
   have h3 := h.len
   exact ⟨h1, h.top _ (getD_mem (by omega) 0)⟩
  ·exact h.shut u hu h0 e hq w hw
 ·have h1 := h.top x hx
  have h2 := h.ge a hm
  omega
def dists : Nat → List Int → List Int
 | _, [] => []
 | j, x :: t => if 0 ≤ x then (j : Int) :: dists (j + 1) t else dists (j + 1) t
theorem mem_dists (x : Int) : ∀ (l : List Int) (j : Nat), x ∈ dists j l ↔ ∃ i : Nat, x = ((j + i : Nat) : Int) ∧ i < l.length ∧ 0 ≤ l.getD i 0
 | [], j => by simp [dists]
 | y :: t, j => by
  have ih := mem_dists x t (j + 1)
  have split : (∃ i : Nat, x = ((j + i : Nat) : Int) ∧ i < (y :: t).length ∧ 0 ≤ (y :: t).getD i 0) ↔ (x = (j : Int) ∧ 0 ≤ y) ∨ ∃ i : Nat, x = ((j + 1 + i : Nat) : Int) ∧ i < t.length ∧ 0 ≤ t.getD i 0 := by
   constructor
   ·rintro ⟨i, h1, h2, h3⟩
    cases i with
    | zero => exact .inl ⟨by simpa using h1, by simpa using h3⟩
    | succ i => exact .inr ⟨i, by rw [h1]; congr 1; omega, by simpa using h2, by simpa using h3⟩
   ·rintro (⟨h1, h2⟩ | ⟨i, h1, h2, h3⟩)
    ·exact ⟨0, by simpa using h1, by simp, by simpa using h2⟩
    ·exact ⟨i + 1, by rw [h1]; congr 1; omega, by simpa using h2, by simpa using h3⟩
  rw [split, ← ih, show dists j (y :: t) = if 0 ≤ y then (j : Int) :: dists (j + 1) t else dists (j + 1) t from rfl]
  by_cases h : 0 ≤ y
  ·rw [if_pos h, List.mem_cons]; exact ⟨fun g => g.imp (fun g => ⟨g, h⟩) id, fun g => g.imp (fun g => g.1) id⟩
  ·rw [if_neg h]; exact ⟨fun g => .inr g, fun g => g.elim (fun g => absurd g.2 h) id⟩
theorem dists_rise : ∀ (l : List Int) (j : Nat), (dists j l).Pairwise (· < ·)
 | [], j => by simp [dists]
 | y :: t, j => by
  have ih := dists_rise t (j + 1)
  rw [show dists j (y :: t) = if 0 ≤ y then (j : Int) :: dists (j + 1) t else dists (j + 1) t from rfl]
  split
  ·refine List.pairwise_cons.2 ⟨fun a ha => ?_, ih⟩
   obtain ⟨i, rfl, _⟩ := (mem_dists a t (j + 1)).1 ha
   omega
  ·exact ih
theorem Dist.reach {g : List (List Int)} {fr : List Int} {st : List Int} (ha : Arr g) (hf : ∀ v ∈ fr, 0 ≤ v ∧ v < (g.length : Int)) (h : Dist g fr st) (x : Int) : x ∈ dists 0 st ↔ Reach g fr x := by
 rw [mem_dists]
 have hl := h.len
 constructor
 ·rintro ⟨i, rfl, h1, h2⟩
  exact ⟨_, by rw [Nat.zero_add]; exact h.way i (by omega) h2⟩
 ·rintro ⟨n, hn⟩
  obtain ⟨h1, h2⟩ := Walk.in_ ha hf hn
  obtain ⟨i, rfl⟩ := Int.eq_ofNat_of_zero_le h1
  exact ⟨i, by rw [Nat.zero_add], by omega, (h.least n i (by omega) hn).1⟩
theorem repeatNeg_is (n : Nat) (h : n ≤ 1048576) : slices_Repeat_int_int.f [(-1)] (n : Int) = some (List.replicate n (-1)) := by
 rw [slices_Repeat_int_int.f, if_pos ⟨rfl, by omega, by omega⟩]; rfl
theorem steps_l2 {g : List (List Int)} (hg : g.length ≤ 1048576) (ha : Arr g) (fr : List Int) {v : Nat} (hv : v < g.length) (N : Nat) (hN : N ≤ 4194304) (c : Int) (hc : c ≤ 4194304)
  (M : ∀ st q, Bfs g fr N (c + 1) st q → ∃ r, Dist g fr r ∧ Ev (fun k => impl_stepsFrom.l1 k g st q) r) (d : Nat) : ∀ (j : Nat) (st q : List Int), j + d = (g.getD v []).length → Mid g fr N (c + 1) v j st q → st.getD v 0 ≤ c →
  ∃ r, Dist g fr r ∧ Ev (fun k => impl_stepsFrom.l2 k g st ((v : Int) :: q) (g.getD v []) ((g.getD v []).length : Int) (j : Int)) r := by
 obtain ⟨hwl, hw⟩ := ha _ (getD_mem hv [])
 induction d with
 | zero =>
  intro j st q hj hm h1
  have hs := hm.sum
  obtain rfl : j = (g.getD v []).length := by omega
  obtain ⟨r, hr, e⟩ := M st q (hm.done ha)
  exact ⟨r, hr, Ev.step (fun k => by simp only [impl_stepsFrom.l2]; rw [if_neg (by omega), if_pos (by simp only [List.length_cons]; omega)]; rfl) e⟩
 | succ d ih =>
  intro j st q hj hm h1
  have hl := hm.len
  have h0 := hm.v0
  have hb := hw _ (getD_mem (l := g.getD v []) (j := j) (by omega) 0)
  have hs := hm.sum
  obtain ⟨u, hu⟩ := Int.eq_ofNat_of_zero_le hb.1
  have hug : u < g.length := by omega
  have eh : rd ((v : Int) :: q) 0 = v := by simp [rd]
  by_cases hn : st.getD u 0 < 0
  ·have hne : u ≠ v := fun e => by subst e; omega
   obtain ⟨r, hr, e1⟩ := ih (j + 1) _ _ (by omega) (hm.put (by omega) hu hug hn (by omega)) (by rw [getD_set', if_neg (fun h => hne h.1)]; exact h1)
   have ew : wrap64 (st.getD v 0 + 1) = st.getD v 0 + 1 := wid (by omega) (by omega)
   refine ⟨r, hr, Ev.step (fun k => ?_) e1⟩
   simp only [impl_stepsFrom.l2]
   rw [if_pos (by omega), if_pos (by omega), if_pos (by omega), rd_nat, hu, if_pos (by omega), if_pos (by omega), rd_nat, if_pos hn, if_pos (by simp only [List.length_cons]; omega), eh, if_pos (by omega), if_pos (by omega), if_pos (by simp only [List.length_cons]; omega), rd_nat, ew, wsucc (by omega), Int.toNat_natCast]
   rfl
  ·obtain ⟨r, hr, e1⟩ := ih (j + 1) st q (by omega) (hm.skip (by rw [hu, Int.toNat_natCast]; omega)) h1
   refine ⟨r, hr, Ev.step (fun k => ?_) e1⟩
   simp only [impl_stepsFrom.l2]
   rw [if_pos (by omega), if_pos (by omega), if_pos (by omega), rd_nat, hu, if_pos (by omega), if_pos (by omega), rd_nat, if_neg hn, wsucc (by omega)]
theorem steps_l1 {g : List (List Int)} (hg : g.length ≤ 1048576) (ha : Arr g) (fr : List Int) : ∀ (N : Nat) (st q : List Int) (c : Int), 0 ≤ c → c + N ≤ 4194304 → Bfs g fr N c st q → ∃ r, Dist g fr r ∧ Ev (fun k => impl_stepsFrom.l1 k g st q) r
 | N, st, [], c, _, hcc, hb => ⟨st, hb.done (by omega), Ev.step (f := fun _ => some st) (fun k => by simp only [impl_stepsFrom.l1]; rw [if_neg (by simp)]) (Ev.now _)⟩
 | 0, st, v :: q, c, _, _, hb => by have := hb.sum; simp only [List.length_cons] at this; omega
 | N + 1, st, v :: q, c, h0, hc, hb => by
  obtain ⟨h1, h2, h3⟩ := hb.ok v (by simp)
  have hl := hb.len
  obtain ⟨u, rfl⟩ := Int.eq_ofNat_of_zero_le h1
  rw [Int.toNat_natCast] at h3
  have hug : u < g.length := by omega
  have eh : rd ((u : Int) :: q) 0 = u := by simp [rd]
  have er : rd_L1 g (u : Int) = g.getD u [] := by simp [rd_L1]
  have hlv : st.getD u 0 ≤ c := hb.hi _ (getD_mem (by omega) 0)
  have hm : Mid g fr N (c + 1) u 0 st q := { hb.mid with hi := fun x hx => by have := hb.hi x hx; omega }
  obtain ⟨r, hr, e1⟩ := steps_l2 hg ha fr hug N (by omega) c (by omega) (fun st' q' hb' => steps_l1 hg ha fr N st' q' (c + 1) (by omega) (by omega) hb') (g.getD u []).length 0 st q (by omega) hm hlv
  refine ⟨r, hr, Ev.step (fun k => ?_) e1⟩
  simp only [impl_stepsFrom.l1]
  rw [if_pos (by simp only [List.length_cons]; omega), if_pos (by simp only [List.length_cons]; omega), eh, if_pos (by omega), if_pos (by omega), er]
  rfl
theorem steps_l0 {g : List (List Int)} (hg : g.length ≤ 1048576) (ha : Arr g) {fr : List Int} (hfr : ∀ v ∈ fr, 0 ≤ v ∧ v < (g.length : Int)) (hfl : fr.length ≤ 1048576) (d : Nat) : ∀ (j : Nat) (st : List Int), j + d = fr.length → st.length = g.length → (∀ x ∈ st, x ≤ 0) → (∀ x ∈ st, -1 ≤ x) → (∀ i, i < j → st.getD (fr.getD i 0).toNat 0 = 0) → (∀ v : Nat, v < g.length → 0 ≤ st.getD v 0 → (v : Int) ∈ fr) →
  ∃ r, Dist g fr r ∧ Ev (fun k => impl_stepsFrom.l0 k g st fr fr (fr.length : Int) (j : Int)) r := by
 induction d with
 | zero =>
  intro j st hj hl h1 h2 h3 h4
  have z : ∀ v ∈ fr, st.getD v.toNat 0 = 0 := fun v hv => by
   obtain ⟨i, hi, rfl⟩ := List.getElem_of_mem hv
   have := h3 i (by omega)
   rwa [getD_eq hi] at this
  have hb : Bfs g fr (g.length + fr.length) 0 st fr := by
   refine ⟨hl, h2, h1, fun v hv => ⟨(hfr v hv).1, (hfr v hv).2, by rw [z v hv]; omega⟩, ?_, fun v hv h0 => ?_, z, fun v hv h0 hq => absurd (h4 v hv h0) hq, ?_, fun a ha' x hx => ?_⟩
   ·have := List.countP_le_length (p := fun x : Int => decide (x < 0)) (l := st); unfold negs; omega
   ·have := h1 _ (getD_mem (l := st) (j := v) (by omega) 0)
    rw [show (st.getD v 0).toNat = 0 by omega]
    exact h4 v hv h0
   ·exact List.Pairwise.imp_of_mem (R := fun _ _ => True) (fun {a b} ha' hb' _ => by rw [z a ha', z b hb']; omega) (List.pairwise_of_forall (fun _ _ => trivial))
   ·rw [z a ha']; have := h1 x hx; omega
  obtain ⟨r, hr, e⟩ := steps_l1 hg ha fr (g.length + fr.length) st fr 0 (by omega) (by omega) hb
  exact ⟨r, hr, Ev.step (fun k => by simp only [impl_stepsFrom.l0]; rw [if_neg (by omega)]) e⟩
 | succ d ih =>
  intro j st hj hl h1 h2 h3 h4
  have hmem := getD_mem (l := fr) (j := j) (by omega) 0
  have hm := hfr _ hmem
  obtain ⟨r, hr, e⟩ := ih (j + 1) (st.set (fr.getD j 0).toNat 0) (by omega) (by simpa using hl)
   (fun x hx => by
    rcases List.mem_or_eq_of_mem_set hx with hx | rfl
    ·exact h1 x hx
    ·omega)
   (fun x hx => by
    rcases List.mem_or_eq_of_mem_set hx with hx | rfl
    ·exact h2 x hx
    ·omega)
   (fun i hi => by
    rw [getD_set']
    split
    ·rfl
    ·rename_i h
     rcases Nat.lt_or_ge i j with h5 | h5
     ·exact h3 i h5
     ·obtain rfl : i = j := by omega
      exact absurd ⟨rfl, by omega⟩ h)
   (fun v hv h0 => by
    rw [getD_set'] at h0
    by_cases h : (fr.getD j 0).toNat = v ∧ v < st.length
    ·rw [show (v : Int) = fr.getD j 0 by omega]; exact hmem
    ·rw [if_neg h] at h0; exact h4 v hv h0)
  exact ⟨r, hr, Ev.step (fun k => by simp only [impl_stepsFrom.l0]; rw [if_pos (by omega), if_pos (by omega), if_pos (by omega), rd_nat, if_pos hm.1, if_pos (by omega), wsucc (by omega)]) e⟩
theorem steps_dist {g : List (List Int)} (hg : g.length ≤ 1048576) (ha : Arr g) {fr : List Int} (hfr : ∀ v ∈ fr, 0 ≤ v ∧ v < (g.length : Int)) (hfl : fr.length ≤ 1048576) : ∃ r, Dist g fr r ∧ Ev (fun k => impl_stepsFrom.f k g fr) r := by
 have neg1 : ∀ v : Nat, v < g.length → (List.replicate g.length (-1 : Int)).getD v 0 = -1 := fun v hv => by rw [getD_eq (by simpa using hv)]; simp
 obtain ⟨r, hr, e⟩ := steps_l0 hg ha hfr hfl fr.length 0 (List.replicate g.length (-1)) (by omega) (by simp) (fun x hx => by rw [List.eq_of_mem_replicate hx]; omega) (fun x hx => by rw [List.eq_of_mem_replicate hx]; omega) (fun i hi => by omega) (fun v hv h0 => by rw [neg1 v hv] at h0; omega)
 exact ⟨r, hr, Ev.bind (ev_const (repeatNeg_is g.length hg)) (Ev.bind (ev_const (cloneInt_eq fr (by omega))) e)⟩
theorem GG.tot {g : List (List Int)} (h : GG g) : tot g ≤ 1048576 := by
 rw [tot_arcs]
 have := h.2.2
 omega
theorem parts_both (g : List (List Int)) (hg : g.length ≤ 1048576) (ha : Arrows g) (ht : tot g ≤ 1048576) : ∃ out, Ev (fun k => spec_l11Parts.f k g) out ∧ Ev (fun k => impl_parts.f k g) out ∧ IsPart g out := by
 obtain ⟨a, e1, p1⟩ := l11Parts_ev g hg ha ht
 obtain ⟨b, e2, p2⟩ := parts_ev g hg ha
 have e := p1.uniq p2
 subst e
 exact ⟨a, e1, e2, p1⟩
theorem Least.move {g : List (List Int)} {x v m : Int} (h : Least g x m) (s : Scc g x v) : Least g v m := ⟨⟨s.2.trans h.1.1, h.1.2.trans s.1⟩, fun w hw => h.2 w ⟨s.1.trans hw.1, hw.2.trans s.2⟩⟩
theorem part_scc {g : List (List Int)} {p : List Int} (hp : IsPart g p) {u v : Nat} (hu : u < g.length) (hv : v < g.length) (e : p.getD u 0 = p.getD v 0) : Scc g (u : Int) (v : Int) := by
 have h1 := hp.2 u hu
 have h2 := hp.2 v hv
 rw [e] at h1
 exact ⟨h1.1.1.trans h2.1.2, h2.1.1.trans h1.1.2⟩
theorem scc_part {g : List (List Int)} {p : List Int} (hp : IsPart g p) {u v : Nat} (hu : u < g.length) (hv : v < g.length) (s : Scc g (u : Int) (v : Int)) : p.getD u 0 = p.getD v 0 := ((hp.2 u hu).move s).uniq (hp.2 v hv)
theorem inner_rch {g W : List (List Int)} {p : List Int} (ha : Arrows g) (hp : IsPart g p) (hl : W.length = g.length) (hW : ∀ v, v < g.length → W.getD v [] = stays p v (g.getD v [])) {u v : Int} (h : Rch g u v) : Rch g v u → Rch W u v := by
 induction h with
 | refl => exact fun _ => .refl _
 | @tail x y h1 e ih =>
  intro k
  refine .tail (ih ((Rch.one e).trans k)) ⟨e.1, by rw [hl]; exact e.2.1, ?_⟩
  have hy := e.lt ha
  have hx := e.1
  have hx2 := e.2.1
  rw [hW _ (by omega)]
  refine List.mem_filter.2 ⟨e.2.2, decide_eq_true ?_⟩
  rw [rd_toNat hy.1]
  refine scc_part hp (by omega) (by omega) ?_
  rw [show ((x.toNat : Nat) : Int) = x by omega, show ((y.toNat : Nat) : Int) = y by omega]
  exact ⟨Rch.one e, k.trans h1⟩
theorem Rch.first {g : List (List Int)} {u v : Int} (h : Rch g u v) : u = v ∨ ∃ z, Ed g u z := by
 induction h with
 | refl => exact .inl rfl
 | tail _ e ih =>
  rcases ih with rfl | h
  ·exact .inr ⟨_, e⟩
  ·exact .inr h
theorem rch_walk {g : List (List Int)} {tg : List Int} {u v : Int} (h : Rch g u v) (hu : u ∈ tg) : ∃ n, Walk g tg n v := by
 induction h with
 | refl => exact ⟨0, hu⟩
 | @tail x y _ e ih =>
  obtain ⟨n, hn⟩ := ih
  have h0 := e.1
  have h1 := e.2.1
  exact ⟨n + 1, x.toNat, by omega, by rw [show ((x.toNat : Nat) : Int) = x by omega]; exact hn, e.2.2⟩
theorem walk_rch {g : List (List Int)} {fr : List Int} : ∀ (n : Nat) (v : Int), Walk g fr n v → ∃ u ∈ fr, Rch g u v
 | 0, v, h => ⟨v, h, .refl v⟩
 | n + 1, v, ⟨x, hx, hw, hv⟩ => by
  obtain ⟨u, h1, h2⟩ := walk_rch n _ hw
  exact ⟨u, h1, .tail h2 ⟨by omega, by omega, hv⟩⟩
theorem way_found (g : List (List Int)) (fr tg : List Int) (hg : g.length ≤ 200000) (ht : tot g ≤ 1048576) (ha : Arrows g) (hfr : ∀ v ∈ fr, 0 ≤ v ∧ v < (g.length : Int)) (hfl : fr.length ≤ 1048576) (hto : ∀ v ∈ tg, 0 ≤ v ∧ v < (g.length : Int)) (htl : tg.length ≤ 200000) (hr : ∃ v ∈ fr, ∃ m ∈ tg, Rch g v m) :
  ∃ r : List Int, r ≠ [] ∧ r.length ≤ g.length + tg.length + 1 ∧ Ev (fun k => impl_leastWay.f k g fr tg) r ∧ Ev (fun k => spec_l11Path.f k g fr tg) (r, true) := by
 obtain ⟨r, st, h1, e, h2, e1, e2⟩ := way_more g fr tg hg ht ha hfr hfl hto htl
 obtain ⟨st', hd, e'⟩ := steps_dist (g := turnedOf g) (by rw [turnedOf_length]; omega) (turned_arrows ha ht) (fr := tg) (by rw [turnedOf_length]; exact hto) (by omega)
 have es := ev_uniq e e'
 subst es
 obtain ⟨v, hv, m, hm, hr⟩ := hr
 have hv2 := hfr v hv
 obtain ⟨n, hn⟩ := rch_walk (hr.turned' ha) hm
 have h0 := (hd.least n v.toNat (by rw [turnedOf_length]; omega) (by rw [show ((v.toNat : Nat) : Int) = v by omega]; exact hn)).1
 have hne := h2 ⟨v, hv, h0⟩
 refine ⟨r, hne, h1, e1, ev_eq e2 ?_⟩
 cases r with
 | nil => exact absurd rfl hne
 | cons x t => rfl
theorem tot_le : ∀ (a b : List (List Int)), a.length = b.length → (∀ i : Nat, (a.getD i []).length ≤ (b.getD i []).length) → tot a ≤ tot b
 | [], [], _, _ => Nat.le_refl _
 | [], _ :: _, h, _ => by simp at h
 | _ :: _, [], h, _ => by simp at h
 | x :: t, y :: s, h, h1 => by
  have h2 := tot_le t s (by simpa using h) (fun i => by simpa using h1 (i + 1))
  have h3 : x.length ≤ y.length := by simpa using h1 0
  simp only [tot]; omega
theorem less_rows {g a : List (List Int)} (ha : Arrows g) (hl : a.length = g.length) {q : Nat → Int → Bool} (h : ∀ v, v < g.length → a.getD v [] = (g.getD v []).filter (q v)) : Arrows a ∧ tot a ≤ tot g := by
 refine ⟨fun x hx => ?_, tot_le a g hl fun i => ?_⟩
 ·obtain ⟨i, hi, rfl⟩ := List.getElem_of_mem hx
  have e := h i (by omega)
  rw [getD_eq hi] at e
  have h2 := ha _ (getD_mem (show i < g.length by omega) [])
  rw [e, hl]
  exact ⟨Nat.le_trans (List.length_filter_le _ _) h2.1, fun w hw => h2.2 w (List.mem_filter.1 hw).1⟩
 ·rcases Nat.lt_or_ge i g.length with hi | hi
  ·rw [h i hi]; exact List.length_filter_le _ _
  ·rw [List.getD_eq_getElem?_getD, List.getElem?_eq_none (by omega)]; simp
def InP (n : Nat) (p : List Int) (own : Int) (v : Nat) : Prop := v < n ∧ p.getD v 0 = own
theorem inside_same {g A W : List (List Int)} {p : List Int} {own : Int} (ha : Arrows g) (hA : A.length = g.length) (hW : W.length = g.length) (rA : ∀ v, v < g.length → A.getD v [] = stayIn p own v (g.getD v [])) (rW : ∀ v, v < g.length → W.getD v [] = stays p v (g.getD v [])) :
  Same (InP g.length p own) A W ∧ ∀ v, ¬ InP g.length p own v → ∀ w, w ∈ A.getD v [] ∨ w ∈ W.getD v [] → ¬ InP g.length p own w.toNat := by
 refine ⟨⟨by omega, fun v hv => ?_, fun v hv w hw => ?_⟩, fun v hv w hw hc => ?_⟩
 ·rw [rA v hv.1, rW v hv.1]
  refine List.filter_congr fun y _ => ?_
  rw [hv.2]
  by_cases c : rd p y = own
  ·rw [decide_eq_true (show own = own ∧ rd p y = own from ⟨rfl, c⟩), decide_eq_true c.symm]
  ·rw [decide_eq_false (fun h => c h.2), decide_eq_false (fun h => c h.symm)]
 ·rw [rA v hv.1] at hw
  obtain ⟨h1, h2⟩ := List.mem_filter.1 hw
  have h3 := (ha _ (getD_mem hv.1 [])).2 w h1
  have h4 := (of_decide_eq_true h2).2
  rw [rd_toNat h3.1] at h4
  exact ⟨h3.1, by omega, h4⟩
 ·have hvn : v < g.length := by
   rcases Nat.lt_or_ge v g.length with h | h
   ·exact h
   ·rw [List.getD_eq_getElem?_getD, List.getD_eq_getElem?_getD, List.getElem?_eq_none (by omega), List.getElem?_eq_none (by omega)] at hw
    simp at hw
  rcases hw with hw | hw
  ·rw [rA v hvn] at hw
   exact hv ⟨hvn, (of_decide_eq_true (List.mem_filter.1 hw).2).1⟩
  ·rw [rW v hvn] at hw
   obtain ⟨h1, h2⟩ := List.mem_filter.1 hw
   have h3 := (ha _ (getD_mem hvn [])).2 w h1
   have h4 := of_decide_eq_true h2
   rw [rd_toNat h3.1, hc.2] at h4
   exact hv ⟨hvn, h4⟩
theorem way_move {C : Nat → Prop} {A W : List (List Int)} (hA : Arrows A) (hW : Arrows W) (tA : tot A ≤ 1048576) (tW : tot W ≤ 1048576) (hn : A.length ≤ 1048576) (h : Same C A W) (ho : ∀ v, ¬ C v → ∀ w, w ∈ A.getD v [] ∨ w ∈ W.getD v [] → ¬ C w.toNat) {fr tg : List Int} (hf : Cl C fr) (hg : Cl C tg) (hgl : tg.length ≤ 1048576) {r : List Int} (e : Ev (fun k => impl_leastWay.f k W fr tg) r) : Ev (fun k => impl_leastWay.f k A fr tg) r ∧ Cl C r := by
 have hl := h.len
 obtain ⟨K1, e1⟩ := turned_ev A hn hA (by omega)
 obtain ⟨K2, e2⟩ := turned_ev W (by omega) hW (by omega)
 obtain ⟨K3, e3⟩ := e
 have hs : Same C W W := ⟨rfl, fun _ _ => rfl, fun v hv => h.row v hv ▸ h.into v hv⟩
 have key : ∀ k, K1 ≤ k → K2 ≤ k → K3 ≤ k → impl_leastWay.f k A fr tg = some r ∧ Cl C r := fun k k1 k2 k3 => by
  have a1 : impl_turned.f k A = some (turnedOf A) := e1 k k1
  have a2 : impl_turned.f k W = some (turnedOf W) := e2 k k2
  have a3 : impl_leastWay.f k W fr tg = some r := e3 k k3
  simp only [impl_leastWay.f, a2, Option.bind_some] at a3
  refine ⟨?_, ?_⟩
  ·simp only [impl_leastWay.f, a1, Option.bind_some, steps_samef (h.turned hA ho) k hg hgl, way_same0 h k (-1) fr _ _ _ (.inl (by omega)) hf]
   exact a3
  ·obtain ⟨st, _, a4⟩ := Option.bind_eq_some_iff.1 a3
   exact way_in0 hs k _ _ _ _ _ _ (.inl (by omega)) hf a4
 exact ⟨⟨max K1 (max K2 K3), fun k hk => (key k (by omega) (by omega) (by omega)).1⟩, (key (max K1 (max K2 K3)) (by omega) (by omega) (by omega)).2⟩
def ins (p : List Int) (meet : Int) (l : List Int) : List Int := l.filter (fun v => decide (rd p v = rd p meet))
theorem ins_eq (p : List Int) (meet : Int) (l : List Int) : l.filter (fun v => !(rd p v != rd p meet)) = ins p meet l := by
 unfold ins
 refine List.filter_congr fun v _ => ?_
 by_cases c : rd p v = rd p meet
 ·simp [c]
 ·simp [c]
theorem lasso_l2 (p : List Int) (meet : Int) (stem : List Int) (W : List (List Int)) (loop : List Int) (go : List (List Int)) (n i : Int) (hp : p.length ≤ 1048576) (hm0 : 0 ≤ meet) (hm1 : meet < (p.length : Int)) (row : List Int) (hrl : row.length ≤ 1048576) (hr : ∀ w ∈ row, 0 ≤ w ∧ w < (p.length : Int)) {r : List Int × List Int × Bool}
  (h : Ev (fun k => spec_l11Lasso.l2 k meet stem p W loop (ins p meet row) go n i row (row.length : Int) (row.length : Int)) r) (d : Nat) : ∀ (j : Nat) (acc : List Int), j + d = row.length → acc.length ≤ j → acc ++ ins p meet (row.drop j) = ins p meet row → Ev (fun k => spec_l11Lasso.l2 k meet stem p W loop acc go n i row (row.length : Int) (j : Int)) r := by
 induction d with
 | zero =>
  intro j acc hj hc he
  rw [List.drop_of_length_le (by omega), show ins p meet [] = [] from rfl, List.append_nil] at he
  rw [he, show j = row.length by omega]
  exact h
 | succ d ih =>
  intro j acc hj hc he
  have hjl : j < row.length := by omega
  obtain ⟨w0, w1⟩ := hr _ (getD_mem hjl 0)
  rw [drop_cons hjl 0] at he
  by_cases c : rd p (row.getD j 0) = rd p meet
  ·have es : ins p meet (row.getD j 0 :: row.drop (j + 1)) = row.getD j 0 :: ins p meet (row.drop (j + 1)) := by unfold ins; rw [List.filter_cons_of_pos (by simpa using c)]
   rw [es] at he
   exact Ev.step (fun k => by simp only [spec_l11Lasso.l2]; rw [if_pos (by omega), if_pos (by omega), if_pos (by omega), rd_nat, if_pos w0, if_pos w1, if_pos hm0, if_pos hm1, if_pos c, if_pos (by omega), wsucc (by omega)]) (ih (j + 1) _ (by omega) (by simp only [List.length_append, List.length_singleton]; omega) (by simpa using he))
  ·have es : ins p meet (row.getD j 0 :: row.drop (j + 1)) = ins p meet (row.drop (j + 1)) := by unfold ins; rw [List.filter_cons_of_neg (by simpa using c)]
   rw [es] at he
   exact Ev.step (fun k => by simp only [spec_l11Lasso.l2]; rw [if_pos (by omega), if_pos (by omega), if_pos (by omega), rd_nat, if_pos w0, if_pos w1, if_pos hm0, if_pos hm1, if_neg c, wsucc (by omega)]) (ih (j + 1) _ (by omega) (by omega) he)
theorem last_one {l : List Int} (h : 0 < l.length) : l.drop (l.length - 1) = [rd l ((l.length : Int) - 1)] := by
 rw [drop_cons (show l.length - 1 < l.length by omega) 0, List.drop_of_length_le (by omega), show ((l.length : Int) - 1) = ((l.length - 1 : Nat) : Int) by omega, rd_nat]
structure Fp (g go A W : List (List Int)) (p : List Int) (meet : Int) : Prop where
 n : g.length ≤ 1200
 arrows : Arrows g
 tot : tot g ≤ 1048576
 part : IsPart g p
 lA : A.length = g.length
 lW : W.length = g.length
 rA : ∀ v, v < g.length → A.getD v [] = stayIn p (rd p meet) v (g.getD v [])
 rW : ∀ v, v < g.length → W.getD v [] = stays p v (g.getD v [])
 m0 : 0 ≤ meet
 m1 : meet < (g.length : Int)
 loop : Lp g p (rd p meet)
 goal : ∀ t, t < go.length → Mt p (go.getD t []) (rd p meet)
 few : go.length ≤ 6
 good : ∀ x ∈ go, x.length ≤ 1200 ∧ ∀ w ∈ x, 0 ≤ w ∧ w < (g.length : Int)
theorem Fp.reach {g go A W : List (List Int)} {p : List Int} {meet : Int} (h : Fp g go A W p meet) {u v : Int} (hu : 0 ≤ u ∧ InP g.length p (rd p meet) u.toNat) (hv : 0 ≤ v ∧ InP g.length p (rd p meet) v.toNat) : Rch W u v := by
 have s := part_scc h.part hu.2.1 hv.2.1 (hu.2.2.trans hv.2.2.symm)
 rw [show ((u.toNat : Nat) : Int) = u by omega, show ((v.toNat : Nat) : Int) = v by omega] at s
 exact inner_rch h.arrows h.part h.lW h.rW s.1 s.2
theorem Fp.meet {g go A W : List (List Int)} {p : List Int} {meet : Int} (h : Fp g go A W p meet) : 0 ≤ meet ∧ InP g.length p (rd p meet) meet.toNat := by
 have := h.m0
 have := h.m1
 exact ⟨h.m0, by omega, (rd_toNat h.m0).symm⟩
theorem Fp.way {g go A W : List (List Int)} {p : List Int} {meet : Int} (h : Fp g go A W p meet) {fr tg : List Int} (hf : Cl (InP g.length p (rd p meet)) fr) (ht : Cl (InP g.length p (rd p meet)) tg) (f0 : fr ≠ []) (t0 : tg ≠ []) (fl : fr.length ≤ 1048576) (tl : tg.length ≤ 1200) :
  ∃ r : List Int, r ≠ [] ∧ r.length ≤ 2401 ∧ Cl (InP g.length p (rd p meet)) r ∧ Ev (fun k => impl_leastWay.f k A fr tg) r ∧ Ev (fun k => spec_l11Path.f k W fr tg) (r, true) := by
 have hn := h.n
 have htot := h.tot
 obtain ⟨aA, tA⟩ := less_rows h.arrows h.lA h.rA
 obtain ⟨aW, tW⟩ := less_rows h.arrows h.lW h.rW
 obtain ⟨hs, ho⟩ := inside_same h.arrows h.lA h.lW h.rA h.rW
 have hlA := h.lA
 have hlW := h.lW
 have inn : ∀ l : List Int, Cl (InP g.length p (rd p meet)) l → ∀ v ∈ l, 0 ≤ v ∧ v < (W.length : Int) := fun l hl v hv => by
  have h1 := hl v hv
  have h2 := h1.2.1
  omega
 obtain ⟨x, hx⟩ := List.exists_mem_of_ne_nil _ f0
 obtain ⟨y, hy⟩ := List.exists_mem_of_ne_nil _ t0
 obtain ⟨r, r0, r1, e1, e2⟩ := way_found W fr tg (by omega) (by omega) aW (inn fr hf) fl (inn tg ht) (by omega) ⟨x, hx, y, hy, h.reach (hf x hx) (ht y hy)⟩
 obtain ⟨e3, hc⟩ := way_move aA aW (by omega) (by omega) (by omega) hs ho hf ht (by omega) e1
 exact ⟨r, r0, by omega, hc, e3, e2⟩
theorem Fp.loop_both {g go A W : List (List Int)} {p : List Int} {meet : Int} (h : Fp g go A W p meet) (stem : List Int) (d : Nat) : ∀ (i : Nat) (loop : List Int), i + d = go.length → loop ≠ [] → loop.length ≤ 1 + i * 2401 → Cl (InP g.length p (rd p meet)) loop →
  ∃ lp, lp ≠ [] ∧ lp.length ≤ 1 + go.length * 2401 ∧ Cl (InP g.length p (rd p meet)) lp ∧ Ev (fun k => impl_fairLasso.g k go A p meet (i : Int) loop) lp ∧
   ∀ r, Ev (fun k => spec_l11Lasso.l1 k meet stem p W lp go (go.length : Int) (go.length : Int)) r → Ev (fun k => spec_l11Lasso.l1 k meet stem p W loop go (go.length : Int) (i : Int)) r := by
 have hn := h.n
 have hpl := h.part.1
 have hfew := h.few
 induction d with
 | zero =>
  intro i loop hi h0 hl hc
  refine ⟨loop, h0, by rw [show go.length = i by omega]; exact hl, hc, Ev.step (f := fun _ => some loop) (fun k => by simp only [impl_fairLasso.g]; rw [if_neg (by omega)]) (Ev.now _), fun r hr => ?_⟩
  rw [show i = go.length by omega]
  exact hr
 | succ d ih =>
  intro i loop hi h0 hl hc
  have hil : i < go.length := by omega
  have hlp : 0 < loop.length := List.length_pos_iff.2 h0
  have hb : i * 2401 ≤ 5 * 2401 := Nat.mul_le_mul_right _ (by omega)
  have er : rd_L1 go (i : Int) = go.getD i [] := by simp [rd_L1]
  obtain ⟨gl, gr⟩ := h.good _ (getD_mem hil [])
  have hgoal := h.goal i hil
  generalize go.getD i [] = row at er gl gr hgoal
  have hins : ∀ v ∈ ins p meet row, v ∈ row ∧ rd p v = rd p meet := fun v hv => ⟨(List.mem_filter.1 hv).1, of_decide_eq_true (List.mem_filter.1 hv).2⟩
  have hic : Cl (InP g.length p (rd p meet)) (ins p meet row) := fun v hv => by
   obtain ⟨h1, h2⟩ := hins v hv
   have h3 := gr v h1
   exact ⟨h3.1, by omega, by rw [← h2, rd_toNat h3.1]⟩
  have hine : ins p meet row ≠ [] := by
   obtain ⟨m, h1, h2⟩ := hgoal
   exact List.ne_nil_of_mem (List.mem_filter.2 ⟨h1, decide_eq_true h2⟩)
  have hil2 : (ins p meet row).length ≤ row.length := List.length_filter_le _ _
  obtain ⟨w, w0, w1, wc, e1, e2⟩ := h.way (hc.drop (loop.length - 1)) hic (by rw [last_one hlp]; simp) hine (by rw [List.length_drop]; omega) (by omega)
  have hwl : 0 < w.length := List.length_pos_iff.2 w0
  have hml : (i + 1) * 2401 = i * 2401 + 2401 := by rw [Nat.add_mul, Nat.one_mul]
  obtain ⟨lp, l0, l1, lc, e3, e4⟩ := ih (i + 1) (loop ++ w.drop 1) (by omega) (by simp [h0]) (by rw [List.length_append, List.length_drop, hml]; omega) (fun v hv => by
   rcases List.mem_append.1 hv with hv | hv
   ·exact hc v hv
   ·exact wc v (List.mem_of_mem_drop hv))
  refine ⟨lp, l0, l1, lc, ?_, fun r hr => ?_⟩
  ·refine Ev.step (fun k => by simp only [impl_fairLasso.g]; rw [if_pos (by omega), if_pos ⟨by omega, hlp⟩, er, if_pos (by rw [hpl]; exact gr), cloneInt_eq row (by omega), Option.bind_some, ins_eq, wsucc (by omega)]) ?_
   exact Ev.bind e1 (ev_pos ⟨hwl, by omega⟩ e3)
  ·refine Ev.step (fun k => by simp only [spec_l11Lasso.l1]; rw [if_pos (by omega), if_pos (by omega), if_pos (by omega), er]) ?_
   have ew : wrap64 ((loop.length : Int) - 1) = ((loop.length - 1 : Nat) : Int) := by rw [wid (by omega) (by omega)]; omega
   refine lasso_l2 p meet stem W loop go (go.length : Int) (i : Int) (by omega) h.m0 (by have := h.m1; omega) row (by omega) (by rw [hpl]; exact gr) ?_ row.length 0 [] (by omega) (by simp) (by simp)
   refine Ev.step (fun k => by simp only [spec_l11Lasso.l2]; rw [if_neg (by omega), ew, Int.toNat_natCast, if_pos (by omega), if_pos (by omega), wsucc (by omega)]) ?_
   exact Ev.bind e2 (ev_pos (by show (1 : Int) ≤ (w.length : Int); omega) (Ev.bind (Ev.now _) (ev_pos (by show loop.length + (w.drop 1).length < 17592186044416; rw [List.length_drop]; omega) (e4 r hr))))
theorem trues_true : ∀ (l : List Bool) (j : Nat) (x : Int), x ∈ trues j l → ∃ i : Nat, x = ((j + i : Nat) : Int) ∧ i < l.length ∧ l.getD i false = true
 | [], j, x, h => by simp [trues] at h
 | b :: t, j, x, h => by
  have ih := trues_true t (j + 1) x
  have up : x ∈ trues (j + 1) t → ∃ i : Nat, x = ((j + i : Nat) : Int) ∧ i < (b :: t).length ∧ (b :: t).getD i false = true := fun h => by
   obtain ⟨i, h1, h2, h3⟩ := ih h
   exact ⟨i + 1, by rw [h1]; congr 1; omega, by simpa using h2, by simpa using h3⟩
  simp only [trues] at h
  split at h
  ·rename_i c
   rcases List.mem_cons.1 h with h | h
   ·exact ⟨0, by simpa using h, by simp, by simpa using c⟩
   ·exact up h
  ·exact up h
theorem fairLasso_both (g : List (List Int)) (fr : List Int) (go : List (List Int)) (hn : g.length ≤ 1200) (ha : Arrows g) (ht : tot g ≤ 1048576) (hfr : ∀ v ∈ fr, 0 ≤ v ∧ v < (g.length : Int)) (hfl : fr.length ≤ 1048576) (hgo : go.length ≤ 6) (hr : ∀ x ∈ go, x.length ≤ 1200 ∧ ∀ w ∈ x, 0 ≤ w ∧ w < (g.length : Int)) :
  ∃ r : List Int × List Int × Bool, (r.1.length ≤ 20000 ∧ r.2.1.length ≤ 20000) ∧ Ev (fun k => impl_fairLasso.f k g fr go) r ∧ Ev (fun k => spec_l11Lasso.f k g fr go) r := by
 obtain ⟨st, hst, e1, e2⟩ := steps_both g fr (by omega) ha hfr hfl
 obtain ⟨p, p1, p2, hp⟩ := parts_both g (by omega) ha ht
 have hpl := hp.1
 have hpin := hp.pin ha
 have hr2 : ∀ x ∈ go, x.length ≤ 1048576 ∧ ∀ w ∈ x, 0 ≤ w ∧ w < (g.length : Int) := fun x hx => ⟨by have := (hr x hx).1; omega, (hr x hx).2⟩
 obtain ⟨b1, f1, k1⟩ := sfair_ev g go p (by omega) ha hpin (by omega) hr2 p1
 obtain ⟨b2, f2, k2⟩ := ifair_ev g go p (by omega) ha hpin (by omega) hr2 p2
 have e := f1.uniq f2
 subst e
 have hbl := f1.1
 have htr := trues_length b1 0
 have hin : ∀ v ∈ trues 0 b1, 0 ≤ v ∧ v < (st.length : Int) := fun v hv => by
  obtain ⟨i, h1, h2, _⟩ := trues_true b1 0 v hv
  omega
 have hm : Ev (fun k => impl_meeting.f k g fr go) (nigh st (-1) (trues 0 b1)) := Ev.bind e1 (Ev.bind k2 (by
  have h := meeting_l0 st b1 (by omega) (by omega) b1.length 0 (-1) (by omega) (.inl (by omega))
  rwa [List.drop_zero] at h))
 have hs : ∀ r, Ev (fun k => spec_l11Lasso.l0 k g fr go st (nigh st (-1) (trues 0 b1)) (trues 0 b1) ((trues 0 b1).length : Int) ((trues 0 b1).length : Int)) r → Ev (fun k => spec_l11Lasso.f k g fr go) r := fun r h =>
  Ev.bind e2 (Ev.bind k1 (lasso_meet g go fr st (trues 0 b1) (by omega) hin h (trues 0 b1).length 0 (-1) (by omega) (.inl (by omega)) (by rw [List.drop_zero])))
 have hni := nigh_in st (fun v => v ∈ trues 0 b1) (trues 0 b1) (-1) (.inl (by omega)) (fun v hv => hv)
 generalize nigh st (-1) (trues 0 b1) = meet at hm hs hni
 by_cases c : meet < 0
 ·exact ⟨([], [], false), ⟨by simp, by simp⟩, Ev.bind hm (ev_pos c (Ev.now _)), hs _ (Ev.step (f := fun _ => some (([] : List Int), ([] : List Int), false)) (fun k => by simp only [spec_l11Lasso.l0]; rw [if_neg (by omega), if_pos c]) (Ev.now _))⟩
 obtain ⟨hd0, hmem⟩ := hni.resolve_left c
 obtain ⟨mi, hmi, m1, m2⟩ := trues_true b1 0 meet hmem
 rw [Nat.zero_add] at hmi
 obtain ⟨hlp, hgoal⟩ := (f1.2 mi (by omega)).1 m2
 have erm : rd p meet = p.getD mi 0 := by rw [hmi, rd_nat]
 obtain ⟨A, eA, lA, rA⟩ := inside_ev g (by omega) ha p (rd p meet) hpl
 obtain ⟨W, eW, lW, rW⟩ := within_ev g (by omega) ha p hpl
 have h : Fp g go A W p meet := ⟨hn, ha, ht, hp, lA, lW, rA, rW, by omega, by omega, by rw [erm]; exact hlp, by rw [erm]; exact hgoal, hgo, hr⟩
 obtain ⟨st', hd, e1'⟩ := steps_dist (g := g) (by omega) ha (fr := fr) hfr hfl
 have es := ev_uniq e1 e1'
 subst es
 obtain ⟨u, hu, hrch⟩ := walk_rch _ _ (hd.way meet.toNat (by omega) hd0)
 rw [show ((meet.toNat : Nat) : Int) = meet by omega] at hrch
 obtain ⟨stem, s0, s1, s2, s3⟩ := way_found g fr [meet] (by omega) ht ha hfr hfl (fun v hv => by rw [List.mem_singleton.1 hv]; omega) (by simp) ⟨u, hu, meet, by simp, hrch⟩
 have s1 : stem.length ≤ 1202 := by simp only [List.length_singleton] at s1; omega
 have hsl : 0 < stem.length := List.length_pos_iff.2 s0
 have hmc : Cl (InP g.length p (rd p meet)) [meet] := fun v hv => by rw [List.mem_singleton.1 hv]; exact h.meet
 obtain ⟨lp, l0, l1, lc, i3, i4⟩ := h.loop_both stem go.length 0 [meet] (by omega) (by simp) (by simp) hmc
 have hll : 0 < lp.length := List.length_pos_iff.2 l0
 have hlb : go.length * 2401 ≤ 6 * 2401 := Nat.mul_le_mul_right _ hgo
 have hlast := lc _ (rd_in (l := lp) (j := (lp.length : Int) - 1) (by omega) (by omega))
 obtain ⟨hs2, ho⟩ := inside_same ha lA lW rA rW
 obtain ⟨aA, tA⟩ := less_rows ha lA rA
 have eW2 := hs2.row _ hlast.2
 have hcl := hs2.into _ hlast.2
 have hln := hlast.2.1
 have hrow : (A.getD (rd lp ((lp.length : Int) - 1)).toNat []).length ≤ 1048576 := (aA _ (getD_mem (by omega) [])).1
 have hne : A.getD (rd lp ((lp.length : Int) - 1)).toNat [] ≠ [] := by
  obtain ⟨x, x1, x2, y, y1, y2⟩ := h.loop
  rw [eW2]
  have hxc : 0 ≤ (x : Int) ∧ InP g.length p (rd p meet) ((x : Int)).toNat := ⟨by omega, by rw [Int.toNat_natCast]; exact ⟨x1, x2⟩⟩
  rcases (h.reach hlast hxc).first with hx | ⟨z, hz⟩
  ·rw [hx, Int.toNat_natCast, rW x x1]
   exact List.ne_nil_of_mem (List.mem_filter.2 ⟨y1, decide_eq_true (by rw [x2, y2])⟩)
  ·exact List.ne_nil_of_mem hz.2.2
 obtain ⟨way, w0, w1, _, w3, w4⟩ := h.way hcl hmc hne (by simp) hrow (by simp)
 have hwl : 0 < way.length := List.length_pos_iff.2 w0
 have erA : ∀ B : List (List Int), rd_L1 B (rd lp ((lp.length : Int) - 1)) = B.getD (rd lp ((lp.length : Int) - 1)).toNat [] := fun B => by simp [rd_L1]
 refine ⟨(stem.take (stem.length - 1), lp ++ way.take (way.length - 1), true), ⟨by rw [List.length_take]; omega, by rw [List.length_append, List.length_take]; omega⟩, ?_, hs _ ?_⟩
 ·refine Ev.bind hm (ev_neg c (Ev.bind s2 (Ev.bind p2 (ev_pos ⟨by omega, by omega⟩ (Ev.bind eA (Ev.bind i3 (ev_pos ⟨hll, hlast.1, by omega, hsl, by omega, by omega⟩ ?_)))))))
  rw [erA]
  exact Ev.bind w3 (ev_pos ⟨hwl, by omega⟩ (Ev.now _))
 ·refine Ev.step (fun k => by simp only [spec_l11Lasso.l0]; rw [if_neg (by omega), if_neg c]) (Ev.bind s3 (Ev.bind p1 (Ev.bind eW (i4 _ ?_))))
  have ew : wrap64 ((lp.length : Int) - 1) = (lp.length : Int) - 1 := wid (by omega) (by omega)
  refine Ev.step (fun k => by simp only [spec_l11Lasso.l1]; rw [if_neg (by omega), ew, if_pos (by omega), if_pos (by omega), if_pos hlast.1, if_pos (by omega), erA, ← eW2]) ?_
  refine Ev.bind w4 ?_
  have ew2 : wrap64 ((stem.length : Int) - 1) = ((stem.length - 1 : Nat) : Int) := by rw [wid (by omega) (by omega)]; omega
  have ew3 : wrap64 ((way.length : Int) - 1) = ((way.length - 1 : Nat) : Int) := by rw [wid (by omega) (by omega)]; omega
  simp only [ew2, ew3, Int.toNat_natCast]
  exact ev_pos (by omega) (ev_pos (by omega) (ev_pos (by omega) (ev_pos (by omega) (Ev.bind (Ev.now _) (ev_pos (by rw [List.length_take]; omega) (Ev.now _))))))
theorem FairLasso_both (g : List (List Int)) (fr : List Int) (go : List (List Int)) (hx : ∀ x ∈ g, x.length ≤ 9223372036854775807) (hf : fr.length ≤ 1048576) (hgx : ∀ x ∈ go, x.length ≤ 9223372036854775807) :
  ∃ r : List Int × List Int × Bool, Ev (fun k => spec_FairLasso.f k g fr go) r ∧ Ev (fun k => impl_FairLasso.f k g fr go) r ∧ r.1.length ≤ 20000 ∧ r.2.1.length ≤ 20000 := by
 have hi := isGraphFrom_tells g fr hx (by omega)
 have hi2 := areGoals_tells go (g.length : Int) hgx
 by_cases h : GG g
 ·have hlen := h.1
  have hs := tells_ev (spec_GoodGraph_tells g hx) h
  have hp := l11Points_tells fr g.length (by omega) (by omega)
  have hs2 := l11Goals_tells go g.length (by omega) hgx
  by_cases hn : Rising fr 0 ((g.length : Int) - 1)
  ·by_cases h2 : GoalsOk (g.length : Int) go
   ·obtain ⟨r, ⟨r0, r3⟩, r1, r2⟩ := fairLasso_both g fr go (by omega) h.arrows h.tot (rising_in hn) hf h2.1 (fun x hx => ⟨by have := row_short (h2.2 x hx); omega, rising_in (h2.2 x hx)⟩)
    exact ⟨r, Ev.bind hs (ev_pos rfl (Ev.bind (tells_ev hp hn) (ev_pos rfl (Ev.bind (tells_ev hs2 h2) (ev_pos rfl (Ev.bind r2 (Ev.now _))))))), Ev.bind (tells_ev hi ⟨h, hn⟩) (ev_pos rfl (Ev.bind (tells_ev hi2 h2) (ev_pos rfl (Ev.bind r1 (Ev.now _))))), r0, r3⟩
   ·exact ⟨([], [], false), Ev.bind hs (ev_pos rfl (Ev.bind (tells_ev hp hn) (ev_pos rfl (Ev.bind (tells_ev_not hs2 h2) (ev_neg (by simp) (Ev.now _)))))), Ev.bind (tells_ev hi ⟨h, hn⟩) (ev_pos rfl (Ev.bind (tells_ev_not hi2 h2) (ev_neg (by simp) (Ev.now _)))), by simp, by simp⟩
  ·exact ⟨([], [], false), Ev.bind hs (ev_pos rfl (Ev.bind (tells_ev_not hp hn) (ev_neg (by simp) (Ev.now _)))), Ev.bind (tells_ev_not hi (fun h2 => hn h2.2)) (ev_neg (by simp) (Ev.now _)), by simp, by simp⟩
 ·exact ⟨([], [], false), Ev.bind (tells_ev_not (spec_GoodGraph_tells g hx) h) (ev_neg (by simp) (Ev.now _)), Ev.bind (tells_ev_not hi (fun h2 => h h2.1)) (ev_neg (by simp) (Ev.now _)), by simp, by simp⟩

theorem FnExactFairLasso : ∀ (l0_0 : List (List (Int))) (l1 : List (Int)) (l2 : List (List (Int))), (l0_0.length ≤ 9223372036854775807 ∧ ∀ x ∈ l0_0, x.length ≤ 9223372036854775807 ∧ ∀ x' ∈ x, In64 x') → (l1.length ≤ 9223372036854775807 ∧ ∀ x ∈ l1, In64 x) → (l2.length ≤ 9223372036854775807 ∧ ∀ x ∈ l2, x.length ≤ 9223372036854775807 ∧ ∀ x' ∈ x, In64 x') → ∃ k, laws_FnExactFairLasso.Holds k l0_0 l1 l2 := by
  intro l fr go hg hf hgo
  by_cases c : 1048576 < (fr.length : Int)
  · exact ⟨0, .inl c⟩
  obtain ⟨t, ht, hp⟩ := szGraph_ev l hg.1 (fun x hx => (hg.2 x hx).1)
  by_cases h : t < 0
  · obtain ⟨k, hk⟩ := ht.rounds
    exact ⟨k, .inr ⟨c, t, hk, .inl h⟩⟩
  obtain ⟨ht2, h1, h2⟩ := hp (by omega)
  have h3 : ∀ x ∈ l, x.length ≤ 9223372036854775807 := fun x hx => by have := h2 x hx; omega
  obtain ⟨s, hs, hq⟩ := szIntSS_ev go t (by omega) hgo.1 (fun x hx => (hgo.2 x hx).1)
  by_cases h' : s < 0
  · obtain ⟨k, a1, a2⟩ := ((ev_late ht).and (ev_late hs)).ex
    exact ⟨k, .inr ⟨c, t, a1, .inr ⟨h, s, a2, .inl h'⟩⟩⟩
  obtain ⟨hs2, h4, h5⟩ := hq (by omega)
  have h6 : ∀ x ∈ go, x.length ≤ 1048576 := fun x hx => by have := h5 x hx; omega
  obtain ⟨⟨b1, b2, ok⟩, hb, hb', hlen1, hlen2⟩ := FairLasso_both l fr go h3 (by omega) (fun x hx => by have := h6 x hx; omega)
  have hlen1 : b1.length ≤ 20000 := hlen1
  have hlen2 : b2.length ≤ 20000 := hlen2
  have hm := markGraph_ev l 1 h1 h2 (by omega) (by omega)
  have htl := tot_small h1 h2
  have htg := tot_small (l := go) (by omega) h6
  have hmf := markIntS_ev fr (1 + tot l) (by omega) (by omega) (by omega)
  have hm2 := markIntSS_ev go (1 + tot l + fr.length) h6 (by omega) (by omega)
  have hm3 := markIntS_ev b1 1 (by omega) (by omega) (by omega)
  have hm4 := markIntS_ev b2 (1 + b1.length) (by omega) (by omega) (by omega)
  have hh := heldIntS_ev b1.length 1 (by omega) (by omega) (by omega)
  have hh2 := heldIntS_ev b2.length (1 + b1.length) (by omega) (by omega) (by omega)
  obtain ⟨k, a1, a2, a3, a4, a5, a6, a7, a8, a9, a10, a11, a12, a13, a14, a15, a16, a17, a18, a19⟩ := ((ev_late ht).and ((ev_late hs).and ((ev_late (toGraph_ev l h1 h2)).and ((ev_late (toIntS_ev fr (by omega))).and ((ev_late (toIntSS_ev go (by omega) h6)).and ((ev_late hb).and ((ev_late hb').and ((ev_late (eqIntS_ev b1 (by omega))).and ((ev_late (eqIntS_ev b2 (by omega))).and ((ev_late (eqGraph_ev l (by omega) h3)).and ((ev_late (eqIntS_ev fr (by omega))).and ((ev_late (eqIntSS_ev go (by omega) (fun x hx => by have := h6 x hx; omega))).and ((ev_late hm).and ((ev_late hmf).and ((ev_late hm2).and ((ev_late hm3).and ((ev_late hm4).and ((ev_late hh).and (ev_late hh2))))))))))))))))))).ex
  exact ⟨k, .inr ⟨c, t, a1, .inr ⟨h, s, a2, .inr ⟨h', b1, b2, ok, _, _, _, _, _, _, _, _, _, _, a3, a4, a5, a6, a7, a8, a9, a10, a11, a12, a13, a14, a15, a16, a17, a18, a19, by omega, by omega, by omega⟩⟩⟩⟩

end Go.Proofs.Ytnfpolhpanpeiaa.Pure
