/- The pure statement of the law FnExactStutterAt: what the printed functions compute makes the law true, for every input. No condition. -/
import Derived.Test.YtaacldndbjmekaaOpen
import Derived.Test.YtaacldndbjmekaaAid
import Derived.Test.YtaacldndbjmekaaMFnExactStutterAt4
set_option linter.unusedVariables false
set_option linter.unusedSimpArgs false
namespace Go.Proofs.Ytaacldndbjmekaa.Pure
open Go.RowKit Go.Proofs.YtaacldndbjmekaaW.PrintWords Go.Proofs.Ytaacldndbjmekaa.P Go.Proofs.Ytaacldndbjmekaa.Hof Go.Proofs.Ytaacldndbjmekaa.Open Go.Proofs.Ytaacldndbjmekaa.Aid
-- LEMMAS
theorem szIntS_eq (l : List Int) (a : Int) (ha : 0 ≤ a ∧ a ≤ 1048576) (hl : l.length ≤ 9223372036854775807) : laws_szIntS.f l a = some (if (l.length : Int) ≤ a then a - l.length else -1) := by
 have e : wrap64 (a - (l.length : Int)) = a - l.length := wid (by omega) (by omega)
 simp only [laws_szIntS.f]
 rw [e]
 by_cases h : (l.length : Int) ≤ a
 ·rw [if_neg (by omega), if_pos h]
 ·rw [if_pos (by omega), if_neg h]
theorem szLasso_eq (l m : List Int) (a : Int) (ha : 0 ≤ a ∧ a ≤ 1048576) (hl : l.length ≤ 9223372036854775807) (hm : m.length ≤ 9223372036854775807) :
  ∃ t, laws_szLasso.f l m a = some t ∧ (0 ≤ t → t ≤ a ∧ (l.length : Int) ≤ a ∧ (m.length : Int) ≤ a) := by
 simp only [laws_szLasso.f]
 rw [szIntS_eq l a ha hl]
 simp only [Option.bind_some]
 by_cases h : (l.length : Int) ≤ a
 ·rw [if_pos h, if_neg (by omega), szIntS_eq m _ (by omega) hm]
  simp only [Option.bind_some]
  by_cases h2 : (m.length : Int) ≤ a - l.length
  ·rw [if_pos h2, if_neg (by omega)]; exact ⟨_, rfl, fun _ => by omega⟩
  ·rw [if_neg h2, if_pos (by omega)]; exact ⟨-1, rfl, fun h => by omega⟩
 ·rw [if_neg h, if_pos (by omega)]; exact ⟨-1, rfl, fun h => by omega⟩
theorem l1In_eq (n lo hi : Int) : spec_l1In.f n lo hi = some (decide (lo ≤ n ∧ n ≤ hi)) := by
 simp only [spec_l1In.f]
 by_cases h : n ≥ lo
 ·rw [if_pos h]; congr 1; simp; intro _; exact h
 ·rw [if_neg h]; congr 1; simp; intro h'; omega
theorem l1In_tells (n lo hi : Int) : Tells (fun _ => spec_l1In.f n lo hi) (lo ≤ n ∧ n ≤ hi) := by
 simp only [l1In_eq]; exact tells_some (by simp)
theorem l1All_l0 (l : List Int) (lo hi : Int) (hl : l.length ≤ 9223372036854775807) (d : Nat) : ∀ (j : Nat), j + d = l.length →
  Tells (fun k => spec_l1All.l0 k lo hi l (l.length : Int) (j : Int)) (∀ x ∈ l.drop j, lo ≤ x ∧ x ≤ hi) := by
 induction d with
 | zero => exact fun j hd => tells_step (f := fun _ => some true) (fun k => by simp only [spec_l1All.l0]; rw [if_neg (by omega)]) (tells_yes (by rw [List.drop_of_length_le (by omega)]; simp))
 | succ d ih =>
  intro j hd
  have hj : j < l.length := by omega
  refine tells_step (fun k => by simp only [spec_l1All.l0]; rw [if_pos (by omega), if_pos (by omega), if_pos (by omega), wsucc (by omega), rd_nat]) ?_
  rw [drop_cons hj 0]
  refine tells_ask (l1In_tells _ lo hi) (fun hin => tells_pos rfl ?_) (fun hin => tells_neg (by simp) (tells_no (fun h => hin (h _ (by simp)))))
  exact tells_iff (ih (j + 1) (by omega)) ⟨fun h x hx => by
   rcases List.mem_cons.1 hx with rfl | hx
   ·exact hin
   ·exact h x hx, fun h x hx => h x (by simp [hx])⟩
theorem l1All_tells (l : List Int) (lo hi : Int) (hl : l.length ≤ 9223372036854775807) : Tells (fun k => spec_l1All.f k l lo hi) (∀ x ∈ l, lo ≤ x ∧ x ≤ hi) := by
 have := l1All_l0 l lo hi hl l.length 0 (by omega)
 rwa [List.drop_zero] at this
def Letters (l : List Int) : Prop := ∀ x ∈ l, 0 ≤ x ∧ x ≤ 7
def GL (s l : List Int) : Prop := s.length ≤ 24 ∧ 1 ≤ l.length ∧ l.length ≤ 24 ∧ Letters s ∧ Letters l
theorem spec_GoodLasso_tells (s l : List Int) (hs : s.length ≤ 9223372036854775807) (hl : l.length ≤ 9223372036854775807) : Tells (fun k => spec_GoodLasso.f k s l) (GL s l) := by
 refine tells_if (fun h => ?_) (fun h => tells_no (fun g => by have := g.1; omega))
 refine tells_ask (l1In_tells _ _ _) (fun h2 => tells_pos rfl ?_) (fun h2 => tells_neg (by simp) (tells_no (fun g => h2 ⟨by have := g.2.1; omega, by have := g.2.2.1; omega⟩)))
 refine tells_ask (l1All_tells s 0 7 hs) (fun h3 => tells_pos rfl ?_) (fun h3 => tells_neg (by simp) (tells_no (fun g => h3 g.2.2.2.1)))
 exact tells_ask (l1All_tells l 0 7 hl) (fun h4 => tells_yes ⟨by omega, by omega, by omega, h3, h4⟩) (fun h4 => tells_no (fun g => h4 g.2.2.2.2))
def letter (s l : List Int) (k : Nat) : Int := if k < s.length then s.getD k 0 else l.getD ((k - s.length) % l.length) 0
theorem letter_at_body (s l : List Int) (h : GL s l) (k : Nat) (hk : k ≤ 1048576) : (if (k : Int) < (s.length : Int) then (if 0 ≤ (k : Int) then (some (rd s (k : Int))) else (none)) else (if (l.length : Int) = 0 then (none) else (if 0 ≤ (Int.tmod (wrap64 ((k : Int) - (s.length : Int))) (l.length : Int)) then (if (Int.tmod (wrap64 ((k : Int) - (s.length : Int))) (l.length : Int)) < (l.length : Int) then (some (rd l (Int.tmod (wrap64 ((k : Int) - (s.length : Int))) (l.length : Int)))) else (none)) else (none)))) = some (letter s l k) := by
 have h1 := h.1
 have h2 := h.2.1
 by_cases hs : k < s.length
 ·rw [if_pos (by omega), if_pos (by omega), rd_nat]
  simp only [letter, if_pos hs]
 ·rw [if_neg (by omega), if_neg (by omega), wid (by omega) (by omega)]
  have e1 : (k : Int) - (s.length : Int) = ((k - s.length : Nat) : Int) := by omega
  have e2 : Int.tmod ((k - s.length : Nat) : Int) (l.length : Int) = (((k - s.length) % l.length : Nat) : Int) := by
   rw [Int.tmod_eq_emod_of_nonneg (by omega)]; rfl
  have h3 : (k - s.length) % l.length < l.length := Nat.mod_lt _ (by omega)
  rw [e1, e2, if_pos (by omega), if_pos (by omega), rd_nat]
  simp only [letter, if_neg hs]
theorem l9At_eq (s l : List Int) (h : GL s l) (k : Nat) (hk : k ≤ 1048576) : spec_l9At.f s l (k : Int) = some (letter s l k) := letter_at_body s l h k hk
def lets (s l : List Int) : Nat → Nat → List Int
 | _, 0 => []
 | j, d + 1 => letter s l j :: lets s l (j + 1) d
theorem lets_length (s l : List Int) : ∀ d j, (lets s l j d).length = d
 | 0, _ => rfl
 | d + 1, j => by simp [lets, lets_length s l d]
theorem lets_getD (s l : List Int) : ∀ d j i, i < d → (lets s l j d).getD i 0 = letter s l (j + i)
 | 0, _, _, h => by omega
 | d + 1, j, 0, _ => by simp [lets]
 | d + 1, j, i + 1, h => by
  have := lets_getD s l d (j + 1) i (by omega)
  simp only [lets, List.getD_cons_succ]
  rw [this]; congr 1; omega
theorem l9First_l0 (s l : List Int) (h : GL s l) (a n : Nat) (hn : a + n ≤ 1048576) (d : Nat) : ∀ (j : Nat) (out : List Int), out.length ≤ j → j + d = a + n →
  Ev (fun k => spec_l9First.l0 k (a : Int) (n : Int) out (j : Int) s l) (out ++ lets s l j d) := by
 induction d with
 | zero =>
  intro j out ho hd
  exact Ev.step (f := fun _ => some (out ++ lets s l j 0)) (fun k => by simp only [spec_l9First.l0]; rw [if_neg (by rw [wid (by omega) (by omega)]; omega)]; simp [lets]) (Ev.now _)
 | succ d ih =>
  intro j out ho hd
  refine Ev.step (fun k => by simp only [spec_l9First.l0]; rw [if_pos (by rw [wid (by omega) (by omega)]; omega), l9At_eq s l h j (by omega), wsucc (by omega)]) ?_
  refine Ev.bind (Ev.now _) (ev_pos (by omega) ?_)
  exact ev_eq (ih (j + 1) (out ++ [letter s l j]) (by simp; omega) (by omega)) (by simp [lets])
theorem l9First_ev (s l : List Int) (h : GL s l) (a n : Nat) (hn : a + n ≤ 1048576) : Ev (fun k => spec_l9First.f k s l (a : Int) (n : Int)) (lets s l a n) :=
 ev_eq (l9First_l0 s l h a n hn n a [] (by simp) rfl) (by simp)
theorem areLetters_tells (l : List Int) : Tells (fun _ => impl_areLetters.f l) (Letters l) := by
 have h1 : Tells (fun _ => anyO (fun x_ => impl_areLetters_1.f x_) l) (∃ x ∈ l, x < 0 ∨ 8 ≤ x) := by
  refine anyO_tells (q := fun _ x => impl_areLetters_1.f x) l (fun x _ => ?_)
  exact tells_if (fun h => tells_yes (.inl h)) (fun h => tells_some (by simp; omega))
 refine tells_ask h1 (fun ⟨x, hx, hp⟩ => tells_no (fun g => by have := g x hx; omega)) (fun h => tells_yes (fun x hx => ?_))
 rcases Int.lt_or_le x 0 with h2 | h2
 ·exact absurd ⟨x, hx, .inl h2⟩ h
 ·rcases Int.lt_or_le x 8 with h3 | h3
  ·omega
  ·exact absurd ⟨x, hx, .inr h3⟩ h
theorem impl_GoodLasso_tells (s l : List Int) : Tells (fun _ => impl_GoodLasso.f s l) (GL s l) := by
 refine tells_if (fun h => ?_) (fun h => tells_no (fun g => by have := g.1; omega))
 refine tells_if (fun h2 => ?_) (fun h2 => tells_no (fun g => by have := g.2.1; omega))
 refine tells_if (fun h3 => ?_) (fun h3 => tells_no (fun g => by have := g.2.2.1; omega))
 refine tells_ask (areLetters_tells s) (fun h4 => tells_pos rfl ?_) (fun h4 => tells_neg (by simp) (tells_no (fun g => h4 g.2.2.2.1)))
 exact tells_ask (areLetters_tells l) (fun h5 => tells_yes ⟨by omega, by omega, by omega, h4, h5⟩) (fun h5 => tells_no (fun g => h5 g.2.2.2.2))
def chkL (s l : List Int) (r : List Int × List Int × Bool) : Prop := (GL s l ∧ r = (s, l, true)) ∨ (¬ GL s l ∧ r = ([], [], false))
theorem chkL_ex (s l : List Int) : ∃ r, chkL s l r ∧ r.1.length ≤ 24 ∧ r.2.1.length ≤ 24 := by
 by_cases h : GL s l
 ·exact ⟨_, .inl ⟨h, rfl⟩, h.1, h.2.2.1⟩
 ·exact ⟨_, .inr ⟨h, rfl⟩, by simp, by simp⟩
theorem checkedLasso_ev (s l : List Int) {r : List Int × List Int × Bool} (h : chkL s l r) : Ev (fun k => impl_checkedLasso.f s l) r := by
 rcases h with ⟨g, rfl⟩ | ⟨g, rfl⟩
 ·exact Ev.bind (tells_ev (impl_GoodLasso_tells s l) g) (ev_pos rfl (Ev.now _))
 ·exact Ev.bind (tells_ev_not (impl_GoodLasso_tells s l) g) (ev_neg (by simp) (Ev.now _))
theorem l9Made_ev (s l : List Int) (hs : s.length ≤ 9223372036854775807) (hl : l.length ≤ 9223372036854775807) {r : List Int × List Int × Bool} (h : chkL s l r) : Ev (fun k => spec_l9Made.f k s l) r := by
 rcases h with ⟨g, rfl⟩ | ⟨g, rfl⟩
 ·exact Ev.bind (tells_ev (spec_GoodLasso_tells s l hs hl) g) (ev_pos rfl (Ev.now _))
 ·exact Ev.bind (tells_ev_not (spec_GoodLasso_tells s l hs hl) g) (ev_neg (by simp) (Ev.now _))
theorem l1Own_eq (l : List Int) (h : l.length ≤ 1048576) : spec_l1Own.f l = some l := by
 simp only [spec_l1Own.f, Option.bind_some, List.nil_append, List.length_nil]
 rw [if_pos (by omega)]
theorem toIntS_l0 (l : List Int) (hl : l.length ≤ 1048576) (d : Nat) : ∀ (j : Nat) (y : List Int), y.length = l.length → j + d = l.length → Ev (fun k => laws_toIntS.l0 k l y (j : Int)) (y.take j ++ l.drop j) := by
 induction d with
 | zero =>
  intro j y hy hd
  rw [take_all_drop hy (by omega)]
  exact Ev.step (f := fun _ => some y) (fun k => by simp only [laws_toIntS.l0]; rw [if_neg (by omega)]) (Ev.now y)
 | succ d ih =>
  intro j y hy hd
  refine Ev.step (f := fun k => laws_toIntS.l0 k l (y.set j (rd l (j : Int))) ((j + 1 : Nat) : Int)) (fun k => by simp only [laws_toIntS.l0]; rw [if_pos (by omega), if_pos (by omega), if_pos (by omega), wsucc (by omega)]; rfl) ?_
  refine ev_eq (ih (j + 1) _ (by simpa using hy) (by omega)) (copy_step (by omega) (by omega) ?_)
  rw [rd_nat, getD_eq (by omega), getD_eq (by omega)]
theorem toIntS_ev (l : List Int) (hl : l.length ≤ 1048576) : Ev (fun k => laws_toIntS.f k l) l := by
 refine Ev.congr (f := fun k => laws_toIntS.l0 k l (List.replicate l.length 0) ((0 : Nat) : Int)) (fun k => by simp only [laws_toIntS.f]; rw [if_pos (by omega), if_pos (by simp only [Int.toNat_natCast]; omega)]; rfl) ?_
 exact ev_eq (toIntS_l0 l hl l.length 0 _ (by simp) (by omega)) (by simp)
theorem toLasso_ev (l m : List Int) (hl : l.length ≤ 1048576) (hm : m.length ≤ 1048576) : Ev (fun k => laws_toLasso.f k l m) (l, m) :=
 Ev.bind (toIntS_ev l hl) (Ev.bind (toIntS_ev m hm) (Ev.now _))
theorem isIndex_tells (n : Int) : Tells (fun _ => impl_isIndex.f n) (0 ≤ n ∧ n ≤ 1000) :=
 tells_if (fun h => tells_some (by simp; omega)) (fun h => tells_no (fun g => by omega))
theorem cloneInt_eq (l : List Int) (h : l.length < 17592186044416) : slices_Clone_int_int.f l = some l := by
 rw [slices_Clone_int_int.f, if_pos h]
theorem letterAt_eq (s l : List Int) (h : GL s l) (k : Nat) (hk : k ≤ 1048576) : impl_Lasso_letterAt.f s l (k : Int) = some (letter s l k) := letter_at_body s l h k hk
theorem unroll_l0 (s l : List Int) (h : GL s l) (n : Nat) (hn : n ≤ 1048576) (d : Nat) : ∀ (j : Nat) (out : List Int), out.length ≤ j → j + d = n →
  Ev (fun k => impl_Lasso_unroll.l0 k out (n : Int) (j : Int) s l) (out ++ lets s l j d) := by
 induction d with
 | zero =>
  intro j out ho hd
  exact Ev.step (f := fun _ => some (out ++ lets s l j 0)) (fun k => by simp only [impl_Lasso_unroll.l0]; rw [if_neg (by omega)]; simp [lets]) (Ev.now _)
 | succ d ih =>
  intro j out ho hd
  refine Ev.step (fun k => by simp only [impl_Lasso_unroll.l0]; rw [if_pos (by omega), letterAt_eq s l h j (by omega), wsucc (by omega)]) ?_
  refine Ev.bind (Ev.now _) (ev_pos (by omega) ?_)
  exact ev_eq (ih (j + 1) (out ++ [letter s l j]) (by simp; omega) (by omega)) (by simp [lets])
theorem unroll_ev (s l : List Int) (h : GL s l) (n : Nat) (hn : n ≤ 1048576) : Ev (fun k => impl_Lasso_unroll.f k s l (n : Int)) (lets s l 0 n) :=
 ev_eq (unroll_l0 s l h n hn n 0 [] (by simp) (by omega)) (by simp)
theorem growInt_eq (x : Int) (h0 : 0 ≤ x) (h1 : x ≤ 1048576) : slices_Grow_int_int.f x = some [] := by
 rw [slices_Grow_int_int.f, if_pos h0, if_pos (by omega)]
theorem concatInt_l1 (ls : List (List Int)) (hf : ls.flatten.length ≤ 1048576) (hl : ls.length ≤ 1048576) (d : Nat) : ∀ (j : Nat), j + d = ls.length → Ev (fun k => slices_Concat_int_int.l1 k (ls.take j).flatten ls (ls.length : Int) (j : Int)) ls.flatten := by
 induction d with
 | zero =>
  intro j hd
  refine ev_eq (Ev.step (f := fun _ => some (ls.take j).flatten) (fun k => by simp only [slices_Concat_int_int.l1]; rw [if_neg (by omega)]) (Ev.now _)) ?_
  rw [List.take_of_length_le (by omega)]
 | succ d ih =>
  intro j hd
  have hj : j < ls.length := by omega
  have er : rd_L7 ls (j : Int) = ls[j] := by simp [rd_L7, List.getElem?_eq_getElem hj]
  have et : (ls.take (j + 1)).flatten = (ls.take j).flatten ++ ls[j] := by rw [List.take_succ_eq_append_getElem hj, List.flatten_append]; simp
  have eL : (ls.take (j + 1)).flatten.length ≤ ls.flatten.length := by
   conv => rhs; rw [← List.take_append_drop (j + 1) ls, List.flatten_append, List.length_append]
   omega
  have e3 := congrArg List.length et
  rw [List.length_append] at e3
  refine Ev.step (fun k => by simp only [slices_Concat_int_int.l1]; rw [if_pos (by omega), if_pos (by omega), if_pos (by omega), er, if_pos (by omega), wsucc (by omega), ← et]) (ih (j + 1) (by omega))
theorem concatInt_l0 (ls : List (List Int)) (hf : ls.flatten.length ≤ 1048576) (hl : ls.length ≤ 1048576) (d : Nat) : ∀ (j : Nat), j + d = ls.length → Ev (fun k => slices_Concat_int_int.l0 k ls ((ls.take j).flatten.length : Int) ls (ls.length : Int) (j : Int)) ls.flatten := by
 induction d with
 | zero =>
  intro j hd
  have e1 : ls.take j = ls := List.take_of_length_le (by omega)
  rw [e1]
  refine Ev.step (fun k => by simp only [slices_Concat_int_int.l0]; rw [if_neg (by omega), growInt_eq _ (by omega) (by omega), Option.bind_some]) ?_
  exact concatInt_l1 ls hf hl ls.length 0 (by omega)
 | succ d ih =>
  intro j hd
  have hj : j < ls.length := by omega
  have er : rd_L7 ls (j : Int) = ls[j] := by simp [rd_L7, List.getElem?_eq_getElem hj]
  have et : (ls.take (j + 1)).flatten = (ls.take j).flatten ++ ls[j] := by rw [List.take_succ_eq_append_getElem hj, List.flatten_append]; simp
  have eL : (ls.take (j + 1)).flatten.length ≤ ls.flatten.length := by
   conv => rhs; rw [← List.take_append_drop (j + 1) ls, List.flatten_append, List.length_append]
   omega
  have e3 := congrArg List.length et
  rw [List.length_append] at e3
  have e4 : wrap64 (((ls.take j).flatten.length : Int) + (ls[j].length : Int)) = ((ls.take (j + 1)).flatten.length : Int) := by rw [wid (by omega) (by omega)]; omega
  refine Ev.step (fun k => by simp only [slices_Concat_int_int.l0]; rw [if_pos (by omega), if_pos (by omega), if_pos (by omega), er, e4, if_neg (by omega), wsucc (by omega)]) (ih (j + 1) (by omega))
theorem concatInt_ev (ls : List (List Int)) (hf : ls.flatten.length ≤ 1048576) (hl : ls.length ≤ 1048576) : Ev (fun k => slices_Concat_int_int.f k ls) ls.flatten :=
 concatInt_l0 ls hf hl ls.length 0 (by omega)
theorem lets_ext (s l : List Int) : ∀ (d j : Nat) (xs : List Int), xs.length = d → (∀ i, i < d → xs.getD i 0 = letter s l (j + i)) → xs = lets s l j d
 | 0, _, xs, h, _ => by rw [List.length_eq_zero_iff.1 h]; rfl
 | d + 1, j, [], h, _ => by simp at h
 | d + 1, j, x :: xs, h, hg => by
  have h0 := hg 0 (by omega)
  rw [lets, ← lets_ext s l d (j + 1) xs (by simpa using h) (fun i hi => by have := hg (i + 1) (by omega); rw [List.getD_cons_succ] at this; rw [this]; congr 1; omega)]
  congr 1
theorem rot_eq (s l : List Int) (hl : 1 ≤ l.length) (k : Nat) (hk : s.length ≤ k) : l.drop ((k - s.length) % l.length) ++ l.take ((k - s.length) % l.length) = lets s l k l.length := by
 have hb : (k - s.length) % l.length < l.length := Nat.mod_lt _ (by omega)
 have hm : ∀ i, (k + i - s.length) % l.length = ((k - s.length) % l.length + i) % l.length := fun i => by rw [Nat.mod_add_mod]; congr 1; omega
 generalize (k - s.length) % l.length = b at hb hm
 refine lets_ext s l l.length k _ (by simp; omega) (fun i hi => ?_)
 simp only [letter]
 rw [if_neg (by omega), hm i]
 by_cases h : i < l.length - b
 ·rw [Nat.mod_eq_of_lt (by omega), List.getD_eq_getElem?_getD, List.getElem?_append_left (by simp; omega), List.getElem?_drop, ← List.getD_eq_getElem?_getD]
 ·have e : (b + i) % l.length = b + i - l.length := by rw [Nat.mod_eq_sub_mod (by omega), Nat.mod_eq_of_lt (by omega)]
  rw [e, List.getD_eq_getElem?_getD, List.getElem?_append_right (by simp; omega), List.length_drop, List.getElem?_take_of_lt (by omega), ← List.getD_eq_getElem?_getD]
  congr 1; omega
theorem stem_eq (s l : List Int) (n : Nat) (hn : n ≤ s.length) (k : Nat) (hk : k + n = s.length) : s.drop k = lets s l k n := by
 refine lets_ext s l n k _ (by simp; omega) (fun i hi => ?_)
 simp only [letter]
 rw [if_pos (by omega), List.getD_eq_getElem?_getD, List.getElem?_drop, ← List.getD_eq_getElem?_getD]
theorem stem_take (s l : List Int) (hl : 1 ≤ l.length) (b : Nat) (hb : b ≤ l.length) : s ++ l.take b = lets s l 0 (s.length + b) := by
 refine lets_ext s l (s.length + b) 0 _ (by simp; omega) (fun i hi => ?_)
 simp only [letter, Nat.zero_add]
 by_cases h : i < s.length
 ·rw [if_pos h, List.getD_eq_getElem?_getD, List.getElem?_append_left h, ← List.getD_eq_getElem?_getD]
 ·rw [if_neg h, List.getD_eq_getElem?_getD, List.getElem?_append_right (by omega), List.getElem?_take_of_lt (by omega), ← List.getD_eq_getElem?_getD, Nat.mod_eq_of_lt (by omega)]
theorem letter_in (s l : List Int) (h : GL s l) (k : Nat) : 0 ≤ letter s l k ∧ letter s l k ≤ 7 := by
 simp only [letter]
 by_cases hk : k < s.length
 ·rw [if_pos hk]; exact h.2.2.2.1 _ (getD_mem hk 0)
 ·rw [if_neg hk]; exact h.2.2.2.2 _ (getD_mem (Nat.mod_lt _ (by have := h.2.1; omega)) 0)
theorem lets_letters (s l : List Int) (h : GL s l) : ∀ d j, Letters (lets s l j d)
 | 0, _ => by simp [lets, Letters]
 | d + 1, j => by
  intro x hx
  rcases List.mem_cons.1 hx with rfl | hx
  ·exact letter_in s l h j
  ·exact lets_letters s l h d (j + 1) x hx
theorem loopFrom_ev (s l : List Int) (h : GL s l) (k : Nat) (hk : s.length ≤ k) (hk2 : k ≤ 1048576) : Ev (fun n => impl_Lasso_loopFrom.f n s l (k : Int)) (lets s l k l.length) := by
 have h2 := h.2.1
 have h3 := h.2.2.1
 have hb : (k - s.length) % l.length < l.length := Nat.mod_lt _ (by omega)
 have e1 : Int.tmod (wrap64 ((k : Int) - (s.length : Int))) (l.length : Int) = (((k - s.length) % l.length : Nat) : Int) := by
  rw [wid (by omega) (by omega), show (k : Int) - (s.length : Int) = ((k - s.length : Nat) : Int) by omega, Int.tmod_eq_emod_of_nonneg (by omega)]; rfl
 have e2 := rot_eq s l h2 k hk
 have c := concatInt_ev [l.drop ((k - s.length) % l.length), l.take ((k - s.length) % l.length)] (by simp; omega) (by simp)
 rw [show [l.drop ((k - s.length) % l.length), l.take ((k - s.length) % l.length)].flatten = lets s l k l.length by rw [← e2]; simp] at c
 refine Ev.congr (fun n => by simp only [impl_Lasso_loopFrom.f]; rw [if_neg (by omega), e1, if_pos (by omega), if_pos (by omega), Int.toNat_natCast]) ?_
 exact Ev.bind c (Ev.now _)
theorem lets_more (s l : List Int) (m : Nat) : lets s l 0 m ++ [letter s l m] = lets s l 0 (m + 1) := by
 refine lets_ext s l (m + 1) 0 _ (by rw [List.length_append, lets_length]; rfl) (fun i hi => ?_)
 by_cases h : i < m
 ·rw [List.getD_eq_getElem?_getD, List.getElem?_append_left (by rw [lets_length]; exact h), ← List.getD_eq_getElem?_getD, lets_getD s l m 0 i h]
 ·obtain rfl : i = m := by omega
  rw [List.getD_eq_getElem?_getD, List.getElem?_append_right (by rw [lets_length]; exact Nat.le_refl _), lets_length, Nat.sub_self, Nat.zero_add]; rfl
theorem stem_first (s l : List Int) (m : Nat) (h : m < s.length) : lets s l 0 m = s.take m ∧ letter s l m = s.getD m 0 := by
 have e : ∀ k, k < s.length → letter s l k = s.getD k 0 := fun k hk => by simp only [letter]; rw [if_pos hk]
 refine ⟨(lets_ext s l m 0 _ (by rw [List.length_take]; omega) (fun i hi => ?_)).symm, e m h⟩
 rw [Nat.zero_add, e i (by omega), List.getD_eq_getElem?_getD, List.getElem?_take_of_lt hi, ← List.getD_eq_getElem?_getD]
theorem insert_eq (s : List Int) (m : Nat) (v : Int) (h : m < s.length) (hs : s.length ≤ 24) : slices_Insert_int_int.f s (m : Int) [v] = some (s.take m ++ [v] ++ s.drop m) := by
 rw [slices_Insert_int_int.f, if_pos ⟨by omega, by omega, rfl, by omega⟩, Int.toNat_natCast]
theorem StutterAt_both (s l : List Int) (n : Int) (hs : s.length ≤ 9223372036854775807) (hl : l.length ≤ 9223372036854775807) :
  ∃ r : List Int × List Int × Bool, Ev (fun k => spec_StutterAt.f k s l n) r ∧ Ev (fun k => impl_StutterAt.f k s l n) r ∧ r.1.length ≤ 24 ∧ r.2.1.length ≤ 24 := by
 have hno : Ev (fun k => impl_StutterAt.j0 k n true s l) (([] : List Int), ([] : List Int), false) := Ev.step (f := fun _ => some (([] : List Int), ([] : List Int), false)) (fun k => by simp only [impl_StutterAt.j0]; rw [if_pos trivial]) (Ev.now _)
 have hno2 : Ev (fun k => spec_StutterAt.j0 k n true s l) (([] : List Int), ([] : List Int), false) := Ev.step (f := fun _ => some (([] : List Int), ([] : List Int), false)) (fun k => by simp only [spec_StutterAt.j0]; rw [if_pos trivial]) (Ev.now _)
 by_cases h : GL s l
 ·have h1 := h.1
  have h2 := h.2.1
  have h3 := h.2.2.1
  have hgi := tells_ev (impl_GoodLasso_tells s l) h
  have hgs := tells_ev (spec_GoodLasso_tells s l hs hl) h
  by_cases hn : 0 ≤ n ∧ n ≤ 1000
  ·obtain ⟨m, rfl⟩ := Int.eq_ofNat_of_zero_le hn.1
   have hi := tells_ev (isIndex_tells (m : Int)) hn
   have hi2 := tells_ev (l1In_tells (m : Int) 0 1000) hn
   have f1 := l9First_ev s l h 0 m (by omega)
   have lm := lets_length s l m 0
   by_cases hk : m < s.length
   ·obtain ⟨e1, e2⟩ := stem_first s l m hk
    obtain ⟨r, hr, hr1, hr2⟩ := chkL_ex (s.take m ++ [s.getD m 0] ++ s.drop m) l
    refine ⟨r, ?_, ?_, hr1, hr2⟩
    ·refine Ev.bind hgs (ev_pos rfl (Ev.bind hi2 ?_))
     refine Ev.step (fun k => by simp only [spec_StutterAt.j0]; rw [if_neg (by simp)]) ?_
     refine Ev.bind f1 (Ev.bind (ev_const (l9At_eq s l h m (by omega))) (ev_pos (by omega) (Ev.bind (Ev.now _) (ev_pos (by omega) (ev_pos (by omega) (ev_pos (by omega) ?_))))))
     rw [Int.toNat_natCast]
     refine ev_pos (by rw [List.length_append, List.length_singleton, List.length_drop]; omega) ?_
     refine Ev.bind (ev_const (l1Own_eq _ (by omega))) ?_
     rw [e1, e2]
     exact Ev.bind (l9Made_ev _ _ (by rw [List.length_append, List.length_append, List.length_take, List.length_drop, List.length_singleton]; omega) (by omega) hr) (Ev.now _)
    ·refine Ev.bind hgi (ev_pos rfl (Ev.bind hi ?_))
     refine Ev.step (fun k => by simp only [impl_StutterAt.j0]; rw [if_neg (by simp), if_pos (by omega), rd_nat]) ?_
     refine Ev.bind (ev_const (cloneInt_eq _ (by omega))) (ev_pos (by omega) (Ev.bind (ev_const (insert_eq s m _ hk h1)) (Ev.bind (ev_const (cloneInt_eq _ (by omega))) ?_)))
     exact Ev.bind (checkedLasso_ev _ _ hr) (Ev.now _)
   ·obtain ⟨r, hr, hr1, hr2⟩ := chkL_ex (lets s l 0 (m + 1)) (lets s l m l.length)
    refine ⟨r, ?_, ?_, hr1, hr2⟩
    ·refine Ev.bind hgs (ev_pos rfl (Ev.bind hi2 ?_))
     refine Ev.step (fun k => by simp only [spec_StutterAt.j0]; rw [if_neg (by simp)]) ?_
     refine Ev.bind f1 (Ev.bind (ev_const (l9At_eq s l h m (by omega))) (ev_pos (by omega) (Ev.bind (Ev.now _) (ev_neg (by omega) ?_))))
     refine Ev.bind (l9First_ev s l h m l.length (by omega)) ?_
     rw [lets_more]
     exact Ev.bind (l9Made_ev _ _ (by rw [lets_length]; omega) (by rw [lets_length]; omega) hr) (Ev.now _)
    ·refine Ev.bind hgi (ev_pos rfl (Ev.bind hi ?_))
     refine Ev.step (fun k => by simp only [impl_StutterAt.j0]; rw [if_neg (by simp), if_neg (by omega), wsucc (by omega)]) ?_
     refine Ev.bind (unroll_ev s l h (m + 1) (by omega)) (Ev.bind (loopFrom_ev s l h m (by omega) (by omega)) ?_)
     exact Ev.bind (checkedLasso_ev _ _ hr) (Ev.now _)
  ·exact ⟨([], [], false), Ev.bind hgs (ev_pos rfl (Ev.bind (tells_ev_not (l1In_tells n 0 1000) hn) hno2)),
    Ev.bind hgi (ev_pos rfl (Ev.bind (tells_ev_not (isIndex_tells n) hn) hno)), by simp, by simp⟩
 ·exact ⟨([], [], false), Ev.bind (tells_ev_not (spec_GoodLasso_tells s l hs hl) h) (ev_neg (by simp) hno2), Ev.bind (tells_ev_not (impl_GoodLasso_tells s l) h) (ev_neg (by simp) hno), by simp, by simp⟩
theorem eqIntS_l0 (l : List Int) (hl : l.length ≤ 9223372036854775807) (d : Nat) : ∀ (j : Nat), j + d = l.length → Ev (fun k => laws_eqIntS.l0 k l l (j : Int)) true := by
 induction d with
 | zero => exact fun j hd => Ev.step (f := fun _ => some true) (fun k => by simp only [laws_eqIntS.l0]; rw [if_neg (by omega)]) (Ev.now _)
 | succ d ih => exact fun j hd => Ev.step (fun k => by simp only [laws_eqIntS.l0, if_true]; rw [if_pos (by omega), if_pos (by omega), if_pos (by omega), wsucc (by omega)]) (ih (j + 1) (by omega))
theorem eqIntS_ev (l : List Int) (hl : l.length ≤ 9223372036854775807) : Ev (fun k => laws_eqIntS.f k l l) true :=
 Ev.congr (fun k => by simp only [laws_eqIntS.f, if_true]; rfl) (eqIntS_l0 l hl l.length 0 (by omega))
theorem eqLasso_ev (l m : List Int) (hl : l.length ≤ 9223372036854775807) (hm : m.length ≤ 9223372036854775807) : Ev (fun k => laws_eqLasso.f k l m l m) true :=
 Ev.bind (eqIntS_ev l hl) (ev_pos rfl (Ev.bind (eqIntS_ev m hm) (ev_pos rfl (Ev.now _))))
theorem markIntS_l0 (d : Nat) : ∀ (j : Nat) (y : List Int) (a : Int), j + d = y.length → y.length ≤ 1048576 → 0 ≤ a → a + d ≤ 4611686018427387904 → Ev (fun k => laws_markIntS.l0 k y a (j : Int)) (a + d, y.take j ++ cnt d a) := by
 induction d with
 | zero =>
  intro j y a hd hy h0 h1
  refine ev_eq (Ev.step (f := fun _ => some (a, y)) (fun k => by simp only [laws_markIntS.l0]; rw [if_neg (by omega)]) (Ev.now _)) ?_
  rw [List.take_of_length_le (by omega)]; simp [cnt]
 | succ d ih =>
  intro j y a hd hy h0 h1
  refine Ev.step (fun k => by simp only [laws_markIntS.l0]; rw [if_pos (by omega), if_pos (by omega), wsucc (by omega), wid (x := a + 1) (by omega) (by omega)]) ?_
  refine ev_eq (ih (j + 1) (y.set ((j : Int)).toNat a) (a + 1) (by simp; omega) (by simpa using hy) (by omega) (by omega)) ?_
  simp only [Int.toNat_natCast]
  rw [List.take_succ_eq_append_getElem (by simp; omega), List.take_set_of_le (Nat.le_refl j)]
  simp [cnt]; omega
theorem markIntS_ev (y : List Int) (a : Int) (hy : y.length ≤ 1048576) (h0 : 0 ≤ a) (h1 : a ≤ 2305843009213693952) : Ev (fun k => laws_markIntS.f k y a) (a + y.length, cnt y.length a) :=
 ev_eq (markIntS_l0 y.length 0 y a (by omega) hy h0 (by omega)) (by simp)
theorem markIntS_ev' (y : List Int) (a : Int) (hy : y.length ≤ 1048576) (h0 : 0 ≤ a) (h1 : a + y.length ≤ 4611686018427387904) : Ev (fun k => laws_markIntS.f k y a) (a + y.length, cnt y.length a) :=
 ev_eq (markIntS_l0 y.length 0 y a (by omega) hy h0 h1) (by simp)
theorem markLasso_ev (s l : List Int) (a : Int) (hs : s.length ≤ 1048576) (hl : l.length ≤ 1048576) (h0 : 0 ≤ a) (h1 : a ≤ 1099511627776) :
  Ev (fun k => laws_markLasso.f k s l a) (a + s.length + l.length, cnt s.length a, cnt l.length (a + s.length)) :=
 Ev.bind (markIntS_ev s a hs h0 (by omega)) (Ev.bind (markIntS_ev l (a + s.length) hl (by omega) (by omega)) (Ev.now _))
theorem heldIntS_l0 (y : List Int) (hy : y.length ≤ 1048576) (d : Nat) : ∀ (j : Nat) (a : Int), j + d = y.length → y.drop j = cnt d a → 0 ≤ a → a + d ≤ 4611686018427387904 → Ev (fun k => laws_heldIntS.l0 k y a (j : Int)) (a + d) := by
 induction d with
 | zero =>
  intro j a hd hc h0 h1
  exact ev_eq (Ev.step (f := fun _ => some a) (fun k => by simp only [laws_heldIntS.l0]; rw [if_neg (by omega)]) (Ev.now _)) (by omega)
 | succ d ih =>
  intro j a hd hc h0 h1
  rw [drop_cons (by omega) 0, cnt] at hc
  obtain ⟨h2, h3⟩ := List.cons.inj hc
  refine Ev.step (fun k => by simp only [laws_heldIntS.l0]; rw [if_pos (by omega), if_pos (by omega), rd_nat, if_pos h2, wsucc (by omega), wid (x := a + 1) (by omega) (by omega)]) ?_
  exact ev_eq (ih (j + 1) (a + 1) (by omega) h3 (by omega) (by omega)) (by omega)
theorem heldIntS_ev (n : Nat) (a : Int) (hn : n ≤ 1048576) (h0 : 0 ≤ a) (h1 : a ≤ 2305843009213693952) : Ev (fun k => laws_heldIntS.f k (cnt n a) a) (a + n) :=
 heldIntS_l0 (cnt n a) (by rw [cnt_length]; exact hn) n 0 a (by rw [cnt_length]; omega) (by simp) h0 (by omega)
theorem heldLasso_ev (n m : Nat) (a : Int) (hn : n ≤ 1048576) (hm : m ≤ 1048576) (h0 : 0 ≤ a) (h1 : a ≤ 1099511627776) : Ev (fun k => laws_heldLasso.f k (cnt n a) (cnt m (a + n)) a) (a + n + m) :=
 Ev.bind (heldIntS_ev n a hn h0 (by omega)) (ev_neg (by omega) (Ev.bind (heldIntS_ev m (a + n) hm (by omega) (by omega)) (ev_neg (by omega) (Ev.now _))))

theorem FnExactStutterAt : ∀ (l0_0 : List (Int)) (l0_1 : List (Int)) (a1 : Int), (l0_0.length ≤ 9223372036854775807 ∧ ∀ x ∈ l0_0, In64 x) → (l0_1.length ≤ 9223372036854775807 ∧ ∀ x ∈ l0_1, In64 x) → (In64 a1) → ∃ k, laws_FnExactStutterAt.f k l0_0 l0_1 a1 = some true := by
  intro s l n hs hl _
  obtain ⟨t, ht, hp⟩ := szLasso_eq s l 1048576 (by omega) hs.1 hl.1
  refine Ev.rounds (Ev.bind (ev_const ht) ?_)
  by_cases h : t < 0
  · exact ev_pos h (Ev.now _)
  refine ev_neg h ?_
  obtain ⟨_, h1, h2⟩ := hp (by omega)
  obtain ⟨⟨b, c, ok⟩, hb, hb', hlen, hlen2⟩ := StutterAt_both s l n hs.1 hl.1
  have hlen : b.length ≤ 24 := hlen
  have hlen2 : c.length ≤ 24 := hlen2
  have ht := toLasso_ev s l (by omega) (by omega)
  have he := eqLasso_ev b c (by omega) (by omega)
  have hm := markLasso_ev b c 1 (by omega) (by omega) (by omega) (by omega)
  have hh := heldLasso_ev b.length c.length 1 (by omega) (by omega) (by omega) (by omega)
  refine Ev.bind ht (Ev.bind hb (Ev.bind ht (Ev.bind hb' (Ev.bind he (ev_pos rfl ?_)))))
  refine Ev.step (fun k => by simp only [laws_FnExactStutterAt.j0]; rw [if_neg (by simp)]) ?_
  refine Ev.bind ht (Ev.bind (eqLasso_ev s l hs.1 hl.1) (ev_pos rfl ?_))
  refine Ev.bind (markLasso_ev s l 1 (by omega) (by omega) (by omega) (by omega)) (ev_neg (by simp only; omega) (Ev.bind he (ev_pos rfl ?_)))
  refine Ev.step (fun k => by simp only [laws_FnExactStutterAt.j1]; rw [if_neg (by simp)]) ?_
  refine Ev.bind hm (Ev.bind hh (ev_neg (by omega) (ev_pos rfl ?_)))
  refine Ev.bind ht (Ev.bind hb' (Ev.bind he (ev_pos rfl ?_)))
  refine Ev.step (fun k => by simp only [laws_FnExactStutterAt.j2]; rw [if_neg (by simp)]) ?_
  exact Ev.bind hh (ev_neg (by omega) (ev_pos rfl (Ev.now _)))

end Go.Proofs.Ytaacldndbjmekaa.Pure
