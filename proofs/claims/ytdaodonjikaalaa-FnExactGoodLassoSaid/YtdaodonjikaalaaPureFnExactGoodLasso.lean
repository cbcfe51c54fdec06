/- The pure statement of the law FnExactGoodLasso: what the printed functions compute makes the law true, for every input. No condition. -/
import Derived.Test.YtdaodonjikaalaaOpen
import Derived.Test.YtdaodonjikaalaaAid
import Derived.Test.YtdaodonjikaalaaP28
set_option linter.unusedVariables false
set_option linter.unusedSimpArgs false
namespace Go.Proofs.Ytdaodonjikaalaa.Pure
open Go.RowKit Go.Proofs.YtdaodonjikaalaaW.PrintWords Go.Proofs.Ytdaodonjikaalaa.P Go.Proofs.Ytdaodonjikaalaa.Hof Go.Proofs.Ytdaodonjikaalaa.Open Go.Proofs.Ytdaodonjikaalaa.Aid
-- LEMMAS
theorem szIntS_eq (l : List Int) (a : Int) (ha : 0 ≤ a ∧ a ≤ 1048576) (hl : l.length ≤ 9223372036854775807) : laws_szIntS.f l a = some (if (l.length : Int) ≤ a then a - l.length else -1) := by
  have e : wrap64 (a - (l.length : Int)) = a - l.length := wid (by omega) (by omega)
  simp only [laws_szIntS.f]
  rw [e]
  by_cases h : (l.length : Int) ≤ a
  · rw [if_neg (by omega), if_pos h]
  · rw [if_pos (by omega), if_neg h]

theorem szLasso_eq (l m : List Int) (a : Int) (ha : 0 ≤ a ∧ a ≤ 1048576) (hl : l.length ≤ 9223372036854775807) (hm : m.length ≤ 9223372036854775807) :
    ∃ t, laws_szLasso.f l m a = some t ∧ (0 ≤ t → t ≤ a ∧ (l.length : Int) ≤ a ∧ (m.length : Int) ≤ a) := by
  simp only [laws_szLasso.f]
  rw [szIntS_eq l a ha hl]
  simp only [Option.bind_some]
  by_cases h : (l.length : Int) ≤ a
  · rw [if_pos h, if_neg (by omega), szIntS_eq m _ (by omega) hm]
    simp only [Option.bind_some]
    by_cases h2 : (m.length : Int) ≤ a - l.length
    · rw [if_pos h2, if_neg (by omega)]; exact ⟨_, rfl, fun _ => by omega⟩
    · rw [if_neg h2, if_pos (by omega)]; exact ⟨-1, rfl, fun h => by omega⟩
  · rw [if_neg h, if_pos (by omega)]; exact ⟨-1, rfl, fun h => by omega⟩

theorem l1In_eq (n lo hi : Int) : spec_l1In.f n lo hi = some (decide (lo ≤ n ∧ n ≤ hi)) := by
  simp only [spec_l1In.f]
  by_cases h : n ≥ lo
  · rw [if_pos h]; congr 1; simp; intro _; exact h
  · rw [if_neg h]; congr 1; simp; intro h'; omega
theorem l1In_tells (n lo hi : Int) : Tells (fun _ => spec_l1In.f n lo hi) (lo ≤ n ∧ n ≤ hi) := by
  simp only [l1In_eq]; exact tells_some (by simp)

theorem l1All_l0 (l : List Int) (lo hi : Int) (hl : l.length ≤ 9223372036854775807) (d : Nat) : ∀ (j : Nat), j + d = l.length →
    Tells (fun k => spec_l1All.l0 k lo hi l (l.length : Int) (j : Int)) (∀ x ∈ l.drop j, lo ≤ x ∧ x ≤ hi) := by
  induction d with
  | zero => exact fun j hd => tells_step (f := fun _ => some true) (fun k => by simp only [spec_l1All.l0]; rw [if_neg (by omega)]) (tells_yes (by rw [List.drop_of_length_le (by omega)]; simp))
  | succ d ih =>
    intro j hd
    have hj : j < l.length := by omega
    refine tells_step (fun k => by simp only [spec_l1All.l0]; rw [if_pos (by omega), if_pos (by omega), if_pos (by omega), wsucc (by omega), rd_nat]) ?_
    rw [drop_cons hj 0]
    refine tells_ask (l1In_tells _ lo hi) (fun hin => tells_pos rfl ?_) (fun hin => tells_neg (by simp) (tells_no (fun h => hin (h _ (by simp)))))
    exact tells_iff (ih (j + 1) (by omega)) ⟨fun h x hx => by
      rcases List.mem_cons.1 hx with rfl | hx
      · exact hin
      · exact h x hx, fun h x hx => h x (by simp [hx])⟩
theorem l1All_tells (l : List Int) (lo hi : Int) (hl : l.length ≤ 9223372036854775807) : Tells (fun k => spec_l1All.f k l lo hi) (∀ x ∈ l, lo ≤ x ∧ x ≤ hi) := by
  have := l1All_l0 l lo hi hl l.length 0 (by omega)
  rwa [List.drop_zero] at this

def Letters (l : List Int) : Prop := ∀ x ∈ l, 0 ≤ x ∧ x ≤ 7
/-- A valid lasso: stem and loop. -/
def GL (s l : List Int) : Prop := s.length ≤ 24 ∧ 1 ≤ l.length ∧ l.length ≤ 24 ∧ Letters s ∧ Letters l
theorem spec_GoodLasso_tells (s l : List Int) (hs : s.length ≤ 9223372036854775807) (hl : l.length ≤ 9223372036854775807) : Tells (fun k => spec_GoodLasso.f k s l) (GL s l) := by
  refine tells_if (fun h => ?_) (fun h => tells_no (fun g => by have := g.1; omega))
  refine tells_ask (l1In_tells _ _ _) (fun h2 => tells_pos rfl ?_) (fun h2 => tells_neg (by simp) (tells_no (fun g => h2 ⟨by have := g.2.1; omega, by have := g.2.2.1; omega⟩)))
  refine tells_ask (l1All_tells s 0 7 hs) (fun h3 => tells_pos rfl ?_) (fun h3 => tells_neg (by simp) (tells_no (fun g => h3 g.2.2.2.1)))
  exact tells_ask (l1All_tells l 0 7 hl) (fun h4 => tells_yes ⟨by omega, by omega, by omega, h3, h4⟩) (fun h4 => tells_no (fun g => h4 g.2.2.2.2))

theorem toIntS_l0 (l : List Int) (hl : l.length ≤ 1048576) (d : Nat) : ∀ (j : Nat) (y : List Int), y.length = l.length → j + d = l.length → Ev (fun k => laws_toIntS.l0 k l y (j : Int)) (y.take j ++ l.drop j) := by
  induction d with
  | zero =>
    intro j y hy hd
    rw [take_all_drop hy (by omega)]
    exact Ev.step (f := fun _ => some y) (fun k => by simp only [laws_toIntS.l0]; rw [if_neg (by omega)]) (Ev.now y)
  | succ d ih =>
    intro j y hy hd
    refine Ev.step (f := fun k => laws_toIntS.l0 k l (y.set j (rd l (j : Int))) ((j + 1 : Nat) : Int)) (fun k => by simp only [laws_toIntS.l0]; rw [if_pos (by omega), if_pos (by omega), if_pos (by omega), wsucc (by omega)]; rfl) ?_
    refine ev_eq (ih (j + 1) _ (by simpa using hy) (by omega)) (copy_step (by omega) (by omega) ?_)
    rw [rd_nat, getD_eq (by omega), getD_eq (by omega)]
theorem toIntS_ev (l : List Int) (hl : l.length ≤ 1048576) : Ev (fun k => laws_toIntS.f k l) l := by
  refine Ev.congr (f := fun k => laws_toIntS.l0 k l (List.replicate l.length 0) ((0 : Nat) : Int)) (fun k => by simp only [laws_toIntS.f]; rw [if_pos (by omega), if_pos (by simp only [Int.toNat_natCast]; omega)]; rfl) ?_
  exact ev_eq (toIntS_l0 l hl l.length 0 _ (by simp) (by omega)) (by simp)

theorem toLasso_ev (l m : List Int) (hl : l.length ≤ 1048576) (hm : m.length ≤ 1048576) : Ev (fun k => laws_toLasso.f k l m) (l, m) :=
  Ev.bind (toIntS_ev l hl) (Ev.bind (toIntS_ev m hm) (Ev.now _))

theorem areLetters_tells (l : List Int) : Tells (fun _ => impl_areLetters.f l) (Letters l) := by
  have h1 : Tells (fun _ => anyO (fun x_ => impl_areLetters_1.f x_) l) (∃ x ∈ l, x < 0 ∨ 8 ≤ x) := by
    refine anyO_tells (q := fun _ x => impl_areLetters_1.f x) l (fun x _ => ?_)
    exact tells_if (fun h => tells_yes (.inl h)) (fun h => tells_some (by simp; omega))
  refine tells_ask h1 (fun ⟨x, hx, hp⟩ => tells_no (fun g => by have := g x hx; omega)) (fun h => tells_yes (fun x hx => ?_))
  rcases Int.lt_or_le x 0 with h2 | h2
  · exact absurd ⟨x, hx, .inl h2⟩ h
  · rcases Int.lt_or_le x 8 with h3 | h3
    · omega
    · exact absurd ⟨x, hx, .inr h3⟩ h

theorem impl_GoodLasso_tells (s l : List Int) : Tells (fun _ => impl_GoodLasso.f s l) (GL s l) := by
  refine tells_if (fun h => ?_) (fun h => tells_no (fun g => by have := g.1; omega))
  refine tells_if (fun h2 => ?_) (fun h2 => tells_no (fun g => by have := g.2.1; omega))
  refine tells_if (fun h3 => ?_) (fun h3 => tells_no (fun g => by have := g.2.2.1; omega))
  refine tells_ask (areLetters_tells s) (fun h4 => tells_pos rfl ?_) (fun h4 => tells_neg (by simp) (tells_no (fun g => h4 g.2.2.2.1)))
  exact tells_ask (areLetters_tells l) (fun h5 => tells_yes ⟨by omega, by omega, by omega, h4, h5⟩) (fun h5 => tells_no (fun g => h5 g.2.2.2.2))

theorem eqIntS_l0 (l : List Int) (hl : l.length ≤ 9223372036854775807) (d : Nat) : ∀ (j : Nat), j + d = l.length → Ev (fun k => laws_eqIntS.l0 k l l (j : Int)) true := by
  induction d with
  | zero => exact fun j hd => Ev.step (f := fun _ => some true) (fun k => by simp only [laws_eqIntS.l0]; rw [if_neg (by omega)]) (Ev.now _)
  | succ d ih => exact fun j hd => Ev.step (fun k => by simp only [laws_eqIntS.l0, if_true]; rw [if_pos (by omega), if_pos (by omega), if_pos (by omega), wsucc (by omega)]) (ih (j + 1) (by omega))
theorem eqIntS_ev (l : List Int) (hl : l.length ≤ 9223372036854775807) : Ev (fun k => laws_eqIntS.f k l l) true :=
  Ev.congr (fun k => by simp only [laws_eqIntS.f, if_true]; rfl) (eqIntS_l0 l hl l.length 0 (by omega))

theorem eqLasso_ev (l m : List Int) (hl : l.length ≤ 9223372036854775807) (hm : m.length ≤ 9223372036854775807) : Ev (fun k => laws_eqLasso.f k l m l m) true :=
  Ev.bind (eqIntS_ev l hl) (ev_pos rfl (Ev.bind (eqIntS_ev m hm) (ev_pos rfl (Ev.now _))))

theorem FnExactGoodLasso : ∀ (l0_0 : List (Int)) (l0_1 : List (Int)), (l0_0.length ≤ 9223372036854775807 ∧ ∀ x ∈ l0_0, In64 x) → (l0_1.length ≤ 9223372036854775807 ∧ ∀ x ∈ l0_1, In64 x) → ∃ k, laws_FnExactGoodLasso.f k l0_0 l0_1 = some true := by
  intro s l hs hl
  obtain ⟨t, ht, hp⟩ := szLasso_eq s l 1048576 (by omega) hs.1 hl.1
  refine Ev.rounds (Ev.bind (ev_const ht) ?_)
  by_cases h : t < 0
  · exact ev_pos h (Ev.now _)
  refine ev_neg h ?_
  obtain ⟨_, h1, h2⟩ := hp (by omega)
  obtain ⟨b, hb, hb'⟩ := tells_both (spec_GoodLasso_tells s l hs.1 hl.1) (impl_GoodLasso_tells s l)
  have ht := toLasso_ev s l (by omega) (by omega)
  refine Ev.bind ht (Ev.bind hb (Ev.bind ht (Ev.bind hb' (ev_neg (by simp) ?_))))
  exact Ev.bind ht (Ev.bind (eqLasso_ev s l hs.1 hl.1) (ev_pos rfl (Ev.now _)))

end Go.Proofs.Ytdaodonjikaalaa.Pure
