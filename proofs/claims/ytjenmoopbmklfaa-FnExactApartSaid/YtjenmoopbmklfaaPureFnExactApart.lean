/- The pure statement of the law FnExactApart: what the printed functions compute makes the law true, for every input. No condition. -/
import Derived.Test.YtjenmoopbmklfaaOpen
import Derived.Test.YtjenmoopbmklfaaAid
import Derived.Test.YtjenmoopbmklfaaMFnExactApart7
set_option linter.unusedVariables false
set_option linter.unusedSimpArgs false
namespace Go.Proofs.Ytjenmoopbmklfaa.Pure
open Go.RowKit Go.Proofs.YtjenmoopbmklfaaW.PrintWords Go.Proofs.Ytjenmoopbmklfaa.P Go.Proofs.Ytjenmoopbmklfaa.Hof Go.Proofs.Ytjenmoopbmklfaa.Open Go.Proofs.Ytjenmoopbmklfaa.Aid
-- LEMMAS
theorem szNodeS_eq (l : List S75) (n : Int) (hl : l.length ≤ 9223372036854775807) (h0 : 0 ≤ n) (h1 : n ≤ 1048576) : laws_szNodeS.f l n = some (if (l.length : Int) ≤ n then n - (l.length : Int) else -1) := by
 have e : wrap64 (n - (l.length : Int)) = n - l.length := wid (by omega) (by omega)
 simp only [laws_szNodeS.f]
 rw [e]
 by_cases h : (l.length : Int) ≤ n
 ·rw [if_neg (by omega), if_pos h]
 ·rw [if_pos (by omega), if_neg h]
theorem szNodeS_ev (l : List S75) (n : Int) (hl : l.length ≤ 9223372036854775807) (h0 : 0 ≤ n) (h1 : n ≤ 1048576) : ∃ t, Ev (fun _ => laws_szNodeS.f l n) t ∧ (0 ≤ t → t ≤ n ∧ l.length ≤ 1048576) := by
 refine ⟨_, ev_const (szNodeS_eq l n hl h0 h1), fun h => ?_⟩
 by_cases h2 : (l.length : Int) ≤ n
 ·rw [if_pos h2] at h ⊢; omega
 ·rw [if_neg h2] at h; omega
def cNode (x : S75) : S73 := ⟨x.f0, x.f1⟩
def cChange (x : S107) : S52 := ⟨x.f0, x.f1.map cNode⟩
def cCommand (x : S68) : S50 := ⟨x.f0.map cNode, x.f1.map cChange⟩
def BigCh (x : S107) : Prop := x.f1.length ≤ 9223372036854775807
def BigCo (x : S68) : Prop := x.f0.length ≤ 9223372036854775807 ∧ x.f1.length ≤ 9223372036854775807 ∧ ∀ y ∈ x.f1, BigCh y
def SmallCh (x : S107) : Prop := x.f1.length ≤ 1048576
def SmallCo (x : S68) : Prop := x.f0.length ≤ 1048576 ∧ x.f1.length ≤ 1048576 ∧ ∀ y ∈ x.f1, SmallCh y
theorem szChange_ev (x : S107) (hx : BigCh x) (a : Int) (h0 : 0 ≤ a) (h1 : a ≤ 1048576) : ∃ t, Ev (fun _ => laws_szChange.f x.f0 x.f1 a) t ∧ (0 ≤ t → t ≤ a ∧ SmallCh x) := by
 obtain ⟨t, ht, hp⟩ := szNodeS_ev x.f1 a hx h0 h1
 by_cases h : t < 0
 ·exact ⟨-1, Ev.bind ht (ev_pos h (Ev.now _)), fun h => by omega⟩
 ·exact ⟨t, Ev.bind ht (ev_neg h (Ev.now _)), hp⟩
theorem szChangeS_ev (l : List S107) (a : Int) (hl : l.length ≤ 9223372036854775807) (hx : ∀ x ∈ l, BigCh x) (h0 : 0 ≤ a) (h1 : a ≤ 1048576) : ∃ t, Ev (fun k => laws_szChangeS.f k l a) t ∧ (0 ≤ t → t ≤ a ∧ l.length ≤ 1048576 ∧ ∀ x ∈ l, SmallCh x) := by
 have e : wrap64 (a - (l.length : Int)) = a - l.length := wid (by omega) (by omega)
 have e1 : ∀ (j : Nat) (a : Int) (k : Nat), j < l.length → laws_szChangeS.l0 (k + 1) l a (j : Int) = ((laws_szChange.f (l.getD j z107).f0 (l.getD j z107).f1 a).bind fun t => if t < 0 then some (-1) else laws_szChangeS.l0 k l t ((j + 1 : Nat) : Int)) := fun j a k hj => by
  have er : rd_T107 l (j : Int) = l.getD j z107 := by simp [rd_T107]
  simp only [laws_szChangeS.l0]
  rw [if_pos (by omega), if_pos (by omega), wsucc (by omega), er]
 have hE : ∀ x ∈ l, ∀ a : Int, 0 ≤ a → a ≤ 1048576 → ∃ t, Ev (fun _ => laws_szChange.f x.f0 x.f1 a) t ∧ (0 ≤ t → t ≤ a ∧ SmallCh x) := fun x hx2 a h2 h3 => szChange_ev x (hx x hx2) a h2 h3
 have hL := sz_loop (α := S107) (fun _ x a => laws_szChange.f x.f0 x.f1 a) (fun k a j => laws_szChangeS.l0 k l a j) SmallCh l z107 hE
 have hL := hL (fun j a r hj he => Ev.step (fun k => e1 j a k hj) he)
 have hL := hL (fun a => Ev.step (f := fun _ => some a) (fun k => by simp only [laws_szChangeS.l0]; rw [if_neg (by omega)]) (Ev.now _))
 by_cases h : (l.length : Int) ≤ a
 ·obtain ⟨t, ht, hp⟩ := hL l.length 0 (a - l.length) (by omega) (by omega) (by omega)
  refine ⟨t, Ev.congr (fun k => by simp only [laws_szChangeS.f]; rw [e, if_neg (by omega)]; rfl) ht, fun h2 => ?_⟩
  obtain ⟨h3, h4⟩ := hp h2
  exact ⟨by omega, by omega, by simpa using h4⟩
 ·exact ⟨-1, Ev.congr (f := fun _ => some (-1)) (fun k => by simp only [laws_szChangeS.f]; rw [e, if_pos (by omega)]) (Ev.now _), fun h2 => by omega⟩
theorem szCommand_ev (x : S68) (hx : BigCo x) (a : Int) (h0 : 0 ≤ a) (h1 : a ≤ 1048576) : ∃ t, Ev (fun k => laws_szCommand.f k x.f0 x.f1 a) t ∧ (0 ≤ t → t ≤ a ∧ SmallCo x) := by
 obtain ⟨t, ht, hp⟩ := szNodeS_ev x.f0 a hx.1 h0 h1
 by_cases h : t < 0
 ·exact ⟨-1, Ev.bind ht (ev_pos h (Ev.now _)), fun h => by omega⟩
 ·obtain ⟨h2, h3⟩ := hp (by omega)
  obtain ⟨u, hu, hq⟩ := szChangeS_ev x.f1 t hx.2.1 hx.2.2 (by omega) (by omega)
  by_cases h4 : u < 0
  ·exact ⟨-1, Ev.bind ht (ev_neg h (Ev.bind hu (ev_pos h4 (Ev.now _)))), fun h => by omega⟩
  ·refine ⟨u, Ev.bind ht (ev_neg h (Ev.bind hu (ev_neg h4 (Ev.now _)))), fun h5 => ?_⟩
   obtain ⟨h6, h7, h8⟩ := hq h5
   exact ⟨by omega, h3, h7, h8⟩
theorem szCommandS_ev (l : List S68) (a : Int) (hl : l.length ≤ 9223372036854775807) (hx : ∀ x ∈ l, BigCo x) (h0 : 0 ≤ a) (h1 : a ≤ 1048576) : ∃ t, Ev (fun k => laws_szCommandS.f k l a) t ∧ (0 ≤ t → t ≤ a ∧ l.length ≤ 1048576 ∧ ∀ x ∈ l, SmallCo x) := by
 have e : wrap64 (a - (l.length : Int)) = a - l.length := wid (by omega) (by omega)
 have e1 : ∀ (j : Nat) (a : Int) (k : Nat), j < l.length → laws_szCommandS.l0 (k + 1) l a (j : Int) = ((laws_szCommand.f k (l.getD j z68).f0 (l.getD j z68).f1 a).bind fun t => if t < 0 then some (-1) else laws_szCommandS.l0 k l t ((j + 1 : Nat) : Int)) := fun j a k hj => by
  have er : rd_T68 l (j : Int) = l.getD j z68 := by simp [rd_T68]
  simp only [laws_szCommandS.l0]
  rw [if_pos (by omega), if_pos (by omega), wsucc (by omega), er]
 have hE : ∀ x ∈ l, ∀ a : Int, 0 ≤ a → a ≤ 1048576 → ∃ t, Ev (fun k => laws_szCommand.f k x.f0 x.f1 a) t ∧ (0 ≤ t → t ≤ a ∧ SmallCo x) := fun x hx2 a h2 h3 => szCommand_ev x (hx x hx2) a h2 h3
 have hL := sz_loop (α := S68) (fun k x a => laws_szCommand.f k x.f0 x.f1 a) (fun k a j => laws_szCommandS.l0 k l a j) SmallCo l z68 hE
 have hL := hL (fun j a r hj he => Ev.step (fun k => e1 j a k hj) he)
 have hL := hL (fun a => Ev.step (f := fun _ => some a) (fun k => by simp only [laws_szCommandS.l0]; rw [if_neg (by omega)]) (Ev.now _))
 by_cases h : (l.length : Int) ≤ a
 ·obtain ⟨t, ht, hp⟩ := hL l.length 0 (a - l.length) (by omega) (by omega) (by omega)
  refine ⟨t, Ev.congr (fun k => by simp only [laws_szCommandS.f]; rw [e, if_neg (by omega)]; rfl) ht, fun h2 => ?_⟩
  obtain ⟨h3, h4⟩ := hp h2
  exact ⟨by omega, by omega, by simpa using h4⟩
 ·exact ⟨-1, Ev.congr (f := fun _ => some (-1)) (fun k => by simp only [laws_szCommandS.f]; rw [e, if_pos (by omega)]) (Ev.now _), fun h2 => by omega⟩
theorem szProgram_ev (wi va : Int) (st : List S75) (co : List S68) (hs : st.length ≤ 9223372036854775807) (hc : co.length ≤ 9223372036854775807) (hx : ∀ x ∈ co, BigCo x) :
  ∃ t, Ev (fun k => laws_szProgram.f k wi va st co 1048576) t ∧ (0 ≤ t → t ≤ 1048576 ∧ st.length ≤ 1048576 ∧ co.length ≤ 1048576 ∧ ∀ x ∈ co, SmallCo x) := by
 obtain ⟨t, ht, hp⟩ := szNodeS_ev st 1048576 hs (by omega) (by omega)
 by_cases h : t < 0
 ·exact ⟨-1, Ev.bind ht (ev_pos h (Ev.now _)), fun h => by omega⟩
 ·obtain ⟨h2, h3⟩ := hp (by omega)
  obtain ⟨u, hu, hq⟩ := szCommandS_ev co t hc hx (by omega) (by omega)
  by_cases h4 : u < 0
  ·exact ⟨-1, Ev.bind ht (ev_neg h (Ev.bind hu (ev_pos h4 (Ev.now _)))), fun h => by omega⟩
  ·refine ⟨u, Ev.bind ht (ev_neg h (Ev.bind hu (ev_neg h4 (Ev.now _)))), fun h5 => ?_⟩
   obtain ⟨h6, h7, h8⟩ := hq h5
   exact ⟨by omega, h3, h7, h8⟩
theorem toNodeS_ev (l : List S75) (hl : l.length ≤ 1048576) : Ev (fun k => laws_toNodeS.f k l) (l.map cNode) := by
 refine Ev.congr (f := fun k => laws_toNodeS.l0 k l (List.replicate l.length z73) 0) (fun k => by simp only [laws_toNodeS.f]; rw [if_pos (by omega), if_pos (by simp only [Int.toNat_natCast]; omega)]; rfl) ?_
 exact copy_all (fun k y j => laws_toNodeS.l0 k l y j) l cNode z75 z73
  (fun j y r hj hy he => Ev.step (fun k => by simp only [laws_toNodeS.l0, laws_toNode.f, Option.bind_some]; rw [if_pos (by omega), if_pos (by omega), if_pos (by omega), wsucc (by omega), show rd_T75 l (j : Int) = l.getD j z75 by simp [rd_T75]]; rfl) he)
  (fun y hy => Ev.step (f := fun _ => some y) (fun k => by simp only [laws_toNodeS.l0]; rw [if_neg (by omega)]) (Ev.now _))
theorem toChangeS_ev (l : List S107) (hl : l.length ≤ 1048576) (hx : ∀ x ∈ l, SmallCh x) : Ev (fun k => laws_toChangeS.f k l) (l.map cChange) := by
 refine Ev.congr (f := fun k => laws_toChangeS.l0 k l (List.replicate l.length z52) 0) (fun k => by simp only [laws_toChangeS.f]; rw [if_pos (by omega), if_pos (by simp only [Int.toNat_natCast]; omega)]; rfl) ?_
 refine copy_all (fun k y j => laws_toChangeS.l0 k l y j) l cChange z107 z52 (fun j y r hj hy he => ?_) (fun y hy => Ev.step (f := fun _ => some y) (fun k => by simp only [laws_toChangeS.l0]; rw [if_neg (by omega)]) (Ev.now _))
 refine Ev.step (fun k => by simp only [laws_toChangeS.l0]; rw [if_pos (by omega), if_pos (by omega), wsucc (by omega), show rd_T107 l (j : Int) = l.getD j z107 by simp [rd_T107]]) ?_
 exact Ev.bind (Ev.bind (toNodeS_ev _ (hx _ (getD_mem hj _))) (Ev.now _)) (ev_pos (by omega) he)
theorem toCommandS_ev (l : List S68) (hl : l.length ≤ 1048576) (hx : ∀ x ∈ l, SmallCo x) : Ev (fun k => laws_toCommandS.f k l) (l.map cCommand) := by
 refine Ev.congr (f := fun k => laws_toCommandS.l0 k l (List.replicate l.length z50) 0) (fun k => by simp only [laws_toCommandS.f]; rw [if_pos (by omega), if_pos (by simp only [Int.toNat_natCast]; omega)]; rfl) ?_
 refine copy_all (fun k y j => laws_toCommandS.l0 k l y j) l cCommand z68 z50 (fun j y r hj hy he => ?_) (fun y hy => Ev.step (f := fun _ => some y) (fun k => by simp only [laws_toCommandS.l0]; rw [if_neg (by omega)]) (Ev.now _))
 refine Ev.step (fun k => by simp only [laws_toCommandS.l0]; rw [if_pos (by omega), if_pos (by omega), wsucc (by omega), show rd_T68 l (j : Int) = l.getD j z68 by simp [rd_T68]]) ?_
 obtain ⟨h1, h2, h3⟩ := hx _ (getD_mem hj z68)
 exact Ev.bind (Ev.bind (toNodeS_ev _ h1) (Ev.bind (toChangeS_ev _ h2 h3) (Ev.now _))) (ev_pos (by omega) he)
theorem toProgram_ev (wi va : Int) (st : List S75) (co : List S68) (h1 : st.length ≤ 1048576) (h2 : co.length ≤ 1048576) (h3 : ∀ x ∈ co, SmallCo x) : Ev (fun k => laws_toProgram.f k wi va st co) (wi, va, st.map cNode, co.map cCommand) :=
 Ev.bind (toNodeS_ev st h1) (Ev.bind (toCommandS_ev co h2 h3) (Ev.now _))
def OkCh (x : S52) : Prop := x.f1.length ≤ 1048576
def OkCo (x : S50) : Prop := x.f0.length ≤ 1048576 ∧ x.f1.length ≤ 1048576 ∧ ∀ y ∈ x.f1, OkCh y
theorem eqNodeS_ev (l : List S73) (hl : l.length ≤ 1048576) : Ev (fun k => laws_eqNodeS.f k l l) true :=
 ev_pos rfl (all_loop (fun k j => laws_eqNodeS.l0 k l l j) l.length (fun j hj he => Ev.step (fun k => by simp only [laws_eqNodeS.l0, laws_eqNode.f, if_true, Option.bind_some]; rw [if_pos (by omega), if_pos (by omega), if_pos (by omega), wsucc (by omega)]) he)
  (Ev.step (f := fun _ => some true) (fun k => by simp only [laws_eqNodeS.l0]; rw [if_neg (by omega)]) (Ev.now _)) l.length 0 (by omega))
theorem eqChangeS_ev (l : List S52) (hl : l.length ≤ 1048576) (hx : ∀ x ∈ l, OkCh x) : Ev (fun k => laws_eqChangeS.f k l l) true := by
 have e1 : ∀ (j : Nat) (k : Nat), j < l.length → laws_eqChangeS.l0 (k + 1) l l (j : Int) = ((laws_eqChange.f k (l.getD j z52).f0 (l.getD j z52).f1 (l.getD j z52).f0 (l.getD j z52).f1).bind fun t => if t = true then laws_eqChangeS.l0 k l l ((j + 1 : Nat) : Int) else some false) := fun j k hj => by
  have er : rd_T52 l (j : Int) = l.getD j z52 := by simp [rd_T52]
  simp only [laws_eqChangeS.l0]
  rw [if_pos (by omega), if_pos (by omega), if_pos (by omega), wsucc (by omega), er]
 have e2 : ∀ x : S52, OkCh x → Ev (fun k => laws_eqChange.f k x.f0 x.f1 x.f0 x.f1) true := fun x h => ev_pos rfl (Ev.bind (eqNodeS_ev x.f1 h) (ev_pos rfl (Ev.now _)))
 exact ev_pos rfl (all_loop (fun k j => laws_eqChangeS.l0 k l l j) l.length (fun j hj he => Ev.step (fun k => e1 j k hj) (Ev.bind (e2 _ (hx _ (getD_mem hj _))) (ev_pos rfl he)))
  (Ev.step (f := fun _ => some true) (fun k => by simp only [laws_eqChangeS.l0]; rw [if_neg (by omega)]) (Ev.now _)) l.length 0 (by omega))
theorem eqCommandS_ev (l : List S50) (hl : l.length ≤ 1048576) (hx : ∀ x ∈ l, OkCo x) : Ev (fun k => laws_eqCommandS.f k l l) true := by
 have e1 : ∀ (j : Nat) (k : Nat), j < l.length → laws_eqCommandS.l0 (k + 1) l l (j : Int) = ((laws_eqCommand.f k (l.getD j z50).f0 (l.getD j z50).f1 (l.getD j z50).f0 (l.getD j z50).f1).bind fun t => if t = true then laws_eqCommandS.l0 k l l ((j + 1 : Nat) : Int) else some false) := fun j k hj => by
  have er : rd_T50 l (j : Int) = l.getD j z50 := by simp [rd_T50]
  simp only [laws_eqCommandS.l0]
  rw [if_pos (by omega), if_pos (by omega), if_pos (by omega), wsucc (by omega), er]
 have e2 : ∀ x : S50, OkCo x → Ev (fun k => laws_eqCommand.f k x.f0 x.f1 x.f0 x.f1) true := fun x h => Ev.bind (eqNodeS_ev x.f0 h.1) (ev_pos rfl (Ev.bind (eqChangeS_ev x.f1 h.2.1 h.2.2) (ev_pos rfl (Ev.now _))))
 exact ev_pos rfl (all_loop (fun k j => laws_eqCommandS.l0 k l l j) l.length (fun j hj he => Ev.step (fun k => e1 j k hj) (Ev.bind (e2 _ (hx _ (getD_mem hj _))) (ev_pos rfl he)))
  (Ev.step (f := fun _ => some true) (fun k => by simp only [laws_eqCommandS.l0]; rw [if_neg (by omega)]) (Ev.now _)) l.length 0 (by omega))
theorem eqProgram_ev (wi va : Int) (st : List S73) (co : List S50) (h1 : st.length ≤ 1048576) (h2 : co.length ≤ 1048576) (h3 : ∀ x ∈ co, OkCo x) : Ev (fun k => laws_eqProgram.f k wi va st co wi va st co) true :=
 ev_pos rfl (ev_pos rfl (Ev.bind (eqNodeS_ev st h1) (ev_pos rfl (Ev.bind (eqCommandS_ev co h2 h3) (ev_pos rfl (Ev.now _))))))
theorem l1In_eq (n lo hi : Int) : spec_l1In.f n lo hi = some (decide (lo ≤ n ∧ n ≤ hi)) := by
 simp only [spec_l1In.f]
 by_cases h : n ≥ lo
 ·rw [if_pos h]; congr 1; simp; intro _; exact h
 ·rw [if_neg h]; congr 1; simp; intro h'; omega
theorem l1In_tells (n lo hi : Int) : Tells (fun _ => spec_l1In.f n lo hi) (lo ≤ n ∧ n ≤ hi) := by
 simp only [l1In_eq]; exact tells_some (by simp)
theorem l1Wide_eq (w : Int) : spec_l1Wide.f w = some (decide (1 ≤ w ∧ w ≤ 64)) := by
 unfold spec_l1Wide.f; rw [l1In_eq]; rfl
theorem wu (x : Int) : IntKind.u64.wrap x = x % 18446744073709551616 := IntKind.wrap_u64 x
theorem wu_in (x : Int) : 0 ≤ IntKind.u64.wrap x ∧ IntKind.u64.wrap x < 18446744073709551616 := by rw [wu]; omega
theorem two_pos (n : Nat) : (0 : Int) < 2 ^ n := Int.pow_pos (by decide)
theorem two_dvd {n : Nat} (h : n ≤ 64) : ((2 : Int) ^ n) ∣ 18446744073709551616 := ⟨2 ^ (64 - n), by rw [← Int.pow_add, show n + (64 - n) = 64 by omega]; rfl⟩
theorem two_le {n : Nat} (h : n ≤ 64) : ((2 : Int) ^ n) ≤ 18446744073709551616 := Int.le_of_dvd (by decide) (two_dvd h)
theorem two_nat (n : Nat) : ((2 ^ n : Nat) : Int) = (2 : Int) ^ n := by simp
theorem and_mask (a : Int) (n : Nat) (hn : n ≤ 64) (h0 : 0 ≤ a) (h1 : a < 18446744073709551616) : Go.bits .and .u64 a (2 ^ n - 1) = a % 2 ^ n := by
 obtain ⟨m, rfl⟩ := Int.eq_ofNat_of_zero_le h0
 have h2 : (2 ^ n : Nat) ≤ 18446744073709551616 := by have := two_le hn; rw [← two_nat] at this; omega
 have h3 : 0 < (2 ^ n : Nat) := Nat.two_pow_pos n
 rw [show (2 : Int) ^ n - 1 = ((2 ^ n - 1 : Nat) : Int) by rw [← two_nat]; omega, bits_and_u64_nat _ _ (by omega) (by omega), Nat.and_two_pow_sub_one_eq_mod, ← two_nat]
 rfl
theorem mask_pow : ∀ m : Nat, m < 65 → (18446744073709551615 : Nat) / 2 ^ (64 - m) = 2 ^ m - 1 := by decide
theorem shr_mask {w : Int} (h0 : 1 ≤ w) (h1 : w ≤ 64) : shr .u64 18446744073709551615 (wrap64 (64 - w)) = 2 ^ w.toNat - 1 := by
 rw [wid (by omega) (by omega)]
 have hb : IntKind.u64.bits = 64 := rfl
 simp only [shr, hb]
 rw [Nat.min_eq_left (by omega), show (64 - w).toNat = 64 - w.toNat by omega]
 have h := mask_pow w.toNat (by omega)
 have h3 : 0 < (2 ^ w.toNat : Nat) := Nat.two_pow_pos _
 rw [← two_nat, ← two_nat, show (18446744073709551615 : Int) = ((18446744073709551615 : Nat) : Int) by rfl, ← Int.natCast_ediv, h]
 omega
theorem cut_nat (a i : Nat) : (a % 2 ^ i) ||| (a &&& 2 ^ i) = a % 2 ^ (i + 1) := by
 apply Nat.eq_of_testBit_eq
 intro j
 rw [Nat.testBit_or, Nat.testBit_and, Nat.testBit_mod_two_pow, Nat.testBit_mod_two_pow, Nat.testBit_two_pow]
 by_cases h : i = j
 ·subst h; simp
 ·by_cases h2 : j < i
  ·simp [h, h2, show j < i + 1 by omega]
  ·simp [h, h2, show ¬ j < i + 1 by omega]
theorem mod_small {a : Nat} (ha : a < 18446744073709551616) {i : Nat} (h : 64 ≤ i) : a % 2 ^ i = a := by
 refine Nat.mod_eq_of_lt (Nat.lt_of_lt_of_le ha ?_)
 have := Nat.pow_le_pow_right (show 0 < 2 by decide) h
 exact this
theorem shl_one {i : Nat} (h : i < 64) : shl .u64 1 (i : Int) = ((2 ^ i : Nat) : Int) := by
 have hb : IntKind.u64.bits = 64 := rfl
 have h2 : (2 ^ i : Nat) < 18446744073709551616 := Nat.pow_lt_pow_right (by decide : 1 < 2) h
 simp only [shl, hb]
 rw [wu, Int.toNat_natCast, Nat.min_eq_left (by omega), ← two_nat, Int.one_mul]; exact Int.emod_eq_of_lt (Int.natCast_nonneg _) (Int.ofNat_lt.2 h2)
theorem shl_big {i : Nat} (h : 64 ≤ i) : shl .u64 1 (i : Int) = 0 := by
 have hb : IntKind.u64.bits = 64 := rfl
 simp only [shl, hb]
 rw [wu, Int.toNat_natCast, Nat.min_eq_right (by omega)]; rfl
theorem cut_step (a i : Nat) (ha : a < 18446744073709551616) : Go.bits .or .u64 ((a % 2 ^ i : Nat) : Int) (Go.bits .and .u64 (a : Int) (shl .u64 1 (i : Int))) = ((a % 2 ^ (i + 1) : Nat) : Int) := by
 have h1 : a % 2 ^ i ≤ a := Nat.mod_le _ _
 by_cases h : i < 64
 ·have h2 : (2 ^ i : Nat) < 18446744073709551616 := Nat.pow_lt_pow_right (by decide : 1 < 2) h
  have h3 : a &&& 2 ^ i ≤ a := Nat.and_le_left
  rw [shl_one h, bits_and_u64_nat _ _ ha h2, bits_or_u64_nat _ _ (by omega) (by omega), cut_nat]
 ·have e : Go.bits .and .u64 (a : Int) ((0 : Nat) : Int) = ((0 : Nat) : Int) := by rw [bits_and_u64_nat _ _ ha (by decide), Nat.and_zero]
  have e2 : Go.bits .or .u64 (a : Int) ((0 : Nat) : Int) = (a : Int) := by rw [bits_or_u64_nat _ _ ha (by decide), Nat.or_zero]
  rw [shl_big (by omega), mod_small ha (by omega), mod_small ha (by omega)]
  exact (congrArg _ e).trans e2
theorem not_nat (a : Nat) (ha : a < 18446744073709551616) : 18446744073709551615 ^^^ a = 18446744073709551615 - a := by
 rw [show 18446744073709551615 - a = 2 ^ 64 - (a + 1) by omega]
 apply Nat.eq_of_testBit_eq
 intro j
 rw [Nat.testBit_xor, Nat.testBit_two_pow_sub_succ (by omega), show (18446744073709551615 : Nat) = 2 ^ 64 - 1 by rfl, Nat.testBit_two_pow_sub_one]
 by_cases h : j < 64
 ·simp [h]
 ·have : a.testBit j = false := Nat.testBit_lt_two_pow (Nat.lt_of_lt_of_le ha (Nat.pow_le_pow_right (by decide : 0 < 2) (by omega : 64 ≤ j)))
  simp [h, this]
theorem not_word (a : Int) (h0 : 0 ≤ a) (h1 : a < 18446744073709551616) : Go.bits .xor .u64 18446744073709551615 a = 18446744073709551615 - a := by
 obtain ⟨m, rfl⟩ := Int.eq_ofNat_of_zero_le h0
 rw [show (18446744073709551615 : Int) = ((18446744073709551615 : Nat) : Int) by rfl, bits_xor_u64_nat _ _ (by decide) (by omega), not_nat m (by omega)]
 omega
def GW (w a : Int) : Prop := 1 ≤ w ∧ w ≤ 64 ∧ a < 2 ^ w.toNat
instance (w a : Int) : Decidable (GW w a) := by unfold GW; infer_instance
theorem GW.le {w a : Int} (h : GW w a) : a < 18446744073709551616 := by have := two_le (n := w.toNat) (by have := h.2.1; omega); have := h.2.2; omega
theorem mod_word (x : Int) {w : Int} (h : w ≤ 64) : x % 18446744073709551616 % 2 ^ w.toNat = x % 2 ^ w.toNat := Int.emod_emod_of_dvd _ (two_dvd (by omega))
def needMany (op : Int) : Nat := if op = 1 ∨ op = 2 ∨ op = 20 then 0 else if op = 13 ∨ op = 19 then 1 else if 3 ≤ op ∧ op ≤ 18 then 2 else 0
def needPart (op : Int) : Int := if op = 19 ∨ op = 17 ∨ op = 18 then 2 else 1
def needOwn (op : Int) : Int := if op = 20 ∨ op = 19 ∨ (14 ≤ op ∧ op ≤ 18) then 2 else if 1 ≤ op ∧ op ≤ 13 then 1 else 0
def NOk (wide vars : Int) (x : S73) : Prop := if x.f0 = 1 then GW wide x.f1 else if x.f0 = 2 then x.f1 < vars else if x.f0 = 20 then x.f1 ≤ 1 else x.f1 = 0
def fits (wide vars : Int) (x : S73) (s : List Int) : Prop := needOwn x.f0 ≠ 0 ∧ NOk wide vars x ∧ needMany x.f0 ≤ s.length ∧ ∀ y ∈ s.drop (s.length - needMany x.f0), y = needPart x.f0
def pile (x : S73) (s : List Int) : List Int := s.take (s.length - needMany x.f0) ++ [needOwn x.f0]
def Runs (wide vars : Int) : List S73 → List Int → List Int → Prop
 | [], s, r => s = r
 | x :: t, s, r => fits wide vars x s ∧ Runs wide vars t (pile x s) r
def TermOf (wide vars : Int) (t : List S73) (kind : Int) : Prop := (1 ≤ wide ∧ wide ≤ 64) ∧ (1 ≤ vars ∧ vars ≤ 4) ∧ (1 ≤ t.length ∧ t.length ≤ 48) ∧ Runs wide vars t [] [kind]
theorem needMany_le (op : Int) : needMany op ≤ 2 := by
 unfold needMany
 split
 ·omega
 ·split
  ·omega
  ·split <;> omega
theorem needOwn_in (op : Int) : 0 ≤ needOwn op ∧ needOwn op ≤ 2 := by
 unfold needOwn
 split
 ·omega
 ·split <;> omega
theorem pile_length (x : S73) (s : List Int) : (pile x s).length ≤ s.length + 1 := by unfold pile; simp
theorem Runs.uniq {wide vars : Int} : ∀ {t : List S73} {s r r' : List Int}, Runs wide vars t s r → Runs wide vars t s r' → r = r'
 | [], s, r, r', h, h' => h.symm.trans h'
 | x :: t, s, r, r', h, h' => Runs.uniq h.2 h'.2
theorem Runs.last {wide vars : Int} : ∀ {t : List S73} {s : List Int} {k : Int}, t ≠ [] → Runs wide vars t s [k] → k = needOwn (t.getD (t.length - 1) z73).f0
 | [], s, k, h, _ => absurd rfl h
 | [x], s, k, _, h => by
  have h2 : pile x s = [k] := h.2
  unfold pile at h2
  have h3 := congrArg List.getLast? h2
  simpa using h3.symm
 | x :: y :: t, s, k, _, h => by
  have h2 := Runs.last (t := y :: t) (by simp) h.2
  simpa using h2
theorem l2Need_ev (op : Int) : ∃ p, Ev (fun k => spec_l2Need.f k op) ((needMany op : Int), p, needOwn op) ∧ (0 < needMany op → p = needPart op) := by
 have j0 : ∀ b : Bool, b = decide (op = 1 ∨ op = 2) → ∃ p, Ev (fun k => spec_l2Need.j0 k op b) ((needMany op : Int), p, needOwn op) ∧ (0 < needMany op → p = needPart op) := fun b hb => by
  by_cases h1 : b = true
  ·have h2 : op = 1 ∨ op = 2 := by rw [hb] at h1; simpa using h1
   refine ⟨1, Ev.step (f := fun _ => some ((needMany op : Int), 1, needOwn op)) (fun k => ?_) (Ev.now _), fun h => ?_⟩
   ·simp only [spec_l2Need.j0]; rw [if_pos h1]; rcases h2 with rfl | rfl <;> rfl
   ·rcases h2 with rfl | rfl <;> simp [needMany] at h
  ·have h2 : ¬ (op = 1 ∨ op = 2) := by rw [hb] at h1; simpa using h1
   by_cases h20 : op = 20
   ·subst h20; exact ⟨2, Ev.step (f := fun _ => some (0, 2, 2)) (fun k => by simp [spec_l2Need.j0, h1]) (Ev.now _), fun h => by simp [needMany] at h⟩
   by_cases h13 : op = 13
   ·subst h13; exact ⟨1, Ev.step (f := fun _ => some (1, 1, 1)) (fun k => by simp [spec_l2Need.j0, h1]) (Ev.now _), fun _ => rfl⟩
   by_cases h19 : op = 19
   ·subst h19; exact ⟨2, Ev.step (f := fun _ => some (1, 2, 2)) (fun k => by simp [spec_l2Need.j0, h1]) (Ev.now _), fun _ => rfl⟩
   have e0 : ∀ k, spec_l2Need.j0 (k + 1) op b = (if decide (3 ≤ op ∧ op ≤ 12) = true then some (2, 1, 1) else if decide (14 ≤ op ∧ op ≤ 16) = true then some (2, 1, 2) else if op = 17 then some (2, 2, 2) else if op = 18 then some (2, 2, 2) else some (0, 0, 0)) := fun k => by
    simp only [spec_l2Need.j0, l1In_eq, Option.bind_some]; rw [if_neg h1, if_neg h20, if_neg h13, if_neg h19]
   simp only [decide_eq_true_eq] at e0
   by_cases a1 : 3 ≤ op ∧ op ≤ 12
   ·exact ⟨1, Ev.step (f := fun _ => some ((needMany op : Int), 1, needOwn op)) (fun k => by rw [e0, if_pos a1, needMany, needOwn, if_neg (by omega), if_neg (by omega), if_pos (by omega), if_neg (by omega), if_pos (by omega)]; rfl) (Ev.now _), fun _ => by rw [needPart, if_neg (by omega)]⟩
   by_cases a2 : 14 ≤ op ∧ op ≤ 16
   ·exact ⟨1, Ev.step (f := fun _ => some ((needMany op : Int), 1, needOwn op)) (fun k => by rw [e0, if_neg a1, if_pos a2, needMany, needOwn, if_neg (by omega), if_neg (by omega), if_pos (by omega), if_pos (by omega)]; rfl) (Ev.now _), fun _ => by rw [needPart, if_neg (by omega)]⟩
   by_cases a3 : op = 17
   ·subst a3; exact ⟨2, Ev.step (f := fun _ => some (2, 2, 2)) (fun k => by rw [e0, if_neg a1, if_neg a2, if_pos rfl]) (Ev.now _), fun _ => rfl⟩
   by_cases a4 : op = 18
   ·subst a4; exact ⟨2, Ev.step (f := fun _ => some (2, 2, 2)) (fun k => by rw [e0, if_neg a1, if_neg a2, if_neg a3, if_pos rfl]) (Ev.now _), fun _ => rfl⟩
   ·have e : needMany op = 0 := by rw [needMany, if_neg (by omega), if_neg (by omega), if_neg (by omega)]
    exact ⟨0, Ev.step (f := fun _ => some ((needMany op : Int), 0, needOwn op)) (fun k => by rw [e0, if_neg a1, if_neg a2, if_neg a3, if_neg a4, e, needOwn, if_neg (by omega), if_neg (by omega)]; rfl) (Ev.now _), fun h => by omega⟩
 by_cases h1 : op = 1
 ·obtain ⟨p, e1, e2⟩ := j0 true (by simp [h1])
  exact ⟨p, ev_pos h1 e1, e2⟩
 ·obtain ⟨p, e1, e2⟩ := j0 (op == 2) (by simp [h1]; rfl)
  exact ⟨p, ev_neg h1 e1, e2⟩
theorem l1Cut_l0 (a : Nat) (ha : a < 18446744073709551616) (w : Int) (hw : w ≤ 65) (d : Nat) : ∀ i : Nat, (i : Int) + d = max w 0 → Ev (fun k => spec_l1Cut.l0 k w (a : Int) ((a % 2 ^ i : Nat) : Int) (i : Int)) ((a % 2 ^ w.toNat : Nat) : Int) := by
 induction d with
 | zero =>
  intro i hi
  refine ev_eq (Ev.step (f := fun _ => some ((a % 2 ^ i : Nat) : Int)) (fun k => by simp only [spec_l1Cut.l0]; rw [if_neg (by omega)]) (Ev.now _)) ?_
  rw [show w.toNat = i by omega]
 | succ d ih =>
  intro i hi
  have e : IntKind.u64.wrap (i : Int) = (i : Int) := by rw [wu]; omega
  exact Ev.step (fun k => by simp only [spec_l1Cut.l0]; rw [if_pos (by omega), e, if_pos (by omega), cut_step a i ha, wsucc (by omega)]) (ih (i + 1) (by omega))
theorem l1Cut_ev (w a : Int) (hw : w ≤ 65) (h0 : 0 ≤ a) (h1 : a < 18446744073709551616) : Ev (fun k => spec_l1Cut.f k w a) (a % 2 ^ w.toNat) := by
 obtain ⟨m, rfl⟩ := Int.eq_ofNat_of_zero_le h0
 have := l1Cut_l0 m (by omega) w hw (max w 0).toNat 0 (by omega)
 rw [show m % 2 ^ 0 = 0 by simp [Nat.mod_one]] at this
 exact ev_eq this (by rw [← two_nat]; rfl)
theorem spec_GoodWord_tells (w a : Int) (h0 : 0 ≤ a) (h1 : a < 18446744073709551616) : Tells (fun k => spec_GoodWord.f k w a) (GW w a) := by
 refine tells_bind (ev_const (l1Wide_eq w)) ?_
 by_cases h : 1 ≤ w ∧ w ≤ 64
 ·refine tells_pos (by simpa using h) (tells_bind (l1Cut_ev w a (by omega) h0 h1) (tells_some ?_))
  have := two_pos w.toNat
  constructor
  ·intro g
   have g : a % 2 ^ w.toNat = a := by simpa using g
   exact ⟨h.1, h.2, by have := Int.emod_lt_of_pos a this; omega⟩
  ·intro g
   rw [Int.emod_eq_of_lt h0 g.2.2]; simp
 ·exact tells_neg (by simpa using h) (tells_no (fun g => h ⟨g.1, g.2.1⟩))
theorem l2N_tells (wide vars : Int) (hv : 1 ≤ vars ∧ vars ≤ 4) (x : S73) (hx : 0 ≤ x.f1 ∧ x.f1 < 18446744073709551616) : Tells (fun k => spec_l2N.f k wide vars x.f0 x.f1) (NOk wide vars x) := by
 unfold NOk
 refine tells_if (fun h => ?_) (fun h => tells_if (fun h2 => tells_some ?_) (fun h2 => tells_if (fun h3 => tells_some ?_) (fun h3 => tells_some ?_)))
 ·rw [if_pos h]; exact tells_ask (spec_GoodWord_tells wide x.f1 hx.1 hx.2) (fun g => tells_yes g) (fun g => tells_no g)
 ·rw [if_neg h, if_pos h2, wu, Int.emod_eq_of_lt (by omega) (by omega)]; simp
 ·rw [if_neg h, if_neg h2, if_pos h3]; simp; omega
 ·rw [if_neg h, if_neg h2, if_neg h3]; simp
def KindAns (wi va : Int) (l : List S73) (s : List Int) (r : Int) : Prop := Runs wi va l s [r] ∨ (r = 0 ∧ ∀ kd, ¬ Runs wi va l s [kd])
theorem l2Kind_l1 (wi va : Int) (t : List S73) (o p : Int) (j : Nat) (hj : j < 1000) : ∀ (m : Nat) (s : List Int), m ≤ s.length → s.length ≤ 1000 →
  ((∀ y ∈ s.drop (s.length - m), y = p) → ∀ r, Ev (fun k => spec_l2Kind.l0 k wi va (s.take (s.length - m) ++ [o]) t (t.length : Int) ((j + 1 : Nat) : Int)) r → Ev (fun k => spec_l2Kind.l1 k wi va s (m : Int) p o t (t.length : Int) (j : Int)) r)
  ∧ ((¬ ∀ y ∈ s.drop (s.length - m), y = p) → Ev (fun k => spec_l2Kind.l1 k wi va s (m : Int) p o t (t.length : Int) (j : Int)) 0)
 | 0, s, _, hs => by
  refine ⟨fun _ r h => ?_, fun h => absurd (fun y hy => by simp at hy) h⟩
  rw [Nat.sub_zero, List.take_length] at h
  exact Ev.step (fun k => by simp only [spec_l2Kind.l1]; rw [if_neg (by omega), if_pos (by omega), wsucc (by omega)]) h
 | m + 1, s, hm, hs => by
  rcases List.eq_nil_or_concat s with rfl | ⟨s', y, rfl⟩
  ·simp at hm
  simp only [List.concat_eq_append] at hm hs ⊢
  have hl : (s' ++ [y]).length = s'.length + 1 := by simp
  rw [hl] at hm hs ⊢
  obtain ⟨h1, h2⟩ := l2Kind_l1 wi va t o p j hj m s' (by omega) (by omega)
  have w : wrap64 (((s' ++ [y]).length : Int) - 1) = (s'.length : Int) := by rw [hl, wid (by omega) (by omega)]; omega
  have e0 : rd (s' ++ [y]) (s'.length : Int) = y := by rw [rd_nat]; simp [List.getD_eq_getElem?_getD]
  have e1 : ∀ k, spec_l2Kind.l1 (k + 1) wi va (s' ++ [y]) ((m + 1 : Nat) : Int) p o t (t.length : Int) (j : Int) = if y = p then spec_l2Kind.l1 k wi va s' (m : Int) p o t (t.length : Int) (j : Int) else some 0 := fun k => by
   simp only [spec_l2Kind.l1]
   rw [if_pos (by omega), w, if_pos (by omega), if_pos (by rw [hl]; omega), e0, if_pos (show (s'.length : Int) ≤ ((s' ++ [y]).length : Int) by rw [hl]; omega), Int.toNat_natCast, List.take_left, wid (x := ((m + 1 : Nat) : Int) - 1) (by omega) (by omega), show ((m + 1 : Nat) : Int) - 1 = (m : Int) by omega]
  have ed : (s' ++ [y]).drop (s'.length + 1 - (m + 1)) = s'.drop (s'.length - m) ++ [y] := by
   rw [show s'.length + 1 - (m + 1) = s'.length - m by omega, List.drop_append_of_le_length (by omega)]
  have et : (s' ++ [y]).take (s'.length + 1 - (m + 1)) = s'.take (s'.length - m) := by
   rw [show s'.length + 1 - (m + 1) = s'.length - m by omega, List.take_append_of_le_length (by omega)]
  rw [ed, et]
  refine ⟨fun h r hr => ?_, fun h => ?_⟩
  ·exact Ev.step e1 (ev_pos (h y (by simp)) (h1 (fun z hz => h z (by simp [hz])) r hr))
  ·by_cases hy : y = p
   ·refine Ev.step e1 (ev_pos hy (h2 (fun g => h (fun z hz => ?_))))
    rcases List.mem_append.1 hz with hz | hz
    ·exact g z hz
    ·rw [List.mem_singleton.1 hz]; exact hy
   ·exact Ev.step e1 (ev_neg hy (Ev.now _))
theorem l2Kind_l0 (wi va : Int) (hv : 1 ≤ va ∧ va ≤ 4) (t : List S73) (ht : t.length ≤ 48) (hx : ∀ x ∈ t, 0 ≤ x.f1 ∧ x.f1 < 18446744073709551616) (d : Nat) : ∀ (j : Nat) (s : List Int), j + d = t.length → s.length ≤ j →
  ∃ r, Ev (fun k => spec_l2Kind.l0 k wi va s t (t.length : Int) (j : Int)) r ∧ KindAns wi va (t.drop j) s r := by
 induction d with
 | zero =>
  intro j s hd hs
  rw [List.drop_of_length_le (by omega)]
  match s, hs with
  | [], _ => exact ⟨0, Ev.step (f := fun _ => some 0) (fun k => by simp only [spec_l2Kind.l0]; rw [if_neg (by omega), if_neg (by simp)]) (Ev.now _), .inr ⟨rfl, fun kd h => by simp [Runs] at h⟩⟩
  | [a], _ => exact ⟨a, Ev.step (f := fun _ => some a) (fun k => by simp only [spec_l2Kind.l0]; rw [if_neg (by omega), if_pos (by simp), if_pos (by simp)]; rfl) (Ev.now _), .inl rfl⟩
  | a :: b :: c, _ => exact ⟨0, Ev.step (f := fun _ => some 0) (fun k => by simp only [spec_l2Kind.l0]; rw [if_neg (by omega), if_neg (by simp; omega)]) (Ev.now _), .inr ⟨rfl, fun kd h => by simp [Runs] at h⟩⟩
 | succ d ih =>
  intro j s hd hs
  have hj : j < t.length := by omega
  have er : rd_T73 t (j : Int) = t.getD j z73 := by simp [rd_T73]
  have hm := hx _ (getD_mem hj z73)
  rw [drop_cons hj z73]
  generalize t.getD j z73 = x at er hm
  obtain ⟨p, hn, hp⟩ := l2Need_ev x.f0
  have hN := l2N_tells wi va hv x hm
  have h20 : ∀ (m p o : Int), Ev (fun k => spec_l2Kind.j2 k wi va s m p o t (t.length : Int) (j : Int) true) 0 := fun m p o => Ev.step (f := fun _ => some 0) (fun k => by simp only [spec_l2Kind.j2, if_true]) (Ev.now _)
  have bad : ¬ fits wi va x s → ∀ kd, ¬ Runs wi va (x :: t.drop (j + 1)) s [kd] := fun h kd g => h g.1
  have go : ∀ r, Ev (fun k => (spec_l2Need.f k x.f0).bind fun bt => (if bt.2.2 = 0 then (spec_l2Kind.j2 k wi va s bt.1 bt.2.1 bt.2.2 t (t.length : Int) (j : Int) true) else ((spec_l2N.f k wi va x.f0 x.f1).bind fun u => (if u = true then (spec_l2Kind.j2 k wi va s bt.1 bt.2.1 bt.2.2 t (t.length : Int) (j : Int) (decide ((s.length : Int) < bt.1))) else (spec_l2Kind.j2 k wi va s bt.1 bt.2.1 bt.2.2 t (t.length : Int) (j : Int) true))))) r → Ev (fun k => spec_l2Kind.l0 k wi va s t (t.length : Int) (j : Int)) r := fun r h =>
   Ev.step (fun k => by simp only [spec_l2Kind.l0]; rw [if_pos (by omega), if_pos (by omega), if_pos (by omega), er]) h
  by_cases c1 : needOwn x.f0 = 0
  ·exact ⟨0, go 0 (Ev.bind hn (ev_pos c1 (h20 _ _ _))), .inr ⟨rfl, bad (fun g => g.1 c1)⟩⟩
  by_cases c2 : NOk wi va x
  ·by_cases c3 : s.length < needMany x.f0
   ·refine ⟨0, go 0 (Ev.bind hn (ev_neg c1 (Ev.bind (tells_ev hN c2) (ev_pos rfl ?_)))), .inr ⟨rfl, bad (fun g => by have := g.2.2.1; omega)⟩⟩
    rw [show decide ((s.length : Int) < (needMany x.f0 : Int)) = true from decide_eq_true (by omega)]
    exact h20 _ _ _
   ·have e3 : decide ((s.length : Int) < (needMany x.f0 : Int)) = false := decide_eq_false (by omega)
    obtain ⟨h1, h2⟩ := l2Kind_l1 wi va t (needOwn x.f0) p j (by omega) (needMany x.f0) s (by omega) (by omega)
    have j2 : ∀ r, Ev (fun k => spec_l2Kind.l1 k wi va s (needMany x.f0 : Int) p (needOwn x.f0) t (t.length : Int) (j : Int)) r → Ev (fun k => spec_l2Kind.j2 k wi va s (needMany x.f0 : Int) p (needOwn x.f0) t (t.length : Int) (j : Int) (decide ((s.length : Int) < (needMany x.f0 : Int)))) r := fun r h => by
     rw [e3]
     exact Ev.step (fun k => by simp only [spec_l2Kind.j2]; rw [if_neg (by simp)]) h
    have hpp : (∀ y ∈ s.drop (s.length - needMany x.f0), y = p) ↔ ∀ y ∈ s.drop (s.length - needMany x.f0), y = needPart x.f0 := by
     rcases Nat.eq_zero_or_pos (needMany x.f0) with h0 | h0
     ·rw [h0]; simp
     ·rw [hp h0]
    by_cases c4 : ∀ y ∈ s.drop (s.length - needMany x.f0), y = p
    ·obtain ⟨r, hr, ha⟩ := ih (j + 1) (s.take (s.length - needMany x.f0) ++ [needOwn x.f0]) (by omega) (by simp; omega)
     have hf : fits wi va x s := ⟨c1, c2, by omega, hpp.1 c4⟩
     refine ⟨r, go r (Ev.bind hn (ev_neg c1 (Ev.bind (tells_ev hN c2) (ev_pos rfl (j2 r (h1 c4 r hr)))))), ?_⟩
     rcases ha with ha | ⟨ha, hb⟩
     ·exact .inl ⟨hf, ha⟩
     ·exact .inr ⟨ha, fun kd g => hb kd g.2⟩
    ·exact ⟨0, go 0 (Ev.bind hn (ev_neg c1 (Ev.bind (tells_ev hN c2) (ev_pos rfl (j2 0 (h2 c4)))))), .inr ⟨rfl, bad (fun g => c4 (hpp.2 g.2.2.2))⟩⟩
  ·exact ⟨0, go 0 (Ev.bind hn (ev_neg c1 (Ev.bind (tells_ev_not hN c2) (ev_neg (by simp) (h20 _ _ _))))), .inr ⟨rfl, bad (fun g => c2 g.2.1)⟩⟩
theorem l2Kind_ev (wi va : Int) (t : List S73) (hx : ∀ x ∈ t, 0 ≤ x.f1 ∧ x.f1 < 18446744073709551616) : ∃ r, Ev (fun k => spec_l2Kind.f k wi va t) r ∧ (TermOf wi va t r ∨ (r = 0 ∧ ∀ kd, ¬ TermOf wi va t kd)) := by
 have h0 : Ev (fun k => spec_l2Kind.j0 k wi va t true) 0 := Ev.step (f := fun _ => some 0) (fun k => by simp only [spec_l2Kind.j0, if_true]) (Ev.now _)
 by_cases c1 : 1 ≤ wi ∧ wi ≤ 64
 ·have e1 : spec_l1Wide.f wi = some true := by rw [l1Wide_eq, decide_eq_true c1]
  by_cases c2 : 1 ≤ va ∧ va ≤ 4
  ·have e2 : spec_l1In.f va 1 4 = some true := by rw [l1In_eq, decide_eq_true c2]
   by_cases c3 : 1 ≤ t.length ∧ t.length ≤ 48
   ·have e3 : spec_l1In.f (t.length : Int) 1 48 = some true := by rw [l1In_eq, decide_eq_true (by omega)]
    obtain ⟨r, hr, ha⟩ := l2Kind_l0 wi va c2 t c3.2 hx t.length 0 [] (by omega) (by simp)
    refine ⟨r, Ev.bind (ev_const e1) (ev_pos rfl (Ev.bind (ev_const e2) (ev_pos rfl (Ev.bind (ev_const e3) (Ev.step (fun k => by simp only [spec_l2Kind.j0]; rw [if_neg (by simp)]; rfl) hr))))), ?_⟩
    rcases ha with ha | ⟨ha, hb⟩
    ·exact .inl ⟨c1, c2, c3, ha⟩
    ·exact .inr ⟨ha, fun kd g => hb kd g.2.2.2⟩
   ·have e3 : spec_l1In.f (t.length : Int) 1 48 = some false := by rw [l1In_eq, decide_eq_false (by omega)]
    exact ⟨0, Ev.bind (ev_const e1) (ev_pos rfl (Ev.bind (ev_const e2) (ev_pos rfl (Ev.bind (ev_const e3) h0)))), .inr ⟨rfl, fun kd g => c3 g.2.2.1⟩⟩
  ·have e2 : spec_l1In.f va 1 4 = some false := by rw [l1In_eq, decide_eq_false c2]
   exact ⟨0, Ev.bind (ev_const e1) (ev_pos rfl (Ev.bind (ev_const e2) (ev_neg (by simp) h0))), .inr ⟨rfl, fun kd g => c2 g.2.1⟩⟩
 ·have e1 : spec_l1Wide.f wi = some false := by rw [l1Wide_eq, decide_eq_false c1]
  exact ⟨0, Ev.bind (ev_const e1) (ev_neg (by simp) h0), .inr ⟨rfl, fun kd g => c1 g.1⟩⟩
theorem l2Kind_is (wi va : Int) (t : List S73) (hx : ∀ x ∈ t, 0 ≤ x.f1 ∧ x.f1 < 18446744073709551616) : ∃ r, Ev (fun k => spec_l2Kind.f k wi va t) r ∧ ∀ kd, 1 ≤ kd → (r = kd ↔ TermOf wi va t kd) := by
 obtain ⟨r, hr, h⟩ := l2Kind_ev wi va t hx
 refine ⟨r, hr, fun kd hk => ?_⟩
 rcases h with h | ⟨rfl, h⟩
 ·refine ⟨fun e => e ▸ h, fun g => ?_⟩
  have := Runs.uniq h.2.2.2 g.2.2.2
  simpa using this
 ·exact ⟨fun e => by omega, fun g => absurd g (h kd)⟩
def Wd (t : List S73) : Prop := ∀ x ∈ t, 0 ≤ x.f1 ∧ x.f1 < 18446744073709551616
def ChangeOk (wi va : Int) (l : List S52) (i : Nat) : Prop := (0 ≤ (l.getD i z52).f0 ∧ (l.getD i z52).f0 ≤ va - 1) ∧ (0 < i → (l.getD (i - 1) z52).f0 < (l.getD i z52).f0) ∧ TermOf wi va (l.getD i z52).f1 1
def CommandOk (wi va : Int) (c : S50) : Prop := TermOf wi va c.f0 2 ∧ ∀ i, 0 ≤ i → i < c.f1.length → ChangeOk wi va c.f1 i
def GoodP (wi va : Int) (st : List S73) (co : List S50) : Prop := TermOf wi va st 2 ∧ (1 ≤ co.length ∧ co.length ≤ 6) ∧ ∀ c ∈ co, CommandOk wi va c
theorem changes_at {wi va : Int} {l : List S52} (h : ∀ i, 0 ≤ i → i < l.length → ChangeOk wi va l i) : ∀ i : Nat, i < l.length → (i : Int) ≤ (l.getD i z52).f0
 | 0, hi => (h 0 (Nat.le_refl 0) hi).1.1
 | i + 1, hi => by
  have h1 := changes_at h i (by omega)
  have h2 := (h (i + 1) (Nat.zero_le _) hi).2.1 (by omega)
  rw [Nat.add_sub_cancel] at h2
  omega
theorem changes_few {wi va : Int} {l : List S52} (hv : 0 ≤ va) (h : ∀ i, 0 ≤ i → i < l.length → ChangeOk wi va l i) : (l.length : Int) ≤ va := by
 rcases Nat.eq_zero_or_pos l.length with h0 | h0
 ·omega
 ·have h1 := changes_at h (l.length - 1) (by omega)
  have h2 := (h (l.length - 1) (Nat.zero_le _) (by omega)).1.2
  omega
theorem from_hereP {n j : Nat} {P : Nat → Prop} (hj : j < n) : (∀ i, j ≤ i → i < n → P i) ↔ P j ∧ ∀ i, j + 1 ≤ i → i < n → P i :=
 ⟨fun h => ⟨h j (Nat.le_refl _) hj, fun i h1 h2 => h i (by omega) h2⟩, fun ⟨h0, h⟩ i h1 h2 => by
  rcases Nat.eq_or_lt_of_le h1 with e | e
  ·exact e ▸ h0
  ·exact h i e h2⟩
theorem l7Asks_tells (wi va : Int) (st : List S73) (co : List S50) (t : List S73) (hx : Wd t) : Tells (fun k => spec_l7Asks.f k wi va st co t) (TermOf wi va t 2) := by
 obtain ⟨r, hr, h⟩ := l2Kind_is wi va t hx
 refine tells_bind hr (tells_some ?_)
 rw [beq_iff_eq]; exact h 2 (by omega)
theorem l7Command_l0 (wi va : Int) (hv : 1 ≤ va ∧ va ≤ 4) (st : List S73) (co : List S50) (w : List S73) (l : List S52) (hl : l.length ≤ 4) (hx : ∀ c ∈ l, Wd c.f1) (d : Nat) : ∀ (j : Nat), j + d = l.length →
  Tells (fun k => spec_l7Command.l0 k l (l.length : Int) (j : Int) wi va st co w l) (∀ i, j ≤ i → i < l.length → ChangeOk wi va l i) := by
 induction d with
 | zero =>
  intro j hd
  exact tells_step (f := fun _ => some true) (fun k => by simp only [spec_l7Command.l0]; rw [if_neg (by omega)]) (tells_yes (fun i h1 h2 => by omega))
 | succ d ih =>
  intro j hd
  have hj : j < l.length := by omega
  have er : rd_T52 l (j : Int) = l.getD j z52 := by simp [rd_T52]
  have ev : wrap64 (va - 1) = va - 1 := wid (by omega) (by omega)
  obtain ⟨r, hr, hk⟩ := l2Kind_is wi va (l.getD j z52).f1 (hx _ (getD_mem hj _))
  have hk1 := hk 1 (by omega)
  refine tells_step (fun k => by simp only [spec_l7Command.l0]; rw [if_pos (by omega), if_pos (by omega), if_pos (by omega), er, ev, wsucc (by omega)]) ?_
  rw [from_hereP hj]
  refine tells_ask (l1In_tells _ _ _) (fun h0 => tells_pos rfl ?_) (fun h0 => tells_neg (by simp) (tells_no (fun g => h0 g.1.1)))
  by_cases hz : j = 0
  ·subst hz
   refine tells_neg (by omega) (tells_bind hr (tells_if (fun h => ?_) (fun h => tells_no (fun g => h (hk1.2 g.1.2.2)))))
   exact tells_iff (ih 1 (by omega)) ⟨fun g => ⟨⟨h0, fun h => by omega, hk1.1 h⟩, g⟩, fun g => g.2⟩
  ·have w2 := wpred (j := j) (by omega) (by omega)
   have er2 : rd_T52 l ((j - 1 : Nat) : Int) = l.getD (j - 1) z52 := by simp [rd_T52]
   refine tells_pos (by omega) ?_
   refine tells_congr (fun k => by rw [w2, if_pos (by omega), if_pos (by omega), er2]) ?_
   refine tells_if (fun h => tells_no (fun g => by have := g.1.2.1 (by omega); omega)) (fun h1 => ?_)
   refine tells_bind hr (tells_if (fun h => ?_) (fun h => tells_no (fun g => h (hk1.2 g.1.2.2))))
   exact tells_iff (ih (j + 1) (by omega)) ⟨fun g => ⟨⟨h0, fun _ => by omega, hk1.1 h⟩, g⟩, fun g => g.2⟩
theorem l7Command_tells (wi va : Int) (st : List S73) (co : List S50) (c : S50) (h1 : Wd c.f0) (h2 : ∀ x ∈ c.f1, Wd x.f1) : Tells (fun k => spec_l7Command.f k wi va st co c.f0 c.f1) (CommandOk wi va c) := by
 have hno : ∀ {Q : Prop}, ¬ Q → Tells (fun k => spec_l7Command.j0 k true wi va st co c.f0 c.f1) Q := fun h => tells_step (f := fun _ => some false) (fun k => by simp only [spec_l7Command.j0, if_true]) (tells_no h)
 refine tells_ask (l7Asks_tells wi va st co c.f0 h1) (fun h => tells_pos rfl ?_) (fun h => tells_neg (by simp) (hno (fun g => h g.1)))
 have hv := h.2.1
 by_cases h4 : (c.f1.length : Int) > va
 ·exact tells_congr (fun k => by rw [decide_eq_true h4]) (hno (fun g => by have := changes_few (by omega) g.2; omega))
 ·refine tells_step (f := fun k => spec_l7Command.l0 k c.f1 (c.f1.length : Int) 0 wi va st co c.f0 c.f1) (fun k => by simp only [spec_l7Command.j0]; rw [if_neg (by simp; omega)]) ?_
  exact tells_iff (l7Command_l0 wi va hv st co c.f0 c.f1 (by omega) h2 c.f1.length 0 (by omega)) ⟨fun g => ⟨h, g⟩, fun g => g.2⟩
theorem spec_GoodProgram_l0 (wi va : Int) (st : List S73) (co : List S50) (hl : co.length ≤ 6) (hx : ∀ c ∈ co, Wd c.f0 ∧ ∀ x ∈ c.f1, Wd x.f1) (d : Nat) : ∀ (j : Nat), j + d = co.length →
  Tells (fun k => spec_GoodProgram.l0 k co (co.length : Int) (j : Int) wi va st co) (∀ c ∈ co.drop j, CommandOk wi va c) := by
 induction d with
 | zero =>
  intro j hd
  rw [List.drop_of_length_le (by omega)]
  exact tells_step (f := fun _ => some true) (fun k => by simp only [spec_GoodProgram.l0]; rw [if_neg (by omega)]) (tells_yes (fun c h => by simp at h))
 | succ d ih =>
  intro j hd
  have hj : j < co.length := by omega
  have er : rd_T50 co (j : Int) = co.getD j z50 := by simp [rd_T50]
  have hm := hx _ (getD_mem hj z50)
  rw [drop_cons hj z50]
  refine tells_step (fun k => by simp only [spec_GoodProgram.l0]; rw [if_pos (by omega), if_pos (by omega), if_pos (by omega), er, wsucc (by omega)]) ?_
  refine tells_ask (l7Command_tells wi va st co _ hm.1 hm.2) (fun h => tells_pos rfl ?_) (fun h => tells_neg (by simp) (tells_no (fun g => h (g _ (by simp)))))
  exact tells_iff (ih (j + 1) (by omega)) ⟨fun g c hc => by
   rcases List.mem_cons.1 hc with rfl | hc
   ·exact h
   ·exact g c hc, fun g c hc => g c (by simp [hc])⟩
theorem spec_GoodProgram_tells (wi va : Int) (st : List S73) (co : List S50) (hs : Wd st) (hx : ∀ c ∈ co, Wd c.f0 ∧ ∀ x ∈ c.f1, Wd x.f1) : Tells (fun k => spec_GoodProgram.f k wi va st co) (GoodP wi va st co) := by
 have hno : ∀ {Q : Prop}, ¬ Q → Tells (fun k => spec_GoodProgram.j0 k true wi va st co) Q := fun h => tells_step (f := fun _ => some false) (fun k => by simp only [spec_GoodProgram.j0, if_true]) (tells_no h)
 refine tells_ask (l7Asks_tells wi va st co st hs) (fun h => tells_pos rfl ?_) (fun h => tells_neg (by simp) (hno (fun g => h g.1)))
 refine tells_ask (l1In_tells _ _ _) (fun h1 => ?_) (fun h1 => hno (fun g => h1 (by have := g.2.1; omega)))
 refine tells_step (f := fun k => spec_GoodProgram.l0 k co (co.length : Int) 0 wi va st co) (fun k => by simp only [spec_GoodProgram.j0]; rw [if_neg (by simp)]) ?_
 exact tells_iff (spec_GoodProgram_l0 wi va st co (by omega) hx co.length 0 (by omega)) ⟨fun g => ⟨h, by omega, g⟩, fun g => g.2.2⟩
def Rise (l : List Int) : Prop := l.Pairwise (· < ·)
theorem rise_uniq : ∀ {a b : List Int}, Rise a → Rise b → (∀ x, x ∈ a ↔ x ∈ b) → a = b
 | [], [], _, _, _ => rfl
 | [], y :: t, _, _, h => by have := (h y).2 (by simp); simp at this
 | x :: s, [], _, _, h => by have := (h x).1 (by simp); simp at this
 | x :: s, y :: t, ha, hb, h => by
  obtain ⟨a1, a2⟩ := List.pairwise_cons.1 ha
  obtain ⟨b1, b2⟩ := List.pairwise_cons.1 hb
  have e : x = y := by
   rcases List.mem_cons.1 ((h x).1 (by simp)) with e | h1
   ·exact e
   ·rcases List.mem_cons.1 ((h y).2 (by simp)) with e | h2
    ·exact e.symm
    ·have := a1 y h2; have := b1 x h1; omega
  subst e
  congr 1
  refine rise_uniq a2 b2 (fun z => ⟨fun hz => ?_, fun hz => ?_⟩)
  ·rcases List.mem_cons.1 ((h z).1 (by simp [hz])) with e | h1
   ·have := a1 z hz; omega
   ·exact h1
  ·rcases List.mem_cons.1 ((h z).2 (by simp [hz])) with e | h1
   ·have := b1 z hz; omega
   ·exact h1
theorem rise_len : ∀ {l : List Int} {lo hi : Int}, Rise l → (∀ x ∈ l, lo ≤ x ∧ x < hi) → lo ≤ hi → (l.length : Int) ≤ hi - lo
 | [], _, _, _, _, h => by simp; omega
 | x :: t, lo, hi, hr, h, hl => by
  obtain ⟨h1, h2⟩ := List.pairwise_cons.1 hr
  have h3 := h x (by simp)
  have := rise_len (l := t) (lo := x + 1) (hi := hi) h2 (fun y hy => ⟨by have := h1 y hy; omega, (h y (by simp [hy])).2⟩) (by omega)
  simp only [List.length_cons]; omega
theorem rise_sub : ∀ {a b : List Int}, Rise a → Rise b → (∀ x ∈ a, x ∈ b) → a.length ≤ b.length ∧ (a.length = b.length → a = b)
 | [], b, _, _, _ => ⟨by simp, fun h => by cases b with | nil => rfl | cons _ _ => simp at h⟩
 | x :: s, [], _, _, h => by have := h x (by simp); simp at this
 | x :: s, y :: t, ha, hb, h => by
  obtain ⟨a1, a2⟩ := List.pairwise_cons.1 ha
  obtain ⟨b1, b2⟩ := List.pairwise_cons.1 hb
  rcases List.mem_cons.1 (h x (by simp)) with e | h1
  ·subst e
   obtain ⟨h2, h3⟩ := rise_sub a2 b2 (fun z hz => (List.mem_cons.1 (h z (by simp [hz]))).resolve_left (fun e => by have := a1 z hz; omega))
   exact ⟨by simp only [List.length_cons]; omega, fun e => by rw [h3 (by simpa using e)]⟩
  ·have h4 := b1 x h1
   obtain ⟨h2, h3⟩ := rise_sub ha b2 (fun z hz => (List.mem_cons.1 (h z hz)).resolve_left (fun e => by
    rcases List.mem_cons.1 hz with e2 | hz
    ·omega
    ·have := a1 z hz; omega))
   simp only [List.length_cons] at h2 ⊢
   exact ⟨by omega, fun e => by omega⟩
theorem compact_sorted {l : List Int} (hs : l.Pairwise (· ≤ ·)) : Rise (Go.Lib.compact l) ∧ ∀ x, x ∈ Go.Lib.compact l ↔ x ∈ l := by
 have at_ : ∀ j, j < l.length → l.toArray[j]! = l.getD j 0 := fun j hj => by
  rw [getElem!_pos _ j (by simpa using hj), getD_eq hj]; simp
 have mono : ∀ i j, i ≤ j → j < l.length → l.getD i 0 ≤ l.getD j 0 := fun i j h1 h2 => by
  rcases Nat.eq_or_lt_of_le h1 with e | e
  ·subst e; omega
  ·rw [getD_eq (by omega), getD_eq h2]
   exact List.pairwise_iff_getElem.1 hs i j (by omega) h2 e
 have keep : ∀ j, j < l.length → (Go.Lib.keeps l.toArray j = true ↔ j = 0 ∨ l.getD j 0 ≠ l.getD (j - 1) 0) := fun j hj => by
  unfold Go.Lib.keeps
  rw [decide_eq_true_iff, at_ j hj, at_ (j - 1) (by omega)]
 unfold Go.Lib.compact Go.Lib.compactUpTo
 refine ⟨List.pairwise_map.2 ?_, fun x => ⟨fun h => ?_, fun h => ?_⟩⟩
 ·have h1 : ((List.range l.length).filter (Go.Lib.keeps l.toArray)).Pairwise (· < ·) := List.Pairwise.filter _ List.pairwise_lt_range
  refine List.Pairwise.imp_of_mem (fun {a b} ha hb hab => ?_) h1
  obtain ⟨a1, _⟩ := List.mem_filter.1 ha
  obtain ⟨b1, b2⟩ := List.mem_filter.1 hb
  have a1 := List.mem_range.1 a1
  have b1 := List.mem_range.1 b1
  rw [at_ a a1, at_ b b1]
  have h2 := ((keep b b1).1 b2).resolve_left (by omega)
  have h3 := mono a (b - 1) (by omega) (by omega)
  have h4 := mono (b - 1) b (by omega) b1
  omega
 ·obtain ⟨j, hj, rfl⟩ := List.mem_map.1 h
  have hj := List.mem_range.1 (List.mem_filter.1 hj).1
  rw [at_ j hj]
  exact getD_mem hj 0
 ·obtain ⟨i, hi, rfl⟩ := List.getElem_of_mem h
  have least : ∀ (n i : Nat) (hi : i < l.length), i ≤ n → ∃ j, j < l.length ∧ l.getD j 0 = l.getD i 0 ∧ (j = 0 ∨ l.getD j 0 ≠ l.getD (j - 1) 0) := by
   intro n
   induction n with
   | zero => exact fun i hi h => ⟨i, hi, rfl, .inl (by omega)⟩
   | succ n ih =>
    intro i hi h
    by_cases h1 : i = 0 ∨ l.getD i 0 ≠ l.getD (i - 1) 0
    ·exact ⟨i, hi, rfl, h1⟩
    ·obtain ⟨j, h2, h3, h4⟩ := ih (i - 1) (by omega) (by omega)
     exact ⟨j, h2, by have : l.getD i 0 = l.getD (i - 1) 0 := Classical.byContradiction (fun g => h1 (.inr g)); omega, h4⟩
  obtain ⟨j, h2, h3, h4⟩ := least i i hi (Nat.le_refl _)
  refine List.mem_map.2 ⟨j, List.mem_filter.2 ⟨List.mem_range.2 h2, (keep j h2).2 h4⟩, ?_⟩
  rw [at_ j h2, h3, getD_eq hi]
theorem sort_compact (l : List Int) : Rise (Go.Lib.compact (l.mergeSort fun x y => decide (x ≤ y))) ∧ ∀ x, x ∈ Go.Lib.compact (l.mergeSort fun x y => decide (x ≤ y)) ↔ x ∈ l := by
 have hs : (l.mergeSort fun x y => decide (x ≤ y)).Pairwise (fun a b => decide (a ≤ b) = true) := List.pairwise_mergeSort (fun a b c h1 h2 => by simp only [decide_eq_true_eq] at *; omega) (fun a b => by simp only [Bool.or_eq_true, decide_eq_true_eq]; omega) l
 obtain ⟨h1, h2⟩ := compact_sorted (hs.imp (fun h => by simpa using h))
 exact ⟨h1, fun x => (h2 x).trans (List.mergeSort_perm l _).mem_iff⟩
def Rg (n : Nat) (l : List Int) : Prop := Rise l ∧ ∀ x ∈ l, 0 ≤ x ∧ x < (n : Int)
theorem Rg.len {n : Nat} {l : List Int} (h : Rg n l) : l.length ≤ n := by
 have := rise_len h.1 h.2 (by omega); omega
theorem Rg.nil (n : Nat) : Rg n [] := ⟨List.Pairwise.nil, by simp⟩
theorem Rg.uniq {n m : Nat} {a b : List Int} (h : Rg n a) (h' : Rg m b) (he : ∀ x, x ∈ a ↔ x ∈ b) : a = b := rise_uniq h.1 h'.1 he
theorem l1Put_l0 (l : List Int) (n : Int) (hr : Rise l) (hl : l.length ≤ 1048576) (d : Nat) : ∀ (j : Nat), j + d = l.length → (∀ i, i < j → l.getD i 0 < n) → ∃ r : List Int, Rise r ∧ (∀ x, x ∈ r ↔ x = n ∨ x ∈ l) ∧ Ev (fun k => spec_l1Put.l0 k l n (j : Int)) r := by
 have ins : ∀ j : Nat, j ≤ l.length → (∀ i, i < j → l.getD i 0 < n) → (∀ i, j ≤ i → i < l.length → n < l.getD i 0) → Rise (l.take j ++ [n] ++ l.drop j) ∧ ∀ x, x ∈ l.take j ++ [n] ++ l.drop j ↔ x = n ∨ x ∈ l := fun j hj h1 h2 => by
  refine ⟨?_, fun x => ?_⟩
  ·have t1 : ∀ x ∈ l.take j, x < n := fun x hx => by
    obtain ⟨i, hi, rfl⟩ := List.getElem_of_mem hx
    simp only [List.length_take] at hi
    have := h1 i (by omega)
    rw [getD_eq (by omega)] at this
    simpa using this
   have t2 : ∀ x ∈ l.drop j, n < x := fun x hx => by
    obtain ⟨i, hi, rfl⟩ := List.getElem_of_mem hx
    simp only [List.length_drop] at hi
    have := h2 (j + i) (by omega) (by omega)
    rw [getD_eq (by omega)] at this
    simpa using this
   refine List.pairwise_append.2 ⟨List.pairwise_append.2 ⟨List.Pairwise.sublist (List.take_sublist j l) hr, by simp, fun a ha b hb => by rw [List.mem_singleton.1 hb]; exact t1 a ha⟩, List.Pairwise.sublist (List.drop_sublist j l) hr, fun a ha b hb => ?_⟩
   have hb := t2 b hb
   rcases List.mem_append.1 ha with ha | ha
   ·have := t1 a ha; omega
   ·rw [List.mem_singleton.1 ha]; exact hb
  ·have : x ∈ l ↔ x ∈ l.take j ∨ x ∈ l.drop j := by rw [← List.mem_append, List.take_append_drop]
   simp only [List.mem_append, List.mem_singleton, this]
   constructor
   ·rintro ((h | h) | h)
    ·exact .inr (.inl h)
    ·exact .inl h
    ·exact .inr (.inr h)
   ·rintro (h | h | h)
    ·exact .inl (.inr h)
    ·exact .inl (.inl h)
    ·exact .inr h
 have tl : ∀ j : Nat, j ≤ l.length → (l.take j).length = j := fun j hj => by simp; omega
 have dl : ∀ j : Nat, (l.drop j).length = l.length - j := fun j => by simp
 induction d with
 | zero =>
  intro j hj h1
  obtain ⟨i1, i2⟩ := ins j (by omega) h1 (fun i h2 h3 => by omega)
  refine ⟨_, i1, i2, Ev.step (f := fun _ => some (l.take j ++ [n] ++ l.drop j)) (fun k => ?_) (Ev.now _)⟩
  simp only [spec_l1Put.l0, Option.bind_some, List.nil_append, List.length_nil, Int.toNat_natCast, List.length_append, List.length_singleton, tl j (by omega), dl]
  repeat (first | rw [if_pos (by omega)] | rw [if_neg (by omega)])
 | succ d ih =>
  intro j hj h1
  by_cases h2 : l.getD j 0 < n
  ·obtain ⟨r, r1, r2, r3⟩ := ih (j + 1) (by omega) (fun i hi => by
    rcases Nat.lt_or_ge i j with h3 | h3
    ·exact h1 i h3
    ·obtain rfl : i = j := by omega
     exact h2)
   exact ⟨r, r1, r2, Ev.step (fun k => by simp only [spec_l1Put.l0]; rw [if_pos (by omega), if_pos (by omega), rd_nat, if_pos h2, wsucc (by omega)]) r3⟩
  ·by_cases h3 : l.getD j 0 = n
   ·refine ⟨l, hr, fun x => ⟨fun h => .inr h, fun h => h.elim (fun e => by rw [e, ← h3]; exact getD_mem (by omega) 0) id⟩, Ev.step (f := fun _ => some l) (fun k => by simp only [spec_l1Put.l0]; rw [if_pos (by omega), if_pos (by omega), rd_nat, if_neg h2, if_pos h3]) (Ev.now _)⟩
   ·obtain ⟨i1, i2⟩ := ins j (by omega) h1 (fun i h4 h5 => by
     rcases Nat.eq_or_lt_of_le h4 with e | e
     ·subst e; omega
     ·have h6 := List.pairwise_iff_getElem.1 hr j i (by omega) h5 e
      rw [getD_eq (show j < l.length by omega)] at h2
      rw [getD_eq h5]; omega)
    refine ⟨_, i1, i2, Ev.step (f := fun _ => some (l.take j ++ [n] ++ l.drop j)) (fun k => ?_) (Ev.now _)⟩
    simp only [spec_l1Put.l0]
    rw [if_pos (by omega), if_pos (by omega), rd_nat, if_neg h2, if_neg h3]
    simp only [Option.bind_some, List.nil_append, List.length_nil, Int.toNat_natCast, List.length_append, List.length_singleton, tl j (by omega), dl]
    repeat (first | rw [if_pos (by omega)] | rw [if_neg (by omega)])
theorem l1Put_is (l : List Int) (n : Int) (hr : Rise l) (hl : l.length ≤ 1048576) : ∃ r : List Int, Rise r ∧ (∀ x, x ∈ r ↔ x = n ∨ x ∈ l) ∧ Ev (fun k => spec_l1Put.f k l n) r :=
 l1Put_l0 l n hr hl l.length 0 (by omega) (fun i hi => by omega)
theorem Rg.put {m : Nat} {l : List Int} {n : Int} (h : Rg m l) (hm : m ≤ 1048576) (h0 : 0 ≤ n) (h1 : n < (m : Int)) : ∃ r : List Int, Rg m r ∧ (∀ x, x ∈ r ↔ x = n ∨ x ∈ l) ∧ Ev (fun k => spec_l1Put.f k l n) r := by
 obtain ⟨r, r1, r2, r3⟩ := l1Put_is l n h.1 (by have := h.len; omega)
 refine ⟨r, ⟨r1, fun x hx => ?_⟩, r2, r3⟩
 rcases (r2 x).1 hx with rfl | h2
 ·exact ⟨h0, h1⟩
 ·exact h.2 x h2
theorem l1Has_l0 (l : List Int) (x : Int) (hl : l.length ≤ 9223372036854775807) (d : Nat) : ∀ (j : Nat), j + d = l.length → Tells (fun k => spec_l1Has.l0 k x l (l.length : Int) (j : Int)) (x ∈ l.drop j) := by
 induction d with
 | zero => exact fun j hj => tells_step (f := fun _ => some false) (fun k => by simp only [spec_l1Has.l0]; rw [if_neg (by omega)]) (tells_no (by rw [List.drop_of_length_le (by omega)]; simp))
 | succ d ih =>
  intro j hj
  refine tells_step (fun k => by simp only [spec_l1Has.l0]; rw [if_pos (by omega), if_pos (by omega), if_pos (by omega), rd_nat, wsucc (by omega)]) ?_
  rw [drop_cons (show j < l.length by omega) 0]
  exact tells_if (fun h => tells_yes (by rw [h]; simp)) (fun h => tells_iff (ih (j + 1) (by omega)) (by rw [List.mem_cons]; exact ⟨fun g => .inr g, fun g => g.resolve_left (fun e => h e.symm)⟩))
theorem l1Has_tells (l : List Int) (x : Int) (hl : l.length ≤ 9223372036854775807) : Tells (fun k => spec_l1Has.f k l x) (x ∈ l) := by
 have := l1Has_l0 l x hl l.length 0 (by omega)
 rwa [List.drop_zero] at this
theorem l7Meet_l0 (a b : List Int) (hb : b.length ≤ 9223372036854775807) (ha : a.length ≤ 9223372036854775807) (d : Nat) : ∀ (j : Nat), j + d = a.length → Tells (fun k => spec_l7Meet.l0 k b a (a.length : Int) (j : Int)) (∃ x ∈ a.drop j, x ∈ b) := by
 induction d with
 | zero => exact fun j hj => tells_step (f := fun _ => some false) (fun k => by simp only [spec_l7Meet.l0]; rw [if_neg (by omega)]) (tells_no (by rw [List.drop_of_length_le (by omega)]; simp))
 | succ d ih =>
  intro j hj
  refine tells_step (fun k => by simp only [spec_l7Meet.l0]; rw [if_pos (by omega), if_pos (by omega), if_pos (by omega), rd_nat, wsucc (by omega)]) ?_
  rw [drop_cons (show j < a.length by omega) 0]
  refine tells_ask (l1Has_tells b (a.getD j 0) hb) (fun h => tells_pos rfl (tells_yes ⟨_, List.mem_cons_self .., h⟩)) (fun h => tells_neg (by simp) (tells_iff (ih (j + 1) (by omega)) ⟨fun ⟨x, h1, h2⟩ => ⟨x, List.mem_cons_of_mem _ h1, h2⟩, fun ⟨x, h1, h2⟩ => ?_⟩))
  rcases List.mem_cons.1 h1 with rfl | h1
  ·exact absurd h2 h
  ·exact ⟨x, h1, h2⟩
theorem l7Meet_tells (a b : List Int) (hb : b.length ≤ 9223372036854775807) (ha : a.length ≤ 9223372036854775807) : Tells (fun k => spec_l7Meet.f k a b) (∃ x ∈ a, x ∈ b) := by
 have := l7Meet_l0 a b hb ha a.length 0 (by omega)
 rwa [List.drop_zero] at this
theorem isWide_eq (w : Int) : impl_isWide.f w = some (decide (1 ≤ w ∧ w ≤ 64)) := by
 unfold impl_isWide.f
 by_cases h : w ≥ 1
 ·rw [if_pos h]; simp [show (1 : Int) ≤ w by omega]
 ·rw [if_neg h]; simp [show ¬ (1 : Int) ≤ w by omega]
theorem operandsOf_ev (op : Int) : ∃ p, Ev (fun k => impl_operandsOf.f k op) ((needMany op : Int), p, needOwn op) ∧ (0 < needMany op → p = needPart op) := by
 have j2 : ∀ b : Bool, Ev (fun k => impl_operandsOf.j2 k op b) (if b = true then (2, 1, 2) else if op = 17 then (2, 2, 2) else if op = 18 then (2, 2, 2) else (0, 0, 0)) := fun b => by
  refine Ev.step (f := fun _ => some (if b = true then (2, 1, 2) else if op = 17 then (2, 2, 2) else if op = 18 then (2, 2, 2) else (0, 0, 0))) (fun k => ?_) (Ev.now _)
  simp only [impl_operandsOf.j2]
  by_cases c : b = true
  ·rw [if_pos c, if_pos c]
  ·by_cases c2 : op = 17
   ·rw [if_neg c, if_neg c, if_pos c2, if_pos c2]
   ·by_cases c3 : op = 18
    ·rw [if_neg c, if_neg c, if_neg c2, if_neg c2, if_pos c3, if_pos c3]
    ·rw [if_neg c, if_neg c, if_neg c2, if_neg c2, if_neg c3, if_neg c3]
 have j1 : ∀ b : Bool, Ev (fun k => impl_operandsOf.j1 k op b) (if b = true then (2, 1, 1) else if decide (14 ≤ op ∧ op ≤ 16) = true then (2, 1, 2) else if op = 17 then (2, 2, 2) else if op = 18 then (2, 2, 2) else (0, 0, 0)) := fun b => by
  by_cases hb : b = true
  ·rw [if_pos hb]; exact Ev.step (f := fun _ => some (2, 1, 1)) (fun k => by simp only [impl_operandsOf.j1]; rw [if_pos hb]) (Ev.now _)
  ·rw [if_neg hb]
   by_cases h : op ≥ 14
   ·refine ev_eq (Ev.step (fun k => by simp only [impl_operandsOf.j1]; rw [if_neg hb, if_pos h]) (j2 _)) ?_
    have : (op ≤ 16) ↔ (14 ≤ op ∧ op ≤ 16) := ⟨fun g => ⟨h, g⟩, fun g => g.2⟩
    rw [decide_eq_decide.2 this]
   ·refine ev_eq (Ev.step (fun k => by simp only [impl_operandsOf.j1]; rw [if_neg hb, if_neg h]) (j2 _)) ?_
    have : ¬ (14 ≤ op ∧ op ≤ 16) := by omega
    simp [this]
 have j0 : ∀ b : Bool, b = decide (op = 1 ∨ op = 2) → ∃ p, Ev (fun k => impl_operandsOf.j0 k op b) ((needMany op : Int), p, needOwn op) ∧ (0 < needMany op → p = needPart op) := fun b hb => by
  by_cases h1 : b = true
  ·have h2 : op = 1 ∨ op = 2 := by rw [hb] at h1; simpa using h1
   refine ⟨0, Ev.step (f := fun _ => some ((needMany op : Int), 0, needOwn op)) (fun k => ?_) (Ev.now _), fun h => ?_⟩
   ·simp only [impl_operandsOf.j0]; rw [if_pos h1]; rcases h2 with rfl | rfl <;> rfl
   ·rcases h2 with rfl | rfl <;> simp [needMany] at h
  ·have h2 : ¬ (op = 1 ∨ op = 2) := by rw [hb] at h1; simpa using h1
   by_cases h20 : op = 20
   ·subst h20; exact ⟨0, Ev.step (f := fun _ => some (0, 0, 2)) (fun k => by simp [impl_operandsOf.j0, h1]) (Ev.now _), fun h => by simp [needMany] at h⟩
   by_cases h13 : op = 13
   ·subst h13; exact ⟨1, Ev.step (f := fun _ => some (1, 1, 1)) (fun k => by simp [impl_operandsOf.j0, h1]) (Ev.now _), fun _ => rfl⟩
   by_cases h19 : op = 19
   ·subst h19; exact ⟨2, Ev.step (f := fun _ => some (1, 2, 2)) (fun k => by simp [impl_operandsOf.j0, h1]) (Ev.now _), fun _ => rfl⟩
   have key : ∃ p, (if decide (3 ≤ op ∧ op ≤ 12) = true then ((2 : Int), (1 : Int), (1 : Int)) else if decide (14 ≤ op ∧ op ≤ 16) = true then (2, 1, 2) else if op = 17 then (2, 2, 2) else if op = 18 then (2, 2, 2) else (0, 0, 0)) = ((needMany op : Int), p, needOwn op) ∧ (0 < needMany op → p = needPart op) := by
    simp only [decide_eq_true_eq]
    by_cases a1 : 3 ≤ op ∧ op ≤ 12
    ·exact ⟨1, by rw [if_pos a1, needMany, needOwn, if_neg (by omega), if_neg (by omega), if_pos (by omega), if_neg (by omega), if_pos (by omega)]; rfl, fun _ => by rw [needPart, if_neg (by omega)]⟩
    by_cases a2 : 14 ≤ op ∧ op ≤ 16
    ·exact ⟨1, by rw [if_neg a1, if_pos a2, needMany, needOwn, if_neg (by omega), if_neg (by omega), if_pos (by omega), if_pos (by omega)]; rfl, fun _ => by rw [needPart, if_neg (by omega)]⟩
    by_cases a3 : op = 17
    ·subst a3; exact ⟨2, rfl, fun _ => rfl⟩
    by_cases a4 : op = 18
    ·subst a4; exact ⟨2, rfl, fun _ => rfl⟩
    ·have e : needMany op = 0 := by rw [needMany, if_neg (by omega), if_neg (by omega), if_neg (by omega)]
     exact ⟨0, by rw [if_neg a1, if_neg a2, if_neg a3, if_neg a4, e, needOwn, if_neg (by omega), if_neg (by omega)]; rfl, fun h => by omega⟩
   obtain ⟨p, e1, e2⟩ := key
   refine ⟨p, ?_, e2⟩
   by_cases h3 : op ≥ 3
   ·refine Ev.step (fun k => by simp only [impl_operandsOf.j0]; rw [if_neg h1, if_neg h20, if_neg h13, if_neg h19, if_pos h3]) (ev_eq (j1 _) ?_)
    rw [← e1]
    have : (op ≤ 12) ↔ (3 ≤ op ∧ op ≤ 12) := ⟨fun g => ⟨h3, g⟩, fun g => g.2⟩
    rw [decide_eq_decide.2 this]
   ·refine Ev.step (fun k => by simp only [impl_operandsOf.j0]; rw [if_neg h1, if_neg h20, if_neg h13, if_neg h19, if_neg h3]) (ev_eq (j1 _) ?_)
    rw [← e1]
    have : ¬ (3 ≤ op ∧ op ≤ 12) := by omega
    simp [this]
 by_cases h1 : op = 1
 ·obtain ⟨p, e1, e2⟩ := j0 true (by simp [h1])
  exact ⟨p, ev_pos h1 e1, e2⟩
 ·obtain ⟨p, e1, e2⟩ := j0 (op == 2) (by simp [h1]; rfl)
  exact ⟨p, ev_neg h1 e1, e2⟩
theorem mask_eq {w : Int} (h0 : 1 ≤ w) (h1 : w ≤ 64) : impl_mask.f w = some (2 ^ w.toNat - 1) := by
 unfold impl_mask.f
 rw [if_pos (by rw [wid (by omega) (by omega)]; omega), shr_mask h0 h1]
theorem impl_GoodWord_eq (w a : Int) : impl_GoodWord.f w a = some (decide (GW w a)) := by
 unfold impl_GoodWord.f
 rw [isWide_eq, Option.bind_some]
 by_cases h : 1 ≤ w ∧ w ≤ 64
 ·rw [decide_eq_true h, if_pos rfl, mask_eq h.1 h.2, Option.bind_some]
  congr 1
  rw [decide_eq_decide]
  exact ⟨fun g => ⟨h.1, h.2, by omega⟩, fun g => by have := g.2.2; omega⟩
 ·rw [decide_eq_false h, if_neg (by simp), decide_eq_false (fun g => h ⟨g.1, g.2.1⟩)]
theorem isLeafRight_eq (wide vars : Int) (hv : 1 ≤ vars ∧ vars ≤ 4) (x : S73) : Tells (fun _ => impl_isLeafRight.f wide vars x.f0 x.f1) (NOk wide vars x) := by
 unfold NOk
 refine tells_if (fun h => ?_) (fun h => tells_if (fun h2 => tells_some ?_) (fun h2 => tells_if (fun h3 => tells_some ?_) (fun h3 => tells_some ?_)))
 ·rw [if_pos h]; exact tells_bind (ev_const (impl_GoodWord_eq wide x.f1)) (tells_some (by simp))
 ·rw [if_neg h, if_pos h2, wu, Int.emod_eq_of_lt (by omega) (by omega)]; simp
 ·rw [if_neg h, if_neg h2, if_pos h3]; simp
 ·rw [if_neg h, if_neg h2, if_neg h3]; simp
theorem isVars_tells (a : Int) : Tells (fun _ => impl_isVars.f a) (1 ≤ a ∧ a ≤ 4) := by
 simp only [impl_isVars.f]
 refine tells_if (fun h => tells_some ?_) (fun h => tells_no (fun g => h g.1))
 rw [decide_eq_true_iff]; omega
theorem isWide_tells' (a : Int) : Tells (fun _ => impl_isWide.f a) (1 ≤ a ∧ a ≤ 64) := by
 simp only [isWide_eq]; exact tells_some (by simp)
theorem GoodTerm_l0 (wi va : Int) (hv : 1 ≤ va ∧ va ≤ 4) (t : List S73) (ht : t.length ≤ 48) (d : Nat) : ∀ (j : Nat) (s : List Int), j + d = t.length → s.length ≤ j →
  Tells (fun k => impl_GoodTerm.l0 k wi va s t (t.length : Int) (j : Int)) (∃ kd, Runs wi va (t.drop j) s [kd]) := by
 induction d with
 | zero =>
  intro j s hd hs
  rw [List.drop_of_length_le (by omega)]
  refine tells_step (f := fun _ => some ((s.length : Int) == 1)) (fun k => by simp only [impl_GoodTerm.l0]; rw [if_neg (by omega)]) (tells_some ?_)
  rw [beq_iff_eq]
  constructor
  ·intro h
   obtain ⟨a, rfl⟩ := List.length_eq_one_iff.1 (show s.length = 1 by omega)
   exact ⟨a, rfl⟩
  ·rintro ⟨kd, h⟩
   have h : s = [kd] := h
   rw [h]; rfl
 | succ d ih =>
  intro j s hd hs
  have hj : j < t.length := by omega
  have er : rd_T73 t (j : Int) = t.getD j z73 := by simp [rd_T73]
  rw [drop_cons hj z73]
  generalize t.getD j z73 = x at er
  obtain ⟨p, hn, hp⟩ := operandsOf_ev x.f0
  have hm2 := needMany_le x.f0
  have hpp : (∀ y ∈ s.drop (s.length - needMany x.f0), y = p) ↔ ∀ y ∈ s.drop (s.length - needMany x.f0), y = needPart x.f0 := by
   rcases Nat.eq_zero_or_pos (needMany x.f0) with h0 | h0
   ·rw [h0]; simp
   ·rw [hp h0]
  refine tells_step (fun k => by simp only [impl_GoodTerm.l0]; rw [if_pos (by omega), if_pos (by omega), if_pos (by omega), er, wsucc (by omega)]) ?_
  refine tells_bind hn ?_
  refine tells_if (fun h => tells_no (fun ⟨kd, g⟩ => g.1.1 h)) (fun h1 => ?_)
  refine tells_ask (isLeafRight_eq wi va hv x) (fun h2 => tells_pos rfl ?_) (fun h2 => tells_neg (by simp) (tells_no (fun ⟨kd, g⟩ => h2 g.1.2.1)))
  have w : wrap64 ((s.length : Int) - (needMany x.f0 : Int)) = (s.length : Int) - (needMany x.f0 : Int) := wid (by omega) (by omega)
  refine tells_congr (fun k => by rw [w]) ?_
  refine tells_if (fun h => tells_no (fun ⟨kd, g⟩ => by have := g.1.2.2.1; omega)) (fun h3 => ?_)
  refine tells_pos (by omega) (tells_pos (by omega) ?_)
  have et : ((s.length : Int) - (needMany x.f0 : Int)).toNat = s.length - needMany x.f0 := by omega
  refine tells_congr (fun k => by rw [et]) ?_
  have hA : Tells (fun _ => slices_ContainsFunc_int_int_by_impl_GoodTerm_1.f (s.drop (s.length - needMany x.f0)) p) (∃ y ∈ s.drop (s.length - needMany x.f0), y ≠ p) := anyO_tells _ (fun y _ => tells_some (by simp))
  refine tells_ask hA (fun h4 => tells_pos rfl (tells_no ?_)) (fun h4 => tells_neg (by simp) ?_)
  ·obtain ⟨y, hy, hne⟩ := h4
   exact fun ⟨kd, g⟩ => hne (hpp.2 g.1.2.2.2 y hy)
  have hf : fits wi va x s := ⟨h1, h2, by omega, hpp.1 (fun y hy => Classical.byContradiction (fun g => h4 ⟨y, hy, g⟩))⟩
  refine tells_bind (Ev.now _) (tells_pos (by simp; omega) ?_)
  exact tells_iff (ih (j + 1) (s.take (s.length - needMany x.f0) ++ [needOwn x.f0]) (by omega) (by simp; omega)) ⟨fun ⟨kd, g⟩ => ⟨kd, ⟨hf, g⟩⟩, fun ⟨kd, g⟩ => ⟨kd, g.2⟩⟩
theorem GoodTerm_tells (wi va : Int) (t : List S73) : Tells (fun k => impl_GoodTerm.f k wi va t) (∃ kd, TermOf wi va t kd) := by
 have hno : ∀ {Q : Prop}, ¬ Q → Tells (fun k => impl_GoodTerm.j0 k wi va t true) Q := fun h => tells_step (f := fun _ => some false) (fun k => by simp only [impl_GoodTerm.j0, if_true]) (tells_no h)
 refine tells_ask (isWide_tells' wi) (fun h1 => tells_pos rfl ?_) (fun h1 => tells_neg (by simp) (hno (fun ⟨kd, g⟩ => h1 g.1)))
 refine tells_ask (isVars_tells va) (fun h2 => tells_pos rfl ?_) (fun h2 => tells_neg (by simp) (hno (fun ⟨kd, g⟩ => h2 g.2.1)))
 refine tells_if (fun h3 => hno (fun ⟨kd, g⟩ => by have := g.2.2.1; omega)) (fun h3 => ?_)
 by_cases h4 : (t.length : Int) > 48
 ·exact tells_congr (fun k => by rw [decide_eq_true h4]) (hno (fun ⟨kd, g⟩ => by have := g.2.2.1; omega))
 ·refine tells_step (f := fun k => impl_GoodTerm.l0 k wi va [] t (t.length : Int) 0) (fun k => by simp only [impl_GoodTerm.j0]; rw [if_neg (by simp; omega)]) ?_
  exact tells_iff (GoodTerm_l0 wi va h2 t (by omega) t.length 0 [] (by omega) (by simp)) ⟨fun ⟨kd, g⟩ => ⟨kd, h1, h2, by omega, g⟩, fun ⟨kd, g⟩ => ⟨kd, g.2.2.2⟩⟩
theorem kindOf_ev (t : List S73) (h1 : 1 ≤ t.length) (h2 : t.length ≤ 48) : Ev (fun k => impl_kindOf.f k t) (needOwn (t.getD (t.length - 1) z73).f0) := by
 have w : wrap64 ((t.length : Int) - 1) = ((t.length - 1 : Nat) : Int) := by rw [wid (by omega) (by omega)]; omega
 have er : rd_T73 t ((t.length - 1 : Nat) : Int) = t.getD (t.length - 1) z73 := by simp [rd_T73]
 obtain ⟨p, hn, _⟩ := operandsOf_ev (t.getD (t.length - 1) z73).f0
 refine Ev.congr (fun k => by simp only [impl_kindOf.f]; rw [w, if_pos (by omega), if_pos (by omega), er]) (Ev.bind hn (Ev.now _))
theorem isTermOf_tells (wi va : Int) (t : List S73) (kd : Int) : Tells (fun k => impl_isTermOf.f k wi va t kd) (TermOf wi va t kd) := by
 refine tells_ask (GoodTerm_tells wi va t) (fun ⟨kd', h⟩ => tells_pos rfl ?_) (fun h => tells_neg (by simp) (tells_no (fun g => h ⟨kd, g⟩)))
 have hne : t ≠ [] := fun e => by have := h.2.2.1.1; rw [e] at this; simp at this
 refine tells_bind (kindOf_ev t h.2.2.1.1 h.2.2.1.2) (tells_some ?_)
 rw [beq_iff_eq]
 have e1 := Runs.last hne h.2.2.2
 exact ⟨fun e => by rw [← e, ← e1]; exact h, fun g => (Runs.last hne g.2.2.2).symm⟩
theorem isCondition_tells (wi va : Int) (st : List S73) (co : List S50) (t : List S73) : Tells (fun k => impl_Program_isCondition.f k wi va st co t) (TermOf wi va t 2) := by
 obtain ⟨b, hb, e⟩ := isTermOf_tells wi va t 2
 exact ⟨b, Ev.bind hb (Ev.now _), e⟩
theorem isCommand_l0 (wi va : Int) (st : List S73) (co : List S50) (w : List S73) (l : List S52) (hl : l.length ≤ 9223372036854775807) (d : Nat) : ∀ (j : Nat), j + d = l.length →
  Tells (fun k => impl_Program_isCommand.l0 k l (l.length : Int) (j : Int) wi va st co w l) (∀ i, j ≤ i → i < l.length → ChangeOk wi va l i) := by
 induction d with
 | zero =>
  intro j hd
  exact tells_step (f := fun _ => some true) (fun k => by simp only [impl_Program_isCommand.l0]; rw [if_neg (by omega)]) (tells_yes (fun i h1 h2 => by omega))
 | succ d ih =>
  intro j hd
  have hj : j < l.length := by omega
  have er : rd_T52 l (j : Int) = l.getD j z52 := by simp [rd_T52]
  have hT := isTermOf_tells wi va (l.getD j z52).f1 1
  refine tells_step (fun k => by simp only [impl_Program_isCommand.l0]; rw [if_pos (by omega), if_pos (by omega), if_pos (by omega), er, wsucc (by omega)]) ?_
  rw [from_hereP hj]
  refine tells_if (fun h => tells_no (fun g => by have := g.1.1.1; omega)) (fun a1 => ?_)
  refine tells_if (fun h => tells_no (fun g => by have := g.1.1.2; omega)) (fun a2 => ?_)
  by_cases hz : j = 0
  ·subst hz
   refine tells_neg (by omega) (tells_ask hT (fun h => tells_pos rfl ?_) (fun h => tells_neg (by simp) (tells_no (fun g => h g.1.2.2))))
   exact tells_iff (ih 1 (by omega)) ⟨fun g => ⟨⟨by omega, fun h => by omega, h⟩, g⟩, fun g => g.2⟩
  ·have w2 := wpred (j := j) (by omega) (by omega)
   have er2 : rd_T52 l ((j - 1 : Nat) : Int) = l.getD (j - 1) z52 := by simp [rd_T52]
   refine tells_pos (by omega) ?_
   refine tells_congr (fun k => by rw [w2, if_pos (by omega), if_pos (by omega), er2]) ?_
   refine tells_if (fun h => tells_no (fun g => by have := g.1.2.1 (by omega); omega)) (fun h1 => ?_)
   refine tells_ask hT (fun h => tells_pos rfl ?_) (fun h => tells_neg (by simp) (tells_no (fun g => h g.1.2.2)))
   exact tells_iff (ih (j + 1) (by omega)) ⟨fun g => ⟨⟨by omega, fun _ => by omega, h⟩, g⟩, fun g => g.2⟩
theorem isCommand_tells (wi va : Int) (st : List S73) (co : List S50) (c : S50) (hl : c.f1.length ≤ 9223372036854775807) : Tells (fun k => impl_Program_isCommand.f k wi va st co c.f0 c.f1) (CommandOk wi va c) := by
 refine tells_ask (isCondition_tells wi va st co c.f0) (fun h => tells_pos rfl ?_) (fun h => tells_neg (by simp) (tells_no (fun g => h g.1)))
 exact tells_iff (isCommand_l0 wi va st co c.f0 c.f1 hl c.f1.length 0 (by omega)) ⟨fun g => ⟨h, g⟩, fun g => g.2⟩
theorem impl_GoodProgram_tells (wi va : Int) (st : List S73) (co : List S50) (hx : ∀ c ∈ co, c.f1.length ≤ 9223372036854775807) : Tells (fun k => impl_GoodProgram.f k wi va st co) (GoodP wi va st co) := by
 refine tells_ask (isWide_tells' wi) (fun h1 => tells_pos rfl ?_) (fun h1 => tells_neg (by simp) (tells_no (fun g => h1 g.1.1)))
 refine tells_ask (isVars_tells va) (fun h2 => tells_pos rfl ?_) (fun h2 => tells_neg (by simp) (tells_no (fun g => h2 g.1.2.1)))
 refine tells_ask (isCondition_tells wi va st co st) (fun h => tells_pos rfl ?_) (fun h => tells_neg (by simp) (tells_no (fun g => h g.1)))
 refine tells_if (fun h3 => tells_no (fun g => by have := g.2.1; omega)) (fun h3 => ?_)
 refine tells_if (fun h4 => tells_no (fun g => by have := g.2.1; omega)) (fun h4 => ?_)
 have hA : Tells (fun k => impl_Command_46_by_impl_GoodProgram_1.f k co wi va st co) (∃ c ∈ co, ¬ CommandOk wi va c) := anyO_tells co (fun c hc => tells_ask (isCommand_tells wi va st co c (hx c hc)) (fun h2 => tells_no (fun h3 => h3 h2)) (fun h2 => tells_yes h2))
 refine tells_ask hA (fun h5 => tells_no ?_) (fun h5 => tells_yes ⟨h, by omega, fun c hc => Classical.byContradiction (fun g => h5 ⟨c, hc, g⟩)⟩)
 obtain ⟨c, hc, h6⟩ := h5
 exact fun g => h6 (g.2.2 c hc)
abbrev srt (l : List Int) : List Int := Go.Lib.compact (l.mergeSort fun x y => decide (x ≤ y))
theorem srt_len (l : List Int) : (srt l).length ≤ l.length := by
 have h : ∀ m : List Int, (Go.Lib.compact m).length ≤ m.length := fun m => by
  unfold Go.Lib.compact Go.Lib.compactUpTo
  rw [List.length_map]
  exact Nat.le_trans (List.length_filter_le _ _) (by simp)
 have := h (l.mergeSort fun x y => decide (x ≤ y))
 rwa [List.length_mergeSort] at this
def RS (r l : List Int) : Prop := Rise r ∧ ∀ x, x ∈ r ↔ x ∈ l
theorem RS.srt (l : List Int) : RS (srt l) l := sort_compact l
theorem RS.uniq {a b l : List Int} (h : RS a l) (h' : RS b l) : a = b := rise_uniq h.1 h'.1 (fun x => (h.2 x).trans (h'.2 x).symm)
theorem RS.len {r l : List Int} (h : RS r l) : r.length ≤ l.length := by rw [h.uniq (RS.srt l)]; exact srt_len l
theorem RS.put {o l : List Int} (h : RS o l) (hl : l.length ≤ 1048576) (n : Int) : ∃ r, RS r (l ++ [n]) ∧ Ev (fun k => spec_l1Put.f k o n) r := by
 obtain ⟨r, r1, r2, r3⟩ := l1Put_is o n h.1 (Nat.le_trans h.len hl)
 exact ⟨r, ⟨r1, fun x => by rw [r2, h.2]; simp [or_comm]⟩, r3⟩
theorem srt_1 (l : List Int) (hl : l.length ≤ 1048576) : slices_Sort_int_int.f l = some (l.mergeSort fun x y => decide (x ≤ y)) := by rw [slices_Sort_int_int.f, if_pos (by omega)]
theorem srt_2 (l : List Int) (hl : l.length ≤ 1048576) : slices_Compact_int_int.f (l.mergeSort fun x y => decide (x ≤ y)) = some (srt l) := by rw [slices_Compact_int_int.f, if_pos (by rw [List.length_mergeSort]; omega)]
def vrs (t : List S73) : List Int := (t.filter (fun x => x.f0 == 2)).map (fun x => wrap64 x.f1)
theorem vrs_len (t : List S73) : (vrs t).length ≤ t.length := by unfold vrs; rw [List.length_map]; exact List.length_filter_le _ _
theorem vrs_yes {x : S73} {t : List S73} (h : x.f0 = 2) : vrs (x :: t) = wrap64 x.f1 :: vrs t := by simp [vrs, h]
theorem vrs_no {x : S73} {t : List S73} (h : ¬ x.f0 = 2) : vrs (x :: t) = vrs t := by simp [vrs, h]
theorem l2Vars_l0 (t : List S73) (ht : t.length ≤ 1000) (d : Nat) : ∀ (j : Nat) (o l : List Int), j + d = t.length → RS o l → l.length ≤ j → ∃ r, RS r (l ++ vrs (t.drop j)) ∧ Ev (fun k => spec_l2Vars.l0 k o t (t.length : Int) (j : Int)) r := by
 induction d with
 | zero =>
  intro j o l hj h hl
  refine ⟨o, ?_, Ev.step (f := fun _ => some o) (fun k => by simp only [spec_l2Vars.l0]; rw [if_neg (by omega)]) (Ev.now _)⟩
  rw [List.drop_of_length_le (by omega)]
  simpa [vrs] using h
 | succ d ih =>
  intro j o l hj h hl
  have er : rd_T73 t (j : Int) = t.getD j z73 := by simp [rd_T73]
  rw [drop_cons (show j < t.length by omega) z73]
  by_cases c : (t.getD j z73).f0 = 2
  ·obtain ⟨p, p1, p2⟩ := h.put (by omega) (wrap64 (t.getD j z73).f1)
   obtain ⟨r, r1, r2⟩ := ih (j + 1) p _ (by omega) p1 (by simp; omega)
   refine ⟨r, by rw [vrs_yes c]; simpa using r1, Ev.step (fun k => by simp only [spec_l2Vars.l0]; rw [if_pos (by omega), if_pos (by omega), if_pos (by omega), er, if_pos c, wsucc (by omega)]) ?_⟩
   exact Ev.bind p2 r2
  ·obtain ⟨r, r1, r2⟩ := ih (j + 1) o l (by omega) h (by omega)
   exact ⟨r, by rw [vrs_no c]; exact r1, Ev.step (fun k => by simp only [spec_l2Vars.l0]; rw [if_pos (by omega), if_pos (by omega), if_pos (by omega), er, if_neg c, wsucc (by omega)]) r2⟩
theorem l2Vars_is (t : List S73) (ht : t.length ≤ 1000) : Ev (fun k => spec_l2Vars.f k t) (srt (vrs t)) := by
 obtain ⟨r, r1, r2⟩ := l2Vars_l0 t ht t.length 0 [] [] (by omega) ⟨by simp [Rise], fun x => Iff.rfl⟩ (Nat.le_refl _)
 rw [List.nil_append, List.drop_zero] at r1
 rw [← r1.uniq (RS.srt _)]; exact r2
theorem varsIn_l0 (t : List S73) (ht : t.length ≤ 1000) (d : Nat) : ∀ (j : Nat) (o : List Int), j + d = t.length → o.length ≤ j → Ev (fun k => impl_varsIn.l0 k o t (t.length : Int) (j : Int)) (srt (o ++ vrs (t.drop j))) := by
 induction d with
 | zero =>
  intro j o hj hl
  have e : o ++ vrs (t.drop j) = o := by rw [List.drop_of_length_le (by omega)]; simp [vrs]
  rw [e]
  exact Ev.step (f := fun _ => some (srt o)) (fun k => by simp only [impl_varsIn.l0]; rw [if_neg (by omega), srt_1 o (by omega), Option.bind_some, srt_2 o (by omega), Option.bind_some]) (Ev.now _)
 | succ d ih =>
  intro j o hj hl
  have er : rd_T73 t (j : Int) = t.getD j z73 := by simp [rd_T73]
  rw [drop_cons (show j < t.length by omega) z73]
  by_cases c : (t.getD j z73).f0 = 2
  ·have r := ih (j + 1) (o ++ [wrap64 (t.getD j z73).f1]) (by omega) (by simp; omega)
   rw [List.append_assoc, List.singleton_append, ← vrs_yes c] at r
   exact Ev.step (fun k => by simp only [impl_varsIn.l0]; rw [if_pos (by omega), if_pos (by omega), if_pos (by omega), er, if_pos c, if_pos (by omega), wsucc (by omega)]) r
  ·have r := ih (j + 1) o (by omega) (by omega)
   rw [← vrs_no c] at r
   exact Ev.step (fun k => by simp only [impl_varsIn.l0]; rw [if_pos (by omega), if_pos (by omega), if_pos (by omega), er, if_neg c, wsucc (by omega)]) r
theorem varsIn_is (t : List S73) (ht : t.length ≤ 1000) : Ev (fun k => impl_varsIn.f k t) (srt (vrs t)) := by
 have h := varsIn_l0 t ht t.length 0 [] (by omega) (Nat.le_refl _)
 rwa [List.nil_append, List.drop_zero] at h
def allV (l : List S52) : List Int := l.flatMap (fun c => vrs c.f1)
theorem allV_cons (c : S52) (l : List S52) : allV (c :: l) = vrs c.f1 ++ allV l := by simp [allV]
theorem TouchedBy_s1 (x8 : List Int) (cs : List S52) (n : Int) (i : Nat) (hi : i ≤ 1000) (ws : List Int) (hw : ws.length ≤ 1000) (d : Nat) : ∀ (j : Nat) (o l : List Int), j + d = ws.length → RS o l → l.length ≤ 1000 + j → ∃ r, RS r (l ++ ws.drop j) ∧ ∀ q, Ev (fun k => spec_TouchedBy.l0 k r x8 cs n ((i + 1 : Nat) : Int)) q → Ev (fun k => spec_TouchedBy.l1 k o x8 cs n (i : Int) ws (ws.length : Int) (j : Int)) q := by
 induction d with
 | zero =>
  intro j o l hj h hl
  refine ⟨o, by rw [List.drop_of_length_le (by omega), List.append_nil]; exact h, fun q hq => Ev.step (fun k => by simp only [spec_TouchedBy.l1]; rw [if_neg (by omega), wsucc (by omega)]) hq⟩
 | succ d ih =>
  intro j o l hj h hl
  rw [drop_cons (show j < ws.length by omega) 0]
  obtain ⟨p, p1, p2⟩ := h.put (by omega) (ws.getD j 0)
  obtain ⟨r, r1, r2⟩ := ih (j + 1) p _ (by omega) p1 (by simp; omega)
  refine ⟨r, by simpa using r1, fun q hq => Ev.step (fun k => by simp only [spec_TouchedBy.l1]; rw [if_pos (by omega), if_pos (by omega), if_pos (by omega), rd_nat, wsucc (by omega)]) ?_⟩
  exact Ev.bind p2 (r2 q hq)
theorem TouchedBy_s0 (cs : List S52) (hc : cs.length ≤ 4) (ht : ∀ c ∈ cs, c.f1.length ≤ 48) (d : Nat) : ∀ (j : Nat) (o l ch : List Int), j + d = cs.length → RS o l → l.length ≤ 48 + 48 * j → ch.length ≤ j → ∃ r, RS r (l ++ allV (cs.drop j)) ∧ Ev (fun k => spec_TouchedBy.l0 k o ch cs (cs.length : Int) (j : Int)) (r, ch ++ (cs.drop j).map (fun c : S52 => c.f0), true) := by
 induction d with
 | zero =>
  intro j o l ch hj h hl hh
  rw [List.drop_of_length_le (by omega)]
  refine ⟨o, by simpa [allV] using h, ?_⟩
  rw [List.map_nil, List.append_nil]
  exact Ev.step (f := fun _ => some (o, ch, true)) (fun k => by simp only [spec_TouchedBy.l0]; rw [if_neg (by omega)]) (Ev.now _)
 | succ d ih =>
  intro j o l ch hj h hl hh
  have er : rd_T52 cs (j : Int) = cs.getD j z52 := by simp [rd_T52]
  have h48 := ht _ (getD_mem (show j < cs.length by omega) z52)
  have hv := vrs_len (cs.getD j z52).f1
  have hs := srt_len (vrs (cs.getD j z52).f1)
  rw [drop_cons (show j < cs.length by omega) z52]
  obtain ⟨p, p1, p2⟩ := TouchedBy_s1 (ch ++ [(cs.getD j z52).f0]) cs (cs.length : Int) j (by omega) (srt (vrs (cs.getD j z52).f1)) (by omega) _ 0 o l (Nat.zero_add _) h (by omega)
  rw [List.drop_zero] at p1
  have p3 : RS p (l ++ vrs (cs.getD j z52).f1) := ⟨p1.1, fun x => by rw [p1.2, List.mem_append, List.mem_append, (RS.srt _).2]⟩
  obtain ⟨r, r1, r2⟩ := ih (j + 1) p _ (ch ++ [(cs.getD j z52).f0]) (by omega) p3 (by rw [List.length_append]; omega) (by simp; omega)
  refine ⟨r, by rw [allV_cons]; simpa using r1, Ev.step (fun k => by simp only [spec_TouchedBy.l0]; rw [if_pos (by omega), if_pos (by omega), if_pos (by omega), if_pos (by omega), er]) ?_⟩
  refine Ev.bind (l2Vars_is _ (by omega)) ?_
  refine p2 _ ?_
  rw [List.append_assoc] at r2
  exact r2
theorem TouchedBy_i0 (cs : List S52) (hc : cs.length ≤ 4) (ht : ∀ c ∈ cs, c.f1.length ≤ 48) (d : Nat) : ∀ (j : Nat) (o ch : List Int), j + d = cs.length → o.length ≤ 48 + 48 * j → ch.length ≤ j → ∃ l : List Int, l.length ≤ 240 ∧ (∀ x, x ∈ l ↔ x ∈ o ++ allV (cs.drop j)) ∧ Ev (fun k => impl_TouchedBy.l0 k o ch cs (cs.length : Int) (j : Int)) (srt l, ch ++ (cs.drop j).map (fun c : S52 => c.f0), true) := by
 induction d with
 | zero =>
  intro j o ch hj hl hh
  rw [List.drop_of_length_le (by omega)]
  refine ⟨o, by omega, fun x => by simp [allV], ?_⟩
  rw [List.map_nil, List.append_nil]
  exact Ev.step (f := fun _ => some (srt o, ch, true)) (fun k => by simp only [impl_TouchedBy.l0]; rw [if_neg (by omega), srt_1 o (by omega), Option.bind_some, srt_2 o (by omega), Option.bind_some]) (Ev.now _)
 | succ d ih =>
  intro j o ch hj hl hh
  have er : rd_T52 cs (j : Int) = cs.getD j z52 := by simp [rd_T52]
  have h48 := ht _ (getD_mem (show j < cs.length by omega) z52)
  have hv := vrs_len (cs.getD j z52).f1
  have hs := srt_len (vrs (cs.getD j z52).f1)
  rw [drop_cons (show j < cs.length by omega) z52]
  obtain ⟨l, l1, l2, l3⟩ := ih (j + 1) (o ++ srt (vrs (cs.getD j z52).f1)) (ch ++ [(cs.getD j z52).f0]) (by omega) (by rw [List.length_append]; omega) (by simp; omega)
  refine ⟨l, l1, fun x => by rw [l2, allV_cons]; simp only [List.mem_append, (RS.srt _).2, or_assoc], Ev.step (fun k => by simp only [impl_TouchedBy.l0]; rw [if_pos (by omega), if_pos (by omega), if_pos (by omega), er, wsucc (by omega)]) ?_⟩
  refine Ev.bind (varsIn_is _ (by omega)) (ev_pos (by omega) ?_)
  refine Ev.bind (Ev.now _) (ev_pos (by simp; omega) ?_)
  rw [List.append_assoc] at l3
  exact l3
theorem TouchedBy_both (wi va : Int) (st : List S73) (co : List S50) (no : Int) (hst : Wd st) (hco : ∀ c ∈ co, Wd c.f0 ∧ ∀ x ∈ c.f1, Wd x.f1) (hcl : ∀ c ∈ co, c.f1.length ≤ 9223372036854775807) :
  ∃ r : List Int × List Int × Bool, r.1.length ≤ 240 ∧ r.2.1.length ≤ 4 ∧ Ev (fun k => spec_TouchedBy.f k wi va st co no) r ∧ Ev (fun k => impl_TouchedBy.f k wi va st co no) r := by
 have g1 := spec_GoodProgram_tells wi va st co hst hco
 have g2 := impl_GoodProgram_tells wi va st co hcl
 have n1 : Ev (fun k => spec_TouchedBy.j0 k no true wi va st co) ([], [], false) := Ev.step (f := fun _ => some ([], [], false)) (fun k => by simp only [spec_TouchedBy.j0, if_true]) (Ev.now _)
 have n2 : Ev (fun k => impl_TouchedBy.j0 k no true wi va st co) ([], [], false) := Ev.step (f := fun _ => some ([], [], false)) (fun k => by simp only [impl_TouchedBy.j0, if_true]) (Ev.now _)
 by_cases h : GoodP wi va st co
 ·have h6 := h.2.1
  have ew : wrap64 ((co.length : Int) - 1) = (co.length : Int) - 1 := wid (by omega) (by omega)
  have g3 := l1In_tells no 0 ((co.length : Int) - 1)
  by_cases h2 : 0 ≤ no ∧ no ≤ (co.length : Int) - 1
  ·obtain ⟨i, rfl⟩ := Int.eq_ofNat_of_zero_le h2.1
   have hi : i < co.length := by omega
   have er : rd_T50 co (i : Int) = co.getD i z50 := by simp [rd_T50]
   obtain ⟨w1, w2⟩ := h.2.2 _ (getD_mem hi z50)
   have hv := h.1.2.1
   have hf := changes_few (by omega) w2
   have h48 := w1.2.2.1.2
   have hc : (co.getD i z50).f1.length ≤ 4 := by omega
   have ht : ∀ c ∈ (co.getD i z50).f1, c.f1.length ≤ 48 := fun c hc => by
    obtain ⟨j, hj, rfl⟩ := List.getElem_of_mem hc
    have := (w2 j (Nat.zero_le _) hj).2.2.2.2.1.2
    rwa [getD_eq hj] at this
   have hv1 := vrs_len (co.getD i z50).f0
   have hs1 := srt_len (vrs (co.getD i z50).f0)
   obtain ⟨r, r1, r2⟩ := TouchedBy_s0 _ hc ht _ 0 (srt (vrs (co.getD i z50).f0)) _ [] (Nat.zero_add _) (RS.srt _) (by omega) (Nat.le_refl _)
   obtain ⟨l, l1, l2, l3⟩ := TouchedBy_i0 _ hc ht _ 0 (srt (vrs (co.getD i z50).f0)) [] (Nat.zero_add _) (by omega) (Nat.le_refl _)
   have e : r = srt l := rise_uniq r1.1 (RS.srt l).1 (fun x => by rw [r1.2, (RS.srt l).2, l2, List.mem_append, List.mem_append, (RS.srt _).2])
   subst e
   have hl := srt_len l
   refine ⟨(srt l, [] ++ ((co.getD i z50).f1.drop 0).map (fun c : S52 => c.f0), true), by show (srt l).length ≤ 240; omega, ?_, Ev.bind (tells_ev g1 h) (ev_pos rfl ?_), Ev.bind (tells_ev g2 h) (ev_pos rfl ?_)⟩
   rotate_left
   ·rw [ew]
    refine Ev.bind (tells_ev g3 h2) (Ev.step (fun k => by simp only [spec_TouchedBy.j0, Bool.not_true]; rw [if_neg (by simp), if_pos (by omega), if_pos (by omega), er]) ?_)
    exact Ev.bind (l2Vars_is _ (by omega)) r2
   ·have e2 : impl_Program_isCommandNo.f wi va st co (i : Int) = some true := by
     unfold impl_Program_isCommandNo.f
     rw [if_pos (by omega), decide_eq_true (by omega)]
    refine Ev.bind (ev_const e2) (Ev.step (fun k => by simp only [impl_TouchedBy.j0, Bool.not_true]; rw [if_neg (by simp), if_pos (by omega), if_pos (by omega), er]) ?_)
    exact Ev.bind (varsIn_is _ (by omega)) l3
   ·show ([] ++ ((co.getD i z50).f1.drop 0).map (fun c : S52 => c.f0)).length ≤ 4
    simpa using hc
  ·refine ⟨([], [], false), by simp, by simp, Ev.bind (tells_ev g1 h) (ev_pos rfl ?_), Ev.bind (tells_ev g2 h) (ev_pos rfl ?_)⟩
   ·rw [ew]; exact Ev.bind (tells_ev_not g3 h2) n1
   ·have e2 : impl_Program_isCommandNo.f wi va st co no = some false := by
     unfold impl_Program_isCommandNo.f
     by_cases h5 : no ≥ 0
     ·rw [if_pos h5, decide_eq_false (by omega)]
     ·rw [if_neg h5]
    exact Ev.bind (ev_const e2) n2
 ·exact ⟨([], [], false), by simp, by simp, Ev.bind (tells_ev_not g1 h) (ev_neg (by simp) n1), Ev.bind (tells_ev_not g2 h) (ev_neg (by simp) n2)⟩
theorem sIndex_l0 (l : List Int) (x : Int) (hl : l.length ≤ 9223372036854775807) (d : Nat) : ∀ (j : Nat), j + d = l.length → ∃ i, Ev (fun k => slices_Index_int_int.l0 k l x (l.length : Int) (j : Int)) i ∧ -1 ≤ i ∧ (0 ≤ i ↔ x ∈ l.drop j) := by
 induction d with
 | zero => exact fun j hj => ⟨-1, Ev.step (f := fun _ => some (-1)) (fun k => by simp only [slices_Index_int_int.l0]; rw [if_neg (by omega)]) (Ev.now _), by omega, by rw [List.drop_of_length_le (by omega)]; simp⟩
 | succ d ih =>
  intro j hj
  by_cases h : x = l.getD j 0
  ·exact ⟨j, Ev.step (f := fun _ => some (j : Int)) (fun k => by simp only [slices_Index_int_int.l0]; rw [if_pos (by omega), if_pos (by omega), if_pos (by omega), rd_nat, if_pos h]) (Ev.now _), by omega, by rw [drop_cons (by omega) 0, ← h]; simp⟩
  ·obtain ⟨i, e, h1, h2⟩ := ih (j + 1) (by omega)
   refine ⟨i, Ev.step (fun k => by simp only [slices_Index_int_int.l0]; rw [if_pos (by omega), if_pos (by omega), if_pos (by omega), rd_nat, if_neg h, wsucc (by omega)]) e, h1, h2.trans ?_⟩
   rw [drop_cons (show j < l.length by omega) 0, List.mem_cons]
   exact ⟨fun g => .inr g, fun g => g.resolve_left h⟩
theorem contains_tells (l : List Int) (x : Int) (hl : l.length ≤ 9223372036854775807) : Tells (fun k => slices_Contains_int_int.f k l x) (x ∈ l) := by
 obtain ⟨i, e, _, h⟩ := sIndex_l0 l x hl l.length 0 (by omega)
 refine tells_bind e (tells_some ?_)
 rw [decide_eq_true_iff, show (i ≥ 0) = (0 ≤ i) from rfl, h, List.drop_zero]
theorem meet_tells (a b : List Int) (hb : b.length ≤ 9223372036854775807) : Tells (fun k => impl_Apart_1.f k a b) (∃ x ∈ a, x ∈ b) := by
 have hA : Tells (fun k => slices_ContainsFunc_int_int_by_impl_Apart_1_1.f k a b) (∃ x ∈ a, x ∈ b) := anyO_tells a (fun x _ => tells_ask (contains_tells b x hb) (fun h => tells_yes h) (fun h => tells_no h))
 exact tells_ask hA (fun h => tells_yes h) (fun h => tells_no h)
theorem apart_j (a b c d : List Int) (ha : a.length ≤ 240) (hb : b.length ≤ 4) (hc : c.length ≤ 240) (hd : d.length ≤ 4) (n : Bool) : ∃ r : Bool × Bool, Ev (fun k => spec_Apart.j0 k a b c d n) r ∧ Ev (fun k => impl_Apart.j0 k a b c d n) r := by
 cases n with
 | true => exact ⟨(false, false), Ev.step (f := fun _ => some (false, false)) (fun k => by simp only [spec_Apart.j0, if_true]) (Ev.now _), Ev.step (f := fun _ => some (false, false)) (fun k => by simp only [impl_Apart.j0, if_true]) (Ev.now _)⟩
 | false =>
  have s1 := l7Meet_tells b c (by omega) (by omega)
  have s2 := l7Meet_tells b d (by omega) (by omega)
  have s3 := l7Meet_tells d a (by omega) (by omega)
  have i1 := meet_tells b c (by omega)
  have i2 := meet_tells b d (by omega)
  have i3 := meet_tells d a (by omega)
  have st : ∀ {r : Bool × Bool}, Ev (fun k => (spec_l7Meet.f k b c).bind fun t315 => (if t315 = true then (some (false, true)) else ((spec_l7Meet.f k b d).bind fun t316 => (if t316 = true then (some (false, true)) else ((spec_l7Meet.f k d a).bind fun t317 => (some (!t317, true))))))) r → Ev (fun k => spec_Apart.j0 k a b c d false) r := fun h => Ev.step (fun k => by rw [spec_Apart.j0, if_neg (by simp)]) h
  have it : ∀ {r : Bool × Bool}, Ev (fun k => (impl_Apart_1.f k b c).bind fun t315 => (if t315 = true then (some (false, true)) else ((impl_Apart_1.f k b d).bind fun t316 => (if t316 = true then (some (false, true)) else ((impl_Apart_1.f k d a).bind fun t317 => (some (!t317, true))))))) r → Ev (fun k => impl_Apart.j0 k a b c d false) r := fun h => Ev.step (fun k => by rw [impl_Apart.j0, if_neg (by simp)]) h
  by_cases h1 : ∃ x ∈ b, x ∈ c
  ·exact ⟨(false, true), st (Ev.bind (tells_ev s1 h1) (ev_pos rfl (Ev.now _))), it (Ev.bind (tells_ev i1 h1) (ev_pos rfl (Ev.now _)))⟩
  by_cases h2 : ∃ x ∈ b, x ∈ d
  ·exact ⟨(false, true), st (Ev.bind (tells_ev_not s1 h1) (ev_neg (by simp) (Ev.bind (tells_ev s2 h2) (ev_pos rfl (Ev.now _))))), it (Ev.bind (tells_ev_not i1 h1) (ev_neg (by simp) (Ev.bind (tells_ev i2 h2) (ev_pos rfl (Ev.now _)))))⟩
  by_cases h3 : ∃ x ∈ d, x ∈ a
  ·exact ⟨(!true, true), st (Ev.bind (tells_ev_not s1 h1) (ev_neg (by simp) (Ev.bind (tells_ev_not s2 h2) (ev_neg (by simp) (Ev.bind (tells_ev s3 h3) (Ev.now _)))))), it (Ev.bind (tells_ev_not i1 h1) (ev_neg (by simp) (Ev.bind (tells_ev_not i2 h2) (ev_neg (by simp) (Ev.bind (tells_ev i3 h3) (Ev.now _))))))⟩
  ·exact ⟨(!false, true), st (Ev.bind (tells_ev_not s1 h1) (ev_neg (by simp) (Ev.bind (tells_ev_not s2 h2) (ev_neg (by simp) (Ev.bind (tells_ev_not s3 h3) (Ev.now _)))))), it (Ev.bind (tells_ev_not i1 h1) (ev_neg (by simp) (Ev.bind (tells_ev_not i2 h2) (ev_neg (by simp) (Ev.bind (tells_ev_not i3 h3) (Ev.now _))))))⟩
theorem Apart_both (wi va : Int) (st : List S73) (co : List S50) (k m : Int) (hst : Wd st) (hco : ∀ c ∈ co, Wd c.f0 ∧ ∀ x ∈ c.f1, Wd x.f1) (hcl : ∀ c ∈ co, c.f1.length ≤ 9223372036854775807) :
  ∃ r : Bool × Bool, Ev (fun z => spec_Apart.f z wi va st co k m) r ∧ Ev (fun z => impl_Apart.f z wi va st co k m) r := by
 obtain ⟨⟨a, b, x⟩, p1, p2, p3, p4⟩ := TouchedBy_both wi va st co k hst hco hcl
 obtain ⟨⟨c, d, y⟩, q1, q2, q3, q4⟩ := TouchedBy_both wi va st co m hst hco hcl
 have p1 : a.length ≤ 240 := p1
 have p2 : b.length ≤ 4 := p2
 have q1 : c.length ≤ 240 := q1
 have q2 : d.length ≤ 4 := q2
 cases x with
 | true =>
  obtain ⟨r, r1, r2⟩ := apart_j a b c d p1 p2 q1 q2 (!y)
  exact ⟨r, Ev.bind p3 (Ev.bind q3 (ev_pos rfl r1)), Ev.bind p4 (Ev.bind q4 (ev_pos rfl r2))⟩
 | false =>
  obtain ⟨r, r1, r2⟩ := apart_j a b c d p1 p2 q1 q2 true
  exact ⟨r, Ev.bind p3 (Ev.bind q3 (ev_neg (by simp) r1)), Ev.bind p4 (Ev.bind q4 (ev_neg (by simp) r2))⟩
structure Come (st : List S75) (co : List S68) : Prop where
 s1 : st.length ≤ 1048576
 s2 : co.length ≤ 1048576
 s3 : ∀ x ∈ co, SmallCo x
 wst : Wd (st.map cNode)
 wco : ∀ c ∈ co.map cCommand, Wd c.f0 ∧ ∀ x ∈ c.f1, Wd x.f1
 ok : ∀ x ∈ co.map cCommand, OkCo x
theorem come_in {st : List S75} {co : List S68} (hst : st.length ≤ 9223372036854775807 ∧ ∀ x ∈ st, In64 x.f0 ∧ InU64 x.f1)
  (hco : co.length ≤ 9223372036854775807 ∧ ∀ x ∈ co, (x.f0.length ≤ 9223372036854775807 ∧ ∀ y ∈ x.f0, In64 y.f0 ∧ InU64 y.f1) ∧ (x.f1.length ≤ 9223372036854775807 ∧ ∀ y ∈ x.f1, In64 y.f0 ∧ (y.f1.length ≤ 9223372036854775807 ∧ ∀ z ∈ y.f1, In64 z.f0 ∧ InU64 z.f1)))
  (h1 : st.length ≤ 1048576) (h2 : co.length ≤ 1048576) (h3 : ∀ x ∈ co, SmallCo x) : Come st co := by
 have wd : ∀ l : List S75, (∀ y ∈ l, InU64 y.f1) → Wd (l.map cNode) := fun l hl x hx => by
  obtain ⟨y, hy, rfl⟩ := List.mem_map.1 hx
  have := hl y hy
  unfold InU64 at this
  simp only [cNode]; omega
 refine ⟨h1, h2, h3, wd st (fun y hy => (hst.2 y hy).2), fun x hx => ?_, fun x hx => ?_⟩
 ·obtain ⟨y, hy, rfl⟩ := List.mem_map.1 hx
  refine ⟨wd y.f0 (fun z hz => ((hco.2 y hy).1.2 z hz).2), fun z hz => ?_⟩
  obtain ⟨u, hu, rfl⟩ := List.mem_map.1 hz
  exact wd u.f1 (fun q hq => (((hco.2 y hy).2.2 u hu).2.2 q hq).2)
 ·obtain ⟨y, hy, rfl⟩ := List.mem_map.1 hx
  obtain ⟨g1, g2, g3⟩ := h3 y hy
  refine ⟨by simpa [cCommand] using g1, by simpa [cCommand] using g2, fun z hz => ?_⟩
  obtain ⟨u, hu, rfl⟩ := List.mem_map.1 hz
  have := g3 u hu
  unfold SmallCh at this
  simpa [OkCh, cChange] using this
theorem Come.few {st : List S75} {co : List S68} (h : Come st co) : ∀ c ∈ co.map cCommand, c.f1.length ≤ 9223372036854775807 := fun x hx => by have := (h.ok x hx).2.1; omega

theorem FnExactApart : ∀ (a0_0 : Int) (a0_1 : Int) (l0_2 : List (S75)) (l0_3 : List (S68)) (a1 : Int) (a2 : Int), (In64 a0_0) → (In64 a0_1) → (l0_2.length ≤ 9223372036854775807 ∧ ∀ x ∈ l0_2, (In64 x.f0) ∧ (InU64 x.f1)) → (l0_3.length ≤ 9223372036854775807 ∧ ∀ x ∈ l0_3, (x.f0.length ≤ 9223372036854775807 ∧ ∀ y ∈ x.f0, (In64 y.f0) ∧ (InU64 y.f1)) ∧ (x.f1.length ≤ 9223372036854775807 ∧ ∀ y ∈ x.f1, (In64 y.f0) ∧ (y.f1.length ≤ 9223372036854775807 ∧ ∀ x ∈ y.f1, (In64 x.f0) ∧ (InU64 x.f1)))) → (In64 a1) → (In64 a2) → ∃ k, laws_FnExactApart.Holds k a0_0 a0_1 l0_2 l0_3 a1 a2 := by
  intro wi va st co no no2 _ _ hst hco _ _
  obtain ⟨t, ht, hp⟩ := szProgram_ev wi va st co hst.1 hco.1 (fun x hx => ⟨(hco.2 x hx).1.1, (hco.2 x hx).2.1, fun y hy => ((hco.2 x hx).2.2 y hy).2.1⟩)
  by_cases h : t < 0
  · obtain ⟨k, hk⟩ := (ev_late ht).ex
    exact ⟨k, t, hk, .inl h⟩
  obtain ⟨_, h1, h2, h3⟩ := hp (by omega)
  have C := come_in hst hco h1 h2 h3
  obtain ⟨⟨b1, b2⟩, e1, e2⟩ := Apart_both wi va (st.map cNode) (co.map cCommand) no no2 C.wst C.wco C.few
  obtain ⟨k, a1, a2, a3, a4, a5⟩ := ((ev_late ht).and ((ev_late (toProgram_ev wi va st co h1 h2 h3)).and ((ev_late e1).and ((ev_late e2).and (ev_late (eqProgram_ev wi va (st.map cNode) (co.map cCommand) (by simpa using h1) (by simpa using h2) C.ok)))))).ex
  exact ⟨k, t, a1, .inr ⟨h, _, _, b1, b2, a2, a3, a4, a5⟩⟩

end Go.Proofs.Ytjenmoopbmklfaa.Pure
