
/- The pure statement of the law FnExactBackFrom: what the printed functions compute makes the law true, for every input. No condition. -/
import Derived.Test.YtngefmofelengaaGreatOpen
import Derived.Test.YtngefmofelengaaGreatAid
import Derived.Test.YtngefmofelengaaGreatMFnExactBackFrom5
set_option linter.unusedVariables false
set_option linter.unusedSimpArgs false
namespace Go.Proofs.YtngefmofelengaaGreat.Pure
open Go.RowKit Go.Proofs.YtngefmofelengaaGreatW.PrintWords Go.Proofs.YtngefmofelengaaGreat.P Go.Proofs.YtngefmofelengaaGreat.Hof Go.Proofs.YtngefmofelengaaGreat.Open Go.Proofs.YtngefmofelengaaGreat.Aid
-- LEMMAS
theorem szNodeS_eq (l : List S81) (n : Int) (hl : l.length ≤ 9223372036854775807) (h0 : 0 ≤ n) (h1 : n ≤ 1048576) : laws_szNodeS.f l n = some (if (l.length : Int) ≤ n then n - (l.length : Int) else -1) := by
 have e : wrap64 (n - (l.length : Int)) = n - l.length := wid (by omega) (by omega)
 simp only [laws_szNodeS.f]
 rw [e]
 by_cases h : (l.length : Int) ≤ n
 ·rw [if_neg (by omega), if_pos h]
 ·rw [if_pos (by omega), if_neg h]
theorem szNodeS_ev (l : List S81) (n : Int) (hl : l.length ≤ 9223372036854775807) (h0 : 0 ≤ n) (h1 : n ≤ 1048576) : ∃ t, Ev (fun _ => laws_szNodeS.f l n) t ∧ (0 ≤ t → t ≤ n ∧ l.length ≤ 1048576) := by
 refine ⟨_, ev_const (szNodeS_eq l n hl h0 h1), fun h => ?_⟩
 by_cases h2 : (l.length : Int) ≤ n
 ·rw [if_pos h2] at h ⊢; omega
 ·rw [if_neg h2] at h; omega
def cNode (x : S81) : S79 := ⟨x.f0, x.f1⟩
def cChange (x : S142) : S124 := ⟨x.f0, x.f1.map cNode⟩
def cCommand (x : S104) : S95 := ⟨x.f0.map cNode, x.f1.map cChange⟩
def BigCh (x : S142) : Prop := x.f1.length ≤ 9223372036854775807
def BigCo (x : S104) : Prop := x.f0.length ≤ 9223372036854775807 ∧ x.f1.length ≤ 9223372036854775807 ∧ ∀ y ∈ x.f1, BigCh y
def SmallCh (x : S142) : Prop := x.f1.length ≤ 1048576
def SmallCo (x : S104) : Prop := x.f0.length ≤ 1048576 ∧ x.f1.length ≤ 1048576 ∧ ∀ y ∈ x.f1, SmallCh y
theorem szChange_ev (x : S142) (hx : BigCh x) (a : Int) (h0 : 0 ≤ a) (h1 : a ≤ 1048576) : ∃ t, Ev (fun _ => laws_szChange.f x.f0 x.f1 a) t ∧ (0 ≤ t → t ≤ a ∧ SmallCh x) := by
 obtain ⟨t, ht, hp⟩ := szNodeS_ev x.f1 a hx h0 h1
 by_cases h : t < 0
 ·exact ⟨-1, Ev.bind ht (ev_pos h (Ev.now _)), fun h => by omega⟩
 ·exact ⟨t, Ev.bind ht (ev_neg h (Ev.now _)), hp⟩
theorem szChangeS_ev (l : List S142) (a : Int) (hl : l.length ≤ 9223372036854775807) (hx : ∀ x ∈ l, BigCh x) (h0 : 0 ≤ a) (h1 : a ≤ 1048576) : ∃ t, Ev (fun k => laws_szChangeS.f k l a) t ∧ (0 ≤ t → t ≤ a ∧ l.length ≤ 1048576 ∧ ∀ x ∈ l, SmallCh x) := by
 have e : wrap64 (a - (l.length : Int)) = a - l.length := wid (by omega) (by omega)
 have e1 : ∀ (j : Nat) (a : Int) (k : Nat), j < l.length → laws_szChangeS.l0 (k + 1) l a (j : Int) = ((laws_szChange.f (l.getD j z142).f0 (l.getD j z142).f1 a).bind fun t => if t < 0 then some (-1) else laws_szChangeS.l0 k l t ((j + 1 : Nat) : Int)) := fun j a k hj => by
  have er : rd_T142 l (j : Int) = l.getD j z142 := by simp [rd_T142]
  simp only [laws_szChangeS.l0]
  rw [if_pos (by omega), if_pos (by omega), wsucc (by omega), er]
 have hE : ∀ x ∈ l, ∀ a : Int, 0 ≤ a → a ≤ 1048576 → ∃ t, Ev (fun _ => laws_szChange.f x.f0 x.f1 a) t ∧ (0 ≤ t → t ≤ a ∧ SmallCh x) := fun x hx2 a h2 h3 => szChange_ev x (hx x hx2) a h2 h3
 have hL := sz_loop (α := S142) (fun _ x a => laws_szChange.f x.f0 x.f1 a) (fun k a j => laws_szChangeS.l0 k l a j) SmallCh l z142 hE
 have hL := hL (fun j a r hj he => Ev.step (fun k => e1 j a k hj) he)
 have hL := hL (fun a => Ev.step (f := fun _ => some a) (fun k => by simp only [laws_szChangeS.l0]; rw [if_neg (by omega)]) (Ev.now _))
 by_cases h : (l.length : Int) ≤ a
 ·obtain ⟨t, ht, hp⟩ := hL l.length 0 (a - l.length) (by omega) (by omega) (by omega)
  refine ⟨t, Ev.congr (fun k => by simp only [laws_szChangeS.f]; rw [e, if_neg (by omega)]; rfl) ht, fun h2 => ?_⟩
  obtain ⟨h3, h4⟩ := hp h2
  exact ⟨by omega, by omega, by simpa using h4⟩
 ·exact ⟨-1, Ev.congr (f := fun _ => some (-1)) (fun k => by simp only [laws_szChangeS.f]; rw [e, if_pos (by omega)]) (Ev.now _), fun h2 => by omega⟩
theorem szCommand_ev (x : S104) (hx : BigCo x) (a : Int) (h0 : 0 ≤ a) (h1 : a ≤ 1048576) : ∃ t, Ev (fun k => laws_szCommand.f k x.f0 x.f1 a) t ∧ (0 ≤ t → t ≤ a ∧ SmallCo x) := by
 obtain ⟨t, ht, hp⟩ := szNodeS_ev x.f0 a hx.1 h0 h1
 by_cases h : t < 0
 ·exact ⟨-1, Ev.bind ht (ev_pos h (Ev.now _)), fun h => by omega⟩
 ·obtain ⟨h2, h3⟩ := hp (by omega)
  obtain ⟨u, hu, hq⟩ := szChangeS_ev x.f1 t hx.2.1 hx.2.2 (by omega) (by omega)
  by_cases h4 : u < 0
  ·exact ⟨-1, Ev.bind ht (ev_neg h (Ev.bind hu (ev_pos h4 (Ev.now _)))), fun h => by omega⟩
  ·refine ⟨u, Ev.bind ht (ev_neg h (Ev.bind hu (ev_neg h4 (Ev.now _)))), fun h5 => ?_⟩
   obtain ⟨h6, h7, h8⟩ := hq h5
   exact ⟨by omega, h3, h7, h8⟩
theorem szCommandS_ev (l : List S104) (a : Int) (hl : l.length ≤ 9223372036854775807) (hx : ∀ x ∈ l, BigCo x) (h0 : 0 ≤ a) (h1 : a ≤ 1048576) : ∃ t, Ev (fun k => laws_szCommandS.f k l a) t ∧ (0 ≤ t → t ≤ a ∧ l.length ≤ 1048576 ∧ ∀ x ∈ l, SmallCo x) := by
 have e : wrap64 (a - (l.length : Int)) = a - l.length := wid (by omega) (by omega)
 have e1 : ∀ (j : Nat) (a : Int) (k : Nat), j < l.length → laws_szCommandS.l0 (k + 1) l a (j : Int) = ((laws_szCommand.f k (l.getD j z104).f0 (l.getD j z104).f1 a).bind fun t => if t < 0 then some (-1) else laws_szCommandS.l0 k l t ((j + 1 : Nat) : Int)) := fun j a k hj => by
  have er : rd_T104 l (j : Int) = l.getD j z104 := by simp [rd_T104]
  simp only [laws_szCommandS.l0]
  rw [if_pos (by omega), if_pos (by omega), wsucc (by omega), er]
 have hE : ∀ x ∈ l, ∀ a : Int, 0 ≤ a → a ≤ 1048576 → ∃ t, Ev (fun k => laws_szCommand.f k x.f0 x.f1 a) t ∧ (0 ≤ t → t ≤ a ∧ SmallCo x) := fun x hx2 a h2 h3 => szCommand_ev x (hx x hx2) a h2 h3
 have hL := sz_loop (α := S104) (fun k x a => laws_szCommand.f k x.f0 x.f1 a) (fun k a j => laws_szCommandS.l0 k l a j) SmallCo l z104 hE
 have hL := hL (fun j a r hj he => Ev.step (fun k => e1 j a k hj) he)
 have hL := hL (fun a => Ev.step (f := fun _ => some a) (fun k => by simp only [laws_szCommandS.l0]; rw [if_neg (by omega)]) (Ev.now _))
 by_cases h : (l.length : Int) ≤ a
 ·obtain ⟨t, ht, hp⟩ := hL l.length 0 (a - l.length) (by omega) (by omega) (by omega)
  refine ⟨t, Ev.congr (fun k => by simp only [laws_szCommandS.f]; rw [e, if_neg (by omega)]; rfl) ht, fun h2 => ?_⟩
  obtain ⟨h3, h4⟩ := hp h2
  exact ⟨by omega, by omega, by simpa using h4⟩
 ·exact ⟨-1, Ev.congr (f := fun _ => some (-1)) (fun k => by simp only [laws_szCommandS.f]; rw [e, if_pos (by omega)]) (Ev.now _), fun h2 => by omega⟩
theorem szProgram_ev (wi va : Int) (st : List S81) (co : List S104) (hs : st.length ≤ 9223372036854775807) (hc : co.length ≤ 9223372036854775807) (hx : ∀ x ∈ co, BigCo x) :
  ∃ t, Ev (fun k => laws_szProgram.f k wi va st co 1048576) t ∧ (0 ≤ t → t ≤ 1048576 ∧ st.length ≤ 1048576 ∧ co.length ≤ 1048576 ∧ ∀ x ∈ co, SmallCo x) := by
 obtain ⟨t, ht, hp⟩ := szNodeS_ev st 1048576 hs (by omega) (by omega)
 by_cases h : t < 0
 ·exact ⟨-1, Ev.bind ht (ev_pos h (Ev.now _)), fun h => by omega⟩
 ·obtain ⟨h2, h3⟩ := hp (by omega)
  obtain ⟨u, hu, hq⟩ := szCommandS_ev co t hc hx (by omega) (by omega)
  by_cases h4 : u < 0
  ·exact ⟨-1, Ev.bind ht (ev_neg h (Ev.bind hu (ev_pos h4 (Ev.now _)))), fun h => by omega⟩
  ·refine ⟨u, Ev.bind ht (ev_neg h (Ev.bind hu (ev_neg h4 (Ev.now _)))), fun h5 => ?_⟩
   obtain ⟨h6, h7, h8⟩ := hq h5
   exact ⟨by omega, h3, h7, h8⟩
theorem toNodeS_ev (l : List S81) (hl : l.length ≤ 1048576) : Ev (fun k => laws_toNodeS.f k l) (l.map cNode) := by
 refine Ev.congr (f := fun k => laws_toNodeS.l0 k l (List.replicate l.length z79) 0) (fun k => by simp only [laws_toNodeS.f]; rw [if_pos (by omega), if_pos (by simp only [Int.toNat_natCast]; omega)]; rfl) ?_
 exact copy_all (fun k y j => laws_toNodeS.l0 k l y j) l cNode z81 z79
  (fun j y r hj hy he => Ev.step (fun k => by simp only [laws_toNodeS.l0, laws_toNode.f, Option.bind_some]; rw [if_pos (by omega), if_pos (by omega), if_pos (by omega), wsucc (by omega), show rd_T81 l (j : Int) = l.getD j z81 by simp [rd_T81]]; rfl) he)
  (fun y hy => Ev.step (f := fun _ => some y) (fun k => by simp only [laws_toNodeS.l0]; rw [if_neg (by omega)]) (Ev.now _))
theorem toChangeS_ev (l : List S142) (hl : l.length ≤ 1048576) (hx : ∀ x ∈ l, SmallCh x) : Ev (fun k => laws_toChangeS.f k l) (l.map cChange) := by
 refine Ev.congr (f := fun k => laws_toChangeS.l0 k l (List.replicate l.length z124) 0) (fun k => by simp only [laws_toChangeS.f]; rw [if_pos (by omega), if_pos (by simp only [Int.toNat_natCast]; omega)]; rfl) ?_
 refine copy_all (fun k y j => laws_toChangeS.l0 k l y j) l cChange z142 z124 (fun j y r hj hy he => ?_) (fun y hy => Ev.step (f := fun _ => some y) (fun k => by simp only [laws_toChangeS.l0]; rw [if_neg (by omega)]) (Ev.now _))
 refine Ev.step (fun k => by simp only [laws_toChangeS.l0]; rw [if_pos (by omega), if_pos (by omega), wsucc (by omega), show rd_T142 l (j : Int) = l.getD j z142 by simp [rd_T142]]) ?_
 exact Ev.bind (Ev.bind (toNodeS_ev _ (hx _ (getD_mem hj _))) (Ev.now _)) (ev_pos (by omega) he)
theorem toCommandS_ev (l : List S104) (hl : l.length ≤ 1048576) (hx : ∀ x ∈ l, SmallCo x) : Ev (fun k => laws_toCommandS.f k l) (l.map cCommand) := by
 refine Ev.congr (f := fun k => laws_toCommandS.l0 k l (List.replicate l.length z95) 0) (fun k => by simp only [laws_toCommandS.f]; rw [if_pos (by omega), if_pos (by simp only [Int.toNat_natCast]; omega)]; rfl) ?_
 refine copy_all (fun k y j => laws_toCommandS.l0 k l y j) l cCommand z104 z95 (fun j y r hj hy he => ?_) (fun y hy => Ev.step (f := fun _ => some y) (fun k => by simp only [laws_toCommandS.l0]; rw [if_neg (by omega)]) (Ev.now _))
 refine Ev.step (fun k => by simp only [laws_toCommandS.l0]; rw [if_pos (by omega), if_pos (by omega), wsucc (by omega), show rd_T104 l (j : Int) = l.getD j z104 by simp [rd_T104]]) ?_
 obtain ⟨h1, h2, h3⟩ := hx _ (getD_mem hj z104)
 exact Ev.bind (Ev.bind (toNodeS_ev _ h1) (Ev.bind (toChangeS_ev _ h2 h3) (Ev.now _))) (ev_pos (by omega) he)
theorem toProgram_ev (wi va : Int) (st : List S81) (co : List S104) (h1 : st.length ≤ 1048576) (h2 : co.length ≤ 1048576) (h3 : ∀ x ∈ co, SmallCo x) : Ev (fun k => laws_toProgram.f k wi va st co) (wi, va, st.map cNode, co.map cCommand) :=
 Ev.bind (toNodeS_ev st h1) (Ev.bind (toCommandS_ev co h2 h3) (Ev.now _))
theorem eqIntS_l0 (l : List Int) (hl : l.length ≤ 9223372036854775807) (d : Nat) : ∀ (j : Nat), j + d = l.length → Ev (fun k => laws_eqIntS.l0 k l l (j : Int)) true := by
 induction d with
 | zero => exact fun j hd => Ev.step (f := fun _ => some true) (fun k => by simp only [laws_eqIntS.l0]; rw [if_neg (by omega)]) (Ev.now _)
 | succ d ih => exact fun j hd => Ev.step (fun k => by simp only [laws_eqIntS.l0, if_true]; rw [if_pos (by omega), if_pos (by omega), if_pos (by omega), wsucc (by omega)]) (ih (j + 1) (by omega))
theorem eqIntS_ev (l : List Int) (hl : l.length ≤ 9223372036854775807) : Ev (fun k => laws_eqIntS.f k l l) true :=
 Ev.congr (fun k => by simp only [laws_eqIntS.f, if_true]; rfl) (eqIntS_l0 l hl l.length 0 (by omega))
def OkCh (x : S124) : Prop := x.f1.length ≤ 1048576
def OkCo (x : S95) : Prop := x.f0.length ≤ 1048576 ∧ x.f1.length ≤ 1048576 ∧ ∀ y ∈ x.f1, OkCh y
theorem eqNodeS_ev (l : List S79) (hl : l.length ≤ 1048576) : Ev (fun k => laws_eqNodeS.f k l l) true :=
 ev_pos rfl (all_loop (fun k j => laws_eqNodeS.l0 k l l j) l.length (fun j hj he => Ev.step (fun k => by simp only [laws_eqNodeS.l0, laws_eqNode.f, if_true, Option.bind_some]; rw [if_pos (by omega), if_pos (by omega), if_pos (by omega), wsucc (by omega)]) he)
  (Ev.step (f := fun _ => some true) (fun k => by simp only [laws_eqNodeS.l0]; rw [if_neg (by omega)]) (Ev.now _)) l.length 0 (by omega))
theorem eqChangeS_ev (l : List S124) (hl : l.length ≤ 1048576) (hx : ∀ x ∈ l, OkCh x) : Ev (fun k => laws_eqChangeS.f k l l) true := by
 have e1 : ∀ (j : Nat) (k : Nat), j < l.length → laws_eqChangeS.l0 (k + 1) l l (j : Int) = ((laws_eqChange.f k (l.getD j z124).f0 (l.getD j z124).f1 (l.getD j z124).f0 (l.getD j z124).f1).bind fun t => if t = true then laws_eqChangeS.l0 k l l ((j + 1 : Nat) : Int) else some false) := fun j k hj => by
  have er : rd_T124 l (j : Int) = l.getD j z124 := by simp [rd_T124]
  simp only [laws_eqChangeS.l0]
  rw [if_pos (by omega), if_pos (by omega), if_pos (by omega), wsucc (by omega), er]
 have e2 : ∀ x : S124, OkCh x → Ev (fun k => laws_eqChange.f k x.f0 x.f1 x.f0 x.f1) true := fun x h => ev_pos rfl (Ev.bind (eqNodeS_ev x.f1 h) (ev_pos rfl (Ev.now _)))
 exact ev_pos rfl (all_loop (fun k j => laws_eqChangeS.l0 k l l j) l.length (fun j hj he => Ev.step (fun k => e1 j k hj) (Ev.bind (e2 _ (hx _ (getD_mem hj _))) (ev_pos rfl he)))
  (Ev.step (f := fun _ => some true) (fun k => by simp only [laws_eqChangeS.l0]; rw [if_neg (by omega)]) (Ev.now _)) l.length 0 (by omega))
theorem eqCommandS_ev (l : List S95) (hl : l.length ≤ 1048576) (hx : ∀ x ∈ l, OkCo x) : Ev (fun k => laws_eqCommandS.f k l l) true := by
 have e1 : ∀ (j : Nat) (k : Nat), j < l.length → laws_eqCommandS.l0 (k + 1) l l (j : Int) = ((laws_eqCommand.f k (l.getD j z95).f0 (l.getD j z95).f1 (l.getD j z95).f0 (l.getD j z95).f1).bind fun t => if t = true then laws_eqCommandS.l0 k l l ((j + 1 : Nat) : Int) else some false) := fun j k hj => by
  have er : rd_T95 l (j : Int) = l.getD j z95 := by simp [rd_T95]
  simp only [laws_eqCommandS.l0]
  rw [if_pos (by omega), if_pos (by omega), if_pos (by omega), wsucc (by omega), er]
 have e2 : ∀ x : S95, OkCo x → Ev (fun k => laws_eqCommand.f k x.f0 x.f1 x.f0 x.f1) true := fun x h => Ev.bind (eqNodeS_ev x.f0 h.1) (ev_pos rfl (Ev.bind (eqChangeS_ev x.f1 h.2.1 h.2.2) (ev_pos rfl (Ev.now _))))
 exact ev_pos rfl (all_loop (fun k j => laws_eqCommandS.l0 k l l j) l.length (fun j hj he => Ev.step (fun k => e1 j k hj) (Ev.bind (e2 _ (hx _ (getD_mem hj _))) (ev_pos rfl he)))
  (Ev.step (f := fun _ => some true) (fun k => by simp only [laws_eqCommandS.l0]; rw [if_neg (by omega)]) (Ev.now _)) l.length 0 (by omega))
theorem eqProgram_ev (wi va : Int) (st : List S79) (co : List S95) (h1 : st.length ≤ 1048576) (h2 : co.length ≤ 1048576) (h3 : ∀ x ∈ co, OkCo x) : Ev (fun k => laws_eqProgram.f k wi va st co wi va st co) true :=
 ev_pos rfl (ev_pos rfl (Ev.bind (eqNodeS_ev st h1) (ev_pos rfl (Ev.bind (eqCommandS_ev co h2 h3) (ev_pos rfl (Ev.now _))))))
theorem mkCh_le (c : Nat) : ∀ (l : List Nat), (∀ x ∈ l, x ≤ c) → mk124 l ≤ l.length * (1 + 2 * c)
 | [], _ => by simp [mk124]
 | x :: t, h => by
  have h1 := mkCh_le c t (fun y hy => h y (by simp [hy]))
  have h2 := h x (by simp)
  rw [mk124, List.length_cons, Nat.add_mul, Nat.one_mul]; omega
theorem mkCo_le (c : Nat) : ∀ (l : List (Nat × List Nat)), (∀ x ∈ l, 2 * x.1 + mk124 x.2 ≤ c) → mk95 l ≤ l.length * c
 | [], _ => by simp [mk95]
 | x :: t, h => by
  have h1 := mkCo_le c t (fun y hy => h y (by simp [hy]))
  have h2 := h x (by simp)
  rw [mk95, List.length_cons, Nat.add_mul, Nat.one_mul]; omega
theorem mkTot_le (st : List S79) (co : List S95) (h1 : st.length ≤ 1048576) (h2 : co.length ≤ 1048576) (h3 : ∀ c ∈ co, c.f0.length ≤ 1048576 ∧ c.f1.length ≤ 1048576 ∧ ∀ x ∈ c.f1, x.f1.length ≤ 1048576) : mkTot st co ≤ 2305846307750674432 := by
 have h4 : mk95 (co.map (fun x => (x.f0.length, x.f1.map (fun y => y.f1.length)))) ≤ co.length * 2199026401280 := by
  have := mkCo_le 2199026401280 (co.map (fun x => (x.f0.length, x.f1.map (fun y => y.f1.length)))) (fun p hp => by
   obtain ⟨c, hc, rfl⟩ := List.mem_map.1 hp
   obtain ⟨g1, g2, g3⟩ := h3 c hc
   have g4 := mkCh_le 1048576 (c.f1.map (fun y => y.f1.length)) (fun x hx => by
    obtain ⟨y, hy, rfl⟩ := List.mem_map.1 hx
    exact g3 y hy)
   have g5 : c.f1.length * (1 + 2 * 1048576) ≤ 1048576 * (1 + 2 * 1048576) := Nat.mul_le_mul_right _ g2
   simp only [List.length_map] at g4 ⊢
   omega)
  simpa using this
 have h5 : co.length * 2199026401280 ≤ 1048576 * 2199026401280 := Nat.mul_le_mul_right _ h2
 unfold mkTot
 omega
theorem markProgram_ev (wi va : Int) (st : List S79) (co : List S95) (h1 : st.length ≤ 1048576) (h2 : co.length ≤ 1048576) (h3 : ∀ c ∈ co, c.f0.length ≤ 1048576 ∧ c.f1.length ≤ 1048576 ∧ ∀ x ∈ c.f1, x.f1.length ≤ 1048576) :
  Ev (fun k => laws_markProgram.f k wi va st co 1) (1 + mkTot st co) := by
 have := mkTot_le st co h1 h2 h3
 exact ⟨0, fun k _ => by unfold laws_markProgram.f; rw [if_pos (by omega)]⟩
theorem markIntS_l0 (d : Nat) : ∀ (j : Nat) (y : List Int) (a : Int), j + d = y.length → y.length ≤ 1048576 → 0 ≤ a → a + d ≤ 4611686018427387904 → Ev (fun k => laws_markIntS.l0 k y a (j : Int)) (a + d, y.take j ++ cnt d a) := by
 induction d with
 | zero =>
  intro j y a hd hy h0 h1
  refine ev_eq (Ev.step (f := fun _ => some (a, y)) (fun k => by simp only [laws_markIntS.l0]; rw [if_neg (by omega)]) (Ev.now _)) ?_
  rw [List.take_of_length_le (by omega)]; simp [cnt]
 | succ d ih =>
  intro j y a hd hy h0 h1
  refine Ev.step (fun k => by simp only [laws_markIntS.l0]; rw [if_pos (by omega), if_pos (by omega), wsucc (by omega), wid (x := a + 1) (by omega) (by omega)]) ?_
  refine ev_eq (ih (j + 1) (y.set ((j : Int)).toNat a) (a + 1) (by simp; omega) (by simpa using hy) (by omega) (by omega)) ?_
  simp only [Int.toNat_natCast]
  rw [List.take_succ_eq_append_getElem (by simp; omega), List.take_set_of_le (Nat.le_refl j)]
  simp [cnt]; omega
theorem markIntS_ev (y : List Int) (a : Int) (hy : y.length ≤ 1048576) (h0 : 0 ≤ a) (h1 : a ≤ 2305843009213693952) : Ev (fun k => laws_markIntS.f k y a) (a + y.length, cnt y.length a) :=
 ev_eq (markIntS_l0 y.length 0 y a (by omega) hy h0 (by omega)) (by simp)
theorem markIntS_ev' (y : List Int) (a : Int) (hy : y.length ≤ 1048576) (h0 : 0 ≤ a) (h1 : a + y.length ≤ 4611686018427387904) : Ev (fun k => laws_markIntS.f k y a) (a + y.length, cnt y.length a) :=
 ev_eq (markIntS_l0 y.length 0 y a (by omega) hy h0 h1) (by simp)
theorem heldIntS_l0 (y : List Int) (hy : y.length ≤ 1048576) (d : Nat) : ∀ (j : Nat) (a : Int), j + d = y.length → y.drop j = cnt d a → 0 ≤ a → a + d ≤ 4611686018427387904 → Ev (fun k => laws_heldIntS.l0 k y a (j : Int)) (a + d) := by
 induction d with
 | zero =>
  intro j a hd hc h0 h1
  exact ev_eq (Ev.step (f := fun _ => some a) (fun k => by simp only [laws_heldIntS.l0]; rw [if_neg (by omega)]) (Ev.now _)) (by omega)
 | succ d ih =>
  intro j a hd hc h0 h1
  rw [drop_cons (by omega) 0, cnt] at hc
  obtain ⟨h2, h3⟩ := List.cons.inj hc
  refine Ev.step (fun k => by simp only [laws_heldIntS.l0]; rw [if_pos (by omega), if_pos (by omega), rd_nat, if_pos h2, wsucc (by omega), wid (x := a + 1) (by omega) (by omega)]) ?_
  exact ev_eq (ih (j + 1) (a + 1) (by omega) h3 (by omega) (by omega)) (by omega)
theorem heldIntS_ev (n : Nat) (a : Int) (hn : n ≤ 1048576) (h0 : 0 ≤ a) (h1 : a ≤ 2305843009213693952) : Ev (fun k => laws_heldIntS.f k (cnt n a) a) (a + n) :=
 heldIntS_l0 (cnt n a) (by rw [cnt_length]; exact hn) n 0 a (by rw [cnt_length]; omega) (by simp) h0 (by omega)
theorem toIntS_l0 (l : List Int) (hl : l.length ≤ 1048576) (d : Nat) : ∀ (j : Nat) (y : List Int), y.length = l.length → j + d = l.length → Ev (fun k => laws_toIntS.l0 k l y (j : Int)) (y.take j ++ l.drop j) := by
 induction d with
 | zero =>
  intro j y hy hd
  rw [take_all_drop hy (by omega)]
  exact Ev.step (f := fun _ => some y) (fun k => by simp only [laws_toIntS.l0]; rw [if_neg (by omega)]) (Ev.now y)
 | succ d ih =>
  intro j y hy hd
  refine Ev.step (f := fun k => laws_toIntS.l0 k l (y.set j (rd l (j : Int))) ((j + 1 : Nat) : Int)) (fun k => by simp only [laws_toIntS.l0]; rw [if_pos (by omega), if_pos (by omega), if_pos (by omega), wsucc (by omega)]; rfl) ?_
  refine ev_eq (ih (j + 1) _ (by simpa using hy) (by omega)) (copy_step (by omega) (by omega) ?_)
  rw [rd_nat, getD_eq (by omega), getD_eq (by omega)]
theorem toIntS_ev (l : List Int) (hl : l.length ≤ 1048576) : Ev (fun k => laws_toIntS.f k l) l := by
 refine Ev.congr (f := fun k => laws_toIntS.l0 k l (List.replicate l.length 0) ((0 : Nat) : Int)) (fun k => by simp only [laws_toIntS.f]; rw [if_pos (by omega), if_pos (by simp only [Int.toNat_natCast]; omega)]; rfl) ?_
 exact ev_eq (toIntS_l0 l hl l.length 0 _ (by simp) (by omega)) (by simp)
theorem l1In_eq (n lo hi : Int) : spec_l1In.f n lo hi = some (decide (lo ≤ n ∧ n ≤ hi)) := by
 simp only [spec_l1In.f]
 by_cases h : n ≥ lo
 ·rw [if_pos h]; congr 1; simp; intro _; exact h
 ·rw [if_neg h]; congr 1; simp; intro h'; omega
theorem l1In_tells (n lo hi : Int) : Tells (fun _ => spec_l1In.f n lo hi) (lo ≤ n ∧ n ≤ hi) := by
 simp only [l1In_eq]; exact tells_some (by simp)
theorem l1Wide_eq (w : Int) : spec_l1Wide.f w = some (decide (1 ≤ w ∧ w ≤ 64)) := by
 unfold spec_l1Wide.f; rw [l1In_eq]; rfl
theorem wu (x : Int) : IntKind.u64.wrap x = x % 18446744073709551616 := IntKind.wrap_u64 x
theorem wu_in (x : Int) : 0 ≤ IntKind.u64.wrap x ∧ IntKind.u64.wrap x < 18446744073709551616 := by rw [wu]; omega
theorem two_pos (n : Nat) : (0 : Int) < 2 ^ n := Int.pow_pos (by decide)
theorem two_dvd {n : Nat} (h : n ≤ 64) : ((2 : Int) ^ n) ∣ 18446744073709551616 := ⟨2 ^ (64 - n), by rw [← Int.pow_add, show n + (64 - n) = 64 by omega]; rfl⟩
theorem two_le {n : Nat} (h : n ≤ 64) : ((2 : Int) ^ n) ≤ 18446744073709551616 := Int.le_of_dvd (by decide) (two_dvd h)
theorem two_nat (n : Nat) : ((2 ^ n : Nat) : Int) = (2 : Int) ^ n := by simp
theorem and_mask (a : Int) (n : Nat) (hn : n ≤ 64) (h0 : 0 ≤ a) (h1 : a < 18446744073709551616) : Go.bits .and .u64 a (2 ^ n - 1) = a % 2 ^ n := by
 obtain ⟨m, rfl⟩ := Int.eq_ofNat_of_zero_le h0
 have h2 : (2 ^ n : Nat) ≤ 18446744073709551616 := by have := two_le hn; rw [← two_nat] at this; omega
 have h3 : 0 < (2 ^ n : Nat) := Nat.two_pow_pos n
 rw [show (2 : Int) ^ n - 1 = ((2 ^ n - 1 : Nat) : Int) by rw [← two_nat]; omega, bits_and_u64_nat _ _ (by omega) (by omega), Nat.and_two_pow_sub_one_eq_mod, ← two_nat]
 rfl
theorem mask_pow : ∀ m : Nat, m < 65 → (18446744073709551615 : Nat) / 2 ^ (64 - m) = 2 ^ m - 1 := by decide
theorem shr_mask {w : Int} (h0 : 1 ≤ w) (h1 : w ≤ 64) : shr .u64 18446744073709551615 (wrap64 (64 - w)) = 2 ^ w.toNat - 1 := by
 rw [wid (by omega) (by omega)]
 have hb : IntKind.u64.bits = 64 := rfl
 simp only [shr, hb]
 rw [Nat.min_eq_left (by omega), show (64 - w).toNat = 64 - w.toNat by omega]
 have h := mask_pow w.toNat (by omega)
 have h3 : 0 < (2 ^ w.toNat : Nat) := Nat.two_pow_pos _
 rw [← two_nat, ← two_nat, show (18446744073709551615 : Int) = ((18446744073709551615 : Nat) : Int) by rfl, ← Int.natCast_ediv, h]
 omega
theorem cut_nat (a i : Nat) : (a % 2 ^ i) ||| (a &&& 2 ^ i) = a % 2 ^ (i + 1) := by
 apply Nat.eq_of_testBit_eq
 intro j
 rw [Nat.testBit_or, Nat.testBit_and, Nat.testBit_mod_two_pow, Nat.testBit_mod_two_pow, Nat.testBit_two_pow]
 by_cases h : i = j
 ·subst h; simp
 ·by_cases h2 : j < i
  ·simp [h, h2, show j < i + 1 by omega]
  ·simp [h, h2, show ¬ j < i + 1 by omega]
theorem mod_small {a : Nat} (ha : a < 18446744073709551616) {i : Nat} (h : 64 ≤ i) : a % 2 ^ i = a := by
 refine Nat.mod_eq_of_lt (Nat.lt_of_lt_of_le ha ?_)
 have := Nat.pow_le_pow_right (show 0 < 2 by decide) h
 exact this
theorem shl_one {i : Nat} (h : i < 64) : shl .u64 1 (i : Int) = ((2 ^ i : Nat) : Int) := by
 have hb : IntKind.u64.bits = 64 := rfl
 have h2 : (2 ^ i : Nat) < 18446744073709551616 := Nat.pow_lt_pow_right (by decide : 1 < 2) h
 simp only [shl, hb]
 rw [wu, Int.toNat_natCast, Nat.min_eq_left (by omega), ← two_nat, Int.one_mul]; exact Int.emod_eq_of_lt (Int.natCast_nonneg _) (Int.ofNat_lt.2 h2)
theorem shl_big {i : Nat} (h : 64 ≤ i) : shl .u64 1 (i : Int) = 0 := by
 have hb : IntKind.u64.bits = 64 := rfl
 simp only [shl, hb]
 rw [wu, Int.toNat_natCast, Nat.min_eq_right (by omega)]; rfl
theorem cut_step (a i : Nat) (ha : a < 18446744073709551616) : Go.bits .or .u64 ((a % 2 ^ i : Nat) : Int) (Go.bits .and .u64 (a : Int) (shl .u64 1 (i : Int))) = ((a % 2 ^ (i + 1) : Nat) : Int) := by
 have h1 : a % 2 ^ i ≤ a := Nat.mod_le _ _
 by_cases h : i < 64
 ·have h2 : (2 ^ i : Nat) < 18446744073709551616 := Nat.pow_lt_pow_right (by decide : 1 < 2) h
  have h3 : a &&& 2 ^ i ≤ a := Nat.and_le_left
  rw [shl_one h, bits_and_u64_nat _ _ ha h2, bits_or_u64_nat _ _ (by omega) (by omega), cut_nat]
 ·have e : Go.bits .and .u64 (a : Int) ((0 : Nat) : Int) = ((0 : Nat) : Int) := by rw [bits_and_u64_nat _ _ ha (by decide), Nat.and_zero]
  have e2 : Go.bits .or .u64 (a : Int) ((0 : Nat) : Int) = (a : Int) := by rw [bits_or_u64_nat _ _ ha (by decide), Nat.or_zero]
  rw [shl_big (by omega), mod_small ha (by omega), mod_small ha (by omega)]
  exact (congrArg _ e).trans e2
theorem not_nat (a : Nat) (ha : a < 18446744073709551616) : 18446744073709551615 ^^^ a = 18446744073709551615 - a := by
 rw [show 18446744073709551615 - a = 2 ^ 64 - (a + 1) by omega]
 apply Nat.eq_of_testBit_eq
 intro j
 rw [Nat.testBit_xor, Nat.testBit_two_pow_sub_succ (by omega), show (18446744073709551615 : Nat) = 2 ^ 64 - 1 by rfl, Nat.testBit_two_pow_sub_one]
 by_cases h : j < 64
 ·simp [h]
 ·have : a.testBit j = false := Nat.testBit_lt_two_pow (Nat.lt_of_lt_of_le ha (Nat.pow_le_pow_right (by decide : 0 < 2) (by omega : 64 ≤ j)))
  simp [h, this]
theorem not_word (a : Int) (h0 : 0 ≤ a) (h1 : a < 18446744073709551616) : Go.bits .xor .u64 18446744073709551615 a = 18446744073709551615 - a := by
 obtain ⟨m, rfl⟩ := Int.eq_ofNat_of_zero_le h0
 rw [show (18446744073709551615 : Int) = ((18446744073709551615 : Nat) : Int) by rfl, bits_xor_u64_nat _ _ (by decide) (by omega), not_nat m (by omega)]
 omega
def GW (w a : Int) : Prop := 1 ≤ w ∧ w ≤ 64 ∧ a < 2 ^ w.toNat
instance (w a : Int) : Decidable (GW w a) := by unfold GW; infer_instance
theorem GW.le {w a : Int} (h : GW w a) : a < 18446744073709551616 := by have := two_le (n := w.toNat) (by have := h.2.1; omega); have := h.2.2; omega
theorem mod_word (x : Int) {w : Int} (h : w ≤ 64) : x % 18446744073709551616 % 2 ^ w.toNat = x % 2 ^ w.toNat := Int.emod_emod_of_dvd _ (two_dvd (by omega))
def needMany (op : Int) : Nat := if op = 1 ∨ op = 2 ∨ op = 20 then 0 else if op = 13 ∨ op = 19 then 1 else if 3 ≤ op ∧ op ≤ 18 then 2 else 0
def needPart (op : Int) : Int := if op = 19 ∨ op = 17 ∨ op = 18 then 2 else 1
def needOwn (op : Int) : Int := if op = 20 ∨ op = 19 ∨ (14 ≤ op ∧ op ≤ 18) then 2 else if 1 ≤ op ∧ op ≤ 13 then 1 else 0
def NOk (wide vars : Int) (x : S79) : Prop := if x.f0 = 1 then GW wide x.f1 else if x.f0 = 2 then x.f1 < vars else if x.f0 = 20 then x.f1 ≤ 1 else x.f1 = 0
def fits (wide vars : Int) (x : S79) (s : List Int) : Prop := needOwn x.f0 ≠ 0 ∧ NOk wide vars x ∧ needMany x.f0 ≤ s.length ∧ ∀ y ∈ s.drop (s.length - needMany x.f0), y = needPart x.f0
def pile (x : S79) (s : List Int) : List Int := s.take (s.length - needMany x.f0) ++ [needOwn x.f0]
def Runs (wide vars : Int) : List S79 → List Int → List Int → Prop
 | [], s, r => s = r
 | x :: t, s, r => fits wide vars x s ∧ Runs wide vars t (pile x s) r
def TermOf (wide vars : Int) (t : List S79) (kind : Int) : Prop := (1 ≤ wide ∧ wide ≤ 64) ∧ (1 ≤ vars ∧ vars ≤ 4) ∧ (1 ≤ t.length ∧ t.length ≤ 48) ∧ Runs wide vars t [] [kind]
theorem needMany_le (op : Int) : needMany op ≤ 2 := by
 unfold needMany
 split
 ·omega
 ·split
  ·omega
  ·split <;> omega
theorem needOwn_in (op : Int) : 0 ≤ needOwn op ∧ needOwn op ≤ 2 := by
 unfold needOwn
 split
 ·omega
 ·split <;> omega
theorem pile_length (x : S79) (s : List Int) : (pile x s).length ≤ s.length + 1 := by unfold pile; simp
theorem Runs.uniq {wide vars : Int} : ∀ {t : List S79} {s r r' : List Int}, Runs wide vars t s r → Runs wide vars t s r' → r = r'
 | [], s, r, r', h, h' => h.symm.trans h'
 | x :: t, s, r, r', h, h' => Runs.uniq h.2 h'.2
theorem Runs.last {wide vars : Int} : ∀ {t : List S79} {s : List Int} {k : Int}, t ≠ [] → Runs wide vars t s [k] → k = needOwn (t.getD (t.length - 1) z79).f0
 | [], s, k, h, _ => absurd rfl h
 | [x], s, k, _, h => by
  have h2 : pile x s = [k] := h.2
  unfold pile at h2
  have h3 := congrArg List.getLast? h2
  simpa using h3.symm
 | x :: y :: t, s, k, _, h => by
  have h2 := Runs.last (t := y :: t) (by simp) h.2
  simpa using h2
theorem l2Need_ev (op : Int) : ∃ p, Ev (fun k => spec_l2Need.f k op) ((needMany op : Int), p, needOwn op) ∧ (0 < needMany op → p = needPart op) := by
 have j0 : ∀ b : Bool, b = decide (op = 1 ∨ op = 2) → ∃ p, Ev (fun k => spec_l2Need.j0 k op b) ((needMany op : Int), p, needOwn op) ∧ (0 < needMany op → p = needPart op) := fun b hb => by
  by_cases h1 : b = true
  ·have h2 : op = 1 ∨ op = 2 := by rw [hb] at h1; simpa using h1
   refine ⟨1, Ev.step (f := fun _ => some ((needMany op : Int), 1, needOwn op)) (fun k => ?_) (Ev.now _), fun h => ?_⟩
   ·simp only [spec_l2Need.j0]; rw [if_pos h1]; rcases h2 with rfl | rfl <;> rfl
   ·rcases h2 with rfl | rfl <;> simp [needMany] at h
  ·have h2 : ¬ (op = 1 ∨ op = 2) := by rw [hb] at h1; simpa using h1
   by_cases h20 : op = 20
   ·subst h20; exact ⟨2, Ev.step (f := fun _ => some (0, 2, 2)) (fun k => by simp [spec_l2Need.j0, h1]) (Ev.now _), fun h => by simp [needMany] at h⟩
   by_cases h13 : op = 13
   ·subst h13; exact ⟨1, Ev.step (f := fun _ => some (1, 1, 1)) (fun k => by simp [spec_l2Need.j0, h1]) (Ev.now _), fun _ => rfl⟩
   by_cases h19 : op = 19
   ·subst h19; exact ⟨2, Ev.step (f := fun _ => some (1, 2, 2)) (fun k => by simp [spec_l2Need.j0, h1]) (Ev.now _), fun _ => rfl⟩
   have e0 : ∀ k, spec_l2Need.j0 (k + 1) op b = (if decide (3 ≤ op ∧ op ≤ 12) = true then some (2, 1, 1) else if decide (14 ≤ op ∧ op ≤ 16) = true then some (2, 1, 2) else if op = 17 then some (2, 2, 2) else if op = 18 then some (2, 2, 2) else some (0, 0, 0)) := fun k => by
    simp only [spec_l2Need.j0, l1In_eq, Option.bind_some]; rw [if_neg h1, if_neg h20, if_neg h13, if_neg h19]
   simp only [decide_eq_true_eq] at e0
   by_cases a1 : 3 ≤ op ∧ op ≤ 12
   ·exact ⟨1, Ev.step (f := fun _ => some ((needMany op : Int), 1, needOwn op)) (fun k => by rw [e0, if_pos a1, needMany, needOwn, if_neg (by omega), if_neg (by omega), if_pos (by omega), if_neg (by omega), if_pos (by omega)]; rfl) (Ev.now _), fun _ => by rw [needPart, if_neg (by omega)]⟩
   by_cases a2 : 14 ≤ op ∧ op ≤ 16
   ·exact ⟨1, Ev.step (f := fun _ => some ((needMany op : Int), 1, needOwn op)) (fun k => by rw [e0, if_neg a1, if_pos a2, needMany, needOwn, if_neg (by omega), if_neg (by omega), if_pos (by omega), if_pos (by omega)]; rfl) (Ev.now _), fun _ => by rw [needPart, if_neg (by omega)]⟩
   by_cases a3 : op = 17
   ·subst a3; exact ⟨2, Ev.step (f := fun _ => some (2, 2, 2)) (fun k => by rw [e0, if_neg a1, if_neg a2, if_pos rfl]) (Ev.now _), fun _ => rfl⟩
   by_cases a4 : op = 18
   ·subst a4; exact ⟨2, Ev.step (f := fun _ => some (2, 2, 2)) (fun k => by rw [e0, if_neg a1, if_neg a2, if_neg a3, if_pos rfl]) (Ev.now _), fun _ => rfl⟩
   ·have e : needMany op = 0 := by rw [needMany, if_neg (by omega), if_neg (by omega), if_neg (by omega)]
    exact ⟨0, Ev.step (f := fun _ => some ((needMany op : Int), 0, needOwn op)) (fun k => by rw [e0, if_neg a1, if_neg a2, if_neg a3, if_neg a4, e, needOwn, if_neg (by omega), if_neg (by omega)]; rfl) (Ev.now _), fun h => by omega⟩
 by_cases h1 : op = 1
 ·obtain ⟨p, e1, e2⟩ := j0 true (by simp [h1])
  exact ⟨p, ev_pos h1 e1, e2⟩
 ·obtain ⟨p, e1, e2⟩ := j0 (op == 2) (by simp [h1]; rfl)
  exact ⟨p, ev_neg h1 e1, e2⟩
theorem l1Cut_l0 (a : Nat) (ha : a < 18446744073709551616) (w : Int) (hw : w ≤ 65) (d : Nat) : ∀ i : Nat, (i : Int) + d = max w 0 → Ev (fun k => spec_l1Cut.l0 k w (a : Int) ((a % 2 ^ i : Nat) : Int) (i : Int)) ((a % 2 ^ w.toNat : Nat) : Int) := by
 induction d with
 | zero =>
  intro i hi
  refine ev_eq (Ev.step (f := fun _ => some ((a % 2 ^ i : Nat) : Int)) (fun k => by simp only [spec_l1Cut.l0]; rw [if_neg (by omega)]) (Ev.now _)) ?_
  rw [show w.toNat = i by omega]
 | succ d ih =>
  intro i hi
  have e : IntKind.u64.wrap (i : Int) = (i : Int) := by rw [wu]; omega
  exact Ev.step (fun k => by simp only [spec_l1Cut.l0]; rw [if_pos (by omega), e, if_pos (by omega), cut_step a i ha, wsucc (by omega)]) (ih (i + 1) (by omega))
theorem l1Cut_ev (w a : Int) (hw : w ≤ 65) (h0 : 0 ≤ a) (h1 : a < 18446744073709551616) : Ev (fun k => spec_l1Cut.f k w a) (a % 2 ^ w.toNat) := by
 obtain ⟨m, rfl⟩ := Int.eq_ofNat_of_zero_le h0
 have := l1Cut_l0 m (by omega) w hw (max w 0).toNat 0 (by omega)
 rw [show m % 2 ^ 0 = 0 by simp [Nat.mod_one]] at this
 exact ev_eq this (by rw [← two_nat]; rfl)
theorem spec_GoodWord_tells (w a : Int) (h0 : 0 ≤ a) (h1 : a < 18446744073709551616) : Tells (fun k => spec_GoodWord.f k w a) (GW w a) := by
 refine tells_bind (ev_const (l1Wide_eq w)) ?_
 by_cases h : 1 ≤ w ∧ w ≤ 64
 ·refine tells_pos (by simpa using h) (tells_bind (l1Cut_ev w a (by omega) h0 h1) (tells_some ?_))
  have := two_pos w.toNat
  constructor
  ·intro g
   have g : a % 2 ^ w.toNat = a := by simpa using g
   exact ⟨h.1, h.2, by have := Int.emod_lt_of_pos a this; omega⟩
  ·intro g
   rw [Int.emod_eq_of_lt h0 g.2.2]; simp
 ·exact tells_neg (by simpa using h) (tells_no (fun g => h ⟨g.1, g.2.1⟩))
theorem l2N_tells (wide vars : Int) (hv : 1 ≤ vars ∧ vars ≤ 4) (x : S79) (hx : 0 ≤ x.f1 ∧ x.f1 < 18446744073709551616) : Tells (fun k => spec_l2N.f k wide vars x.f0 x.f1) (NOk wide vars x) := by
 unfold NOk
 refine tells_if (fun h => ?_) (fun h => tells_if (fun h2 => tells_some ?_) (fun h2 => tells_if (fun h3 => tells_some ?_) (fun h3 => tells_some ?_)))
 ·rw [if_pos h]; exact tells_ask (spec_GoodWord_tells wide x.f1 hx.1 hx.2) (fun g => tells_yes g) (fun g => tells_no g)
 ·rw [if_neg h, if_pos h2, wu, Int.emod_eq_of_lt (by omega) (by omega)]; simp
 ·rw [if_neg h, if_neg h2, if_pos h3]; simp; omega
 ·rw [if_neg h, if_neg h2, if_neg h3]; simp
def KindAns (wi va : Int) (l : List S79) (s : List Int) (r : Int) : Prop := Runs wi va l s [r] ∨ (r = 0 ∧ ∀ kd, ¬ Runs wi va l s [kd])
theorem l2Kind_l1 (wi va : Int) (t : List S79) (o p : Int) (j : Nat) (hj : j < 1000) : ∀ (m : Nat) (s : List Int), m ≤ s.length → s.length ≤ 1000 →
  ((∀ y ∈ s.drop (s.length - m), y = p) → ∀ r, Ev (fun k => spec_l2Kind.l0 k wi va (s.take (s.length - m) ++ [o]) t (t.length : Int) ((j + 1 : Nat) : Int)) r → Ev (fun k => spec_l2Kind.l1 k wi va s (m : Int) p o t (t.length : Int) (j : Int)) r)
  ∧ ((¬ ∀ y ∈ s.drop (s.length - m), y = p) → Ev (fun k => spec_l2Kind.l1 k wi va s (m : Int) p o t (t.length : Int) (j : Int)) 0)
 | 0, s, _, hs => by
  refine ⟨fun _ r h => ?_, fun h => absurd (fun y hy => by simp at hy) h⟩
  rw [Nat.sub_zero, List.take_length] at h
  exact Ev.step (fun k => by simp only [spec_l2Kind.l1]; rw [if_neg (by omega), if_pos (by omega), wsucc (by omega)]) h
 | m + 1, s, hm, hs => by
  rcases List.eq_nil_or_concat s with rfl | ⟨s', y, rfl⟩
  ·simp at hm
  simp only [List.concat_eq_append] at hm hs ⊢
  have hl : (s' ++ [y]).length = s'.length + 1 := by simp
  rw [hl] at hm hs ⊢
  obtain ⟨h1, h2⟩ := l2Kind_l1 wi va t o p j hj m s' (by omega) (by omega)
  have w : wrap64 (((s' ++ [y]).length : Int) - 1) = (s'.length : Int) := by rw [hl, wid (by omega) (by omega)]; omega
  have e0 : rd (s' ++ [y]) (s'.length : Int) = y := by rw [rd_nat]; simp [List.getD_eq_getElem?_getD]
  have e1 : ∀ k, spec_l2Kind.l1 (k + 1) wi va (s' ++ [y]) ((m + 1 : Nat) : Int) p o t (t.length : Int) (j : Int) = if y = p then spec_l2Kind.l1 k wi va s' (m : Int) p o t (t.length : Int) (j : Int) else some 0 := fun k => by
   simp only [spec_l2Kind.l1]
   rw [if_pos (by omega), w, if_pos (by omega), if_pos (by rw [hl]; omega), e0, if_pos (show (s'.length : Int) ≤ ((s' ++ [y]).length : Int) by rw [hl]; omega), Int.toNat_natCast, List.take_left, wid (x := ((m + 1 : Nat) : Int) - 1) (by omega) (by omega), show ((m + 1 : Nat) : Int) - 1 = (m : Int) by omega]
  have ed : (s' ++ [y]).drop (s'.length + 1 - (m + 1)) = s'.drop (s'.length - m) ++ [y] := by
   rw [show s'.length + 1 - (m + 1) = s'.length - m by omega, List.drop_append_of_le_length (by omega)]
  have et : (s' ++ [y]).take (s'.length + 1 - (m + 1)) = s'.take (s'.length - m) := by
   rw [show s'.length + 1 - (m + 1) = s'.length - m by omega, List.take_append_of_le_length (by omega)]
  rw [ed, et]
  refine ⟨fun h r hr => ?_, fun h => ?_⟩
  ·exact Ev.step e1 (ev_pos (h y (by simp)) (h1 (fun z hz => h z (by simp [hz])) r hr))
  ·by_cases hy : y = p
   ·refine Ev.step e1 (ev_pos hy (h2 (fun g => h (fun z hz => ?_))))
    rcases List.mem_append.1 hz with hz | hz
    ·exact g z hz
    ·rw [List.mem_singleton.1 hz]; exact hy
   ·exact Ev.step e1 (ev_neg hy (Ev.now _))
theorem l2Kind_l0 (wi va : Int) (hv : 1 ≤ va ∧ va ≤ 4) (t : List S79) (ht : t.length ≤ 48) (hx : ∀ x ∈ t, 0 ≤ x.f1 ∧ x.f1 < 18446744073709551616) (d : Nat) : ∀ (j : Nat) (s : List Int), j + d = t.length → s.length ≤ j →
  ∃ r, Ev (fun k => spec_l2Kind.l0 k wi va s t (t.length : Int) (j : Int)) r ∧ KindAns wi va (t.drop j) s r := by
 induction d with
 | zero =>
  intro j s hd hs
  rw [List.drop_of_length_le (by omega)]
  match s, hs with
  | [], _ => exact ⟨0, Ev.step (f := fun _ => some 0) (fun k => by simp only [spec_l2Kind.l0]; rw [if_neg (by omega), if_neg (by simp)]) (Ev.now _), .inr ⟨rfl, fun kd h => by simp [Runs] at h⟩⟩
  | [a], _ => exact ⟨a, Ev.step (f := fun _ => some a) (fun k => by simp only [spec_l2Kind.l0]; rw [if_neg (by omega), if_pos (by simp), if_pos (by simp)]; rfl) (Ev.now _), .inl rfl⟩
  | a :: b :: c, _ => exact ⟨0, Ev.step (f := fun _ => some 0) (fun k => by simp only [spec_l2Kind.l0]; rw [if_neg (by omega), if_neg (by simp; omega)]) (Ev.now _), .inr ⟨rfl, fun kd h => by simp [Runs] at h⟩⟩
 | succ d ih =>
  intro j s hd hs
  have hj : j < t.length := by omega
  have er : rd_T79 t (j : Int) = t.getD j z79 := by simp [rd_T79]
  have hm := hx _ (getD_mem hj z79)
  rw [drop_cons hj z79]
  generalize t.getD j z79 = x at er hm
  obtain ⟨p, hn, hp⟩ := l2Need_ev x.f0
  have hN := l2N_tells wi va hv x hm
  have h20 : ∀ (m p o : Int), Ev (fun k => spec_l2Kind.j2 k wi va s m p o t (t.length : Int) (j : Int) true) 0 := fun m p o => Ev.step (f := fun _ => some 0) (fun k => by simp only [spec_l2Kind.j2, if_true]) (Ev.now _)
  have bad : ¬ fits wi va x s → ∀ kd, ¬ Runs wi va (x :: t.drop (j + 1)) s [kd] := fun h kd g => h g.1
  have go : ∀ r, Ev (fun k => (spec_l2Need.f k x.f0).bind fun bt => (if bt.2.2 = 0 then (spec_l2Kind.j2 k wi va s bt.1 bt.2.1 bt.2.2 t (t.length : Int) (j : Int) true) else ((spec_l2N.f k wi va x.f0 x.f1).bind fun u => (if u = true then (spec_l2Kind.j2 k wi va s bt.1 bt.2.1 bt.2.2 t (t.length : Int) (j : Int) (decide ((s.length : Int) < bt.1))) else (spec_l2Kind.j2 k wi va s bt.1 bt.2.1 bt.2.2 t (t.length : Int) (j : Int) true))))) r → Ev (fun k => spec_l2Kind.l0 k wi va s t (t.length : Int) (j : Int)) r := fun r h =>
   Ev.step (fun k => by simp only [spec_l2Kind.l0]; rw [if_pos (by omega), if_pos (by omega), if_pos (by omega), er]) h
  by_cases c1 : needOwn x.f0 = 0
  ·exact ⟨0, go 0 (Ev.bind hn (ev_pos c1 (h20 _ _ _))), .inr ⟨rfl, bad (fun g => g.1 c1)⟩⟩
  by_cases c2 : NOk wi va x
  ·by_cases c3 : s.length < needMany x.f0
   ·refine ⟨0, go 0 (Ev.bind hn (ev_neg c1 (Ev.bind (tells_ev hN c2) (ev_pos rfl ?_)))), .inr ⟨rfl, bad (fun g => by have := g.2.2.1; omega)⟩⟩
    rw [show decide ((s.length : Int) < (needMany x.f0 : Int)) = true from decide_eq_true (by omega)]
    exact h20 _ _ _
   ·have e3 : decide ((s.length : Int) < (needMany x.f0 : Int)) = false := decide_eq_false (by omega)
    obtain ⟨h1, h2⟩ := l2Kind_l1 wi va t (needOwn x.f0) p j (by omega) (needMany x.f0) s (by omega) (by omega)
    have j2 : ∀ r, Ev (fun k => spec_l2Kind.l1 k wi va s (needMany x.f0 : Int) p (needOwn x.f0) t (t.length : Int) (j : Int)) r → Ev (fun k => spec_l2Kind.j2 k wi va s (needMany x.f0 : Int) p (needOwn x.f0) t (t.length : Int) (j : Int) (decide ((s.length : Int) < (needMany x.f0 : Int)))) r := fun r h => by
     rw [e3]
     exact Ev.step (fun k => by simp only [spec_l2Kind.j2]; rw [if_neg (by simp)]) h
    have hpp : (∀ y ∈ s.drop (s.length - needMany x.f0), y = p) ↔ ∀ y ∈ s.drop (s.length - needMany x.f0), y = needPart x.f0 := by
     rcases Nat.eq_zero_or_pos (needMany x.f0) with h0 | h0
     ·rw [h0]; simp
     ·rw [hp h0]
    by_cases c4 : ∀ y ∈ s.drop (s.length - needMany x.f0), y = p
    ·obtain ⟨r, hr, ha⟩ := ih (j + 1) (s.take (s.length - needMany x.f0) ++ [needOwn x.f0]) (by omega) (by simp; omega)
     have hf : fits wi va x s := ⟨c1, c2, by omega, hpp.1 c4⟩
     refine ⟨r, go r (Ev.bind hn (ev_neg c1 (Ev.bind (tells_ev hN c2) (ev_pos rfl (j2 r (h1 c4 r hr)))))), ?_⟩
     rcases ha with ha | ⟨ha, hb⟩
     ·exact .inl ⟨hf, ha⟩
     ·exact .inr ⟨ha, fun kd g => hb kd g.2⟩
    ·exact ⟨0, go 0 (Ev.bind hn (ev_neg c1 (Ev.bind (tells_ev hN c2) (ev_pos rfl (j2 0 (h2 c4)))))), .inr ⟨rfl, bad (fun g => c4 (hpp.2 g.2.2.2))⟩⟩
  ·exact ⟨0, go 0 (Ev.bind hn (ev_neg c1 (Ev.bind (tells_ev_not hN c2) (ev_neg (by simp) (h20 _ _ _))))), .inr ⟨rfl, bad (fun g => c2 g.2.1)⟩⟩
theorem l2Kind_ev (wi va : Int) (t : List S79) (hx : ∀ x ∈ t, 0 ≤ x.f1 ∧ x.f1 < 18446744073709551616) : ∃ r, Ev (fun k => spec_l2Kind.f k wi va t) r ∧ (TermOf wi va t r ∨ (r = 0 ∧ ∀ kd, ¬ TermOf wi va t kd)) := by
 have h0 : Ev (fun k => spec_l2Kind.j0 k wi va t true) 0 := Ev.step (f := fun _ => some 0) (fun k => by simp only [spec_l2Kind.j0, if_true]) (Ev.now _)
 by_cases c1 : 1 ≤ wi ∧ wi ≤ 64
 ·have e1 : spec_l1Wide.f wi = some true := by rw [l1Wide_eq, decide_eq_true c1]
  by_cases c2 : 1 ≤ va ∧ va ≤ 4
  ·have e2 : spec_l1In.f va 1 4 = some true := by rw [l1In_eq, decide_eq_true c2]
   by_cases c3 : 1 ≤ t.length ∧ t.length ≤ 48
   ·have e3 : spec_l1In.f (t.length : Int) 1 48 = some true := by rw [l1In_eq, decide_eq_true (by omega)]
    obtain ⟨r, hr, ha⟩ := l2Kind_l0 wi va c2 t c3.2 hx t.length 0 [] (by omega) (by simp)
    refine ⟨r, Ev.bind (ev_const e1) (ev_pos rfl (Ev.bind (ev_const e2) (ev_pos rfl (Ev.bind (ev_const e3) (Ev.step (fun k => by simp only [spec_l2Kind.j0]; rw [if_neg (by simp)]; rfl) hr))))), ?_⟩
    rcases ha with ha | ⟨ha, hb⟩
    ·exact .inl ⟨c1, c2, c3, ha⟩
    ·exact .inr ⟨ha, fun kd g => hb kd g.2.2.2⟩
   ·have e3 : spec_l1In.f (t.length : Int) 1 48 = some false := by rw [l1In_eq, decide_eq_false (by omega)]
    exact ⟨0, Ev.bind (ev_const e1) (ev_pos rfl (Ev.bind (ev_const e2) (ev_pos rfl (Ev.bind (ev_const e3) h0)))), .inr ⟨rfl, fun kd g => c3 g.2.2.1⟩⟩
  ·have e2 : spec_l1In.f va 1 4 = some false := by rw [l1In_eq, decide_eq_false c2]
   exact ⟨0, Ev.bind (ev_const e1) (ev_pos rfl (Ev.bind (ev_const e2) (ev_neg (by simp) h0))), .inr ⟨rfl, fun kd g => c2 g.2.1⟩⟩
 ·have e1 : spec_l1Wide.f wi = some false := by rw [l1Wide_eq, decide_eq_false c1]
  exact ⟨0, Ev.bind (ev_const e1) (ev_neg (by simp) h0), .inr ⟨rfl, fun kd g => c1 g.1⟩⟩
theorem l2Kind_is (wi va : Int) (t : List S79) (hx : ∀ x ∈ t, 0 ≤ x.f1 ∧ x.f1 < 18446744073709551616) : ∃ r, Ev (fun k => spec_l2Kind.f k wi va t) r ∧ ∀ kd, 1 ≤ kd → (r = kd ↔ TermOf wi va t kd) := by
 obtain ⟨r, hr, h⟩ := l2Kind_ev wi va t hx
 refine ⟨r, hr, fun kd hk => ?_⟩
 rcases h with h | ⟨rfl, h⟩
 ·refine ⟨fun e => e ▸ h, fun g => ?_⟩
  have := Runs.uniq h.2.2.2 g.2.2.2
  simpa using this
 ·exact ⟨fun e => by omega, fun g => absurd g (h kd)⟩
def Wd (t : List S79) : Prop := ∀ x ∈ t, 0 ≤ x.f1 ∧ x.f1 < 18446744073709551616
def ChangeOk (wi va : Int) (l : List S124) (i : Nat) : Prop := (0 ≤ (l.getD i z124).f0 ∧ (l.getD i z124).f0 ≤ va - 1) ∧ (0 < i → (l.getD (i - 1) z124).f0 < (l.getD i z124).f0) ∧ TermOf wi va (l.getD i z124).f1 1
def CommandOk (wi va : Int) (c : S95) : Prop := TermOf wi va c.f0 2 ∧ ∀ i, 0 ≤ i → i < c.f1.length → ChangeOk wi va c.f1 i
def GoodP (wi va : Int) (st : List S79) (co : List S95) : Prop := TermOf wi va st 2 ∧ (1 ≤ co.length ∧ co.length ≤ 6) ∧ ∀ c ∈ co, CommandOk wi va c
theorem changes_at {wi va : Int} {l : List S124} (h : ∀ i, 0 ≤ i → i < l.length → ChangeOk wi va l i) : ∀ i : Nat, i < l.length → (i : Int) ≤ (l.getD i z124).f0
 | 0, hi => (h 0 (Nat.le_refl 0) hi).1.1
 | i + 1, hi => by
  have h1 := changes_at h i (by omega)
  have h2 := (h (i + 1) (Nat.zero_le _) hi).2.1 (by omega)
  rw [Nat.add_sub_cancel] at h2
  omega
theorem changes_few {wi va : Int} {l : List S124} (hv : 0 ≤ va) (h : ∀ i, 0 ≤ i → i < l.length → ChangeOk wi va l i) : (l.length : Int) ≤ va := by
 rcases Nat.eq_zero_or_pos l.length with h0 | h0
 ·omega
 ·have h1 := changes_at h (l.length - 1) (by omega)
  have h2 := (h (l.length - 1) (Nat.zero_le _) (by omega)).1.2
  omega
theorem from_hereP {n j : Nat} {P : Nat → Prop} (hj : j < n) : (∀ i, j ≤ i → i < n → P i) ↔ P j ∧ ∀ i, j + 1 ≤ i → i < n → P i :=
 ⟨fun h => ⟨h j (Nat.le_refl _) hj, fun i h1 h2 => h i (by omega) h2⟩, fun ⟨h0, h⟩ i h1 h2 => by
  rcases Nat.eq_or_lt_of_le h1 with e | e
  ·exact e ▸ h0
  ·exact h i e h2⟩
theorem l7Asks_tells (wi va : Int) (st : List S79) (co : List S95) (t : List S79) (hx : Wd t) : Tells (fun k => spec_l7Asks.f k wi va st co t) (TermOf wi va t 2) := by
 obtain ⟨r, hr, h⟩ := l2Kind_is wi va t hx
 refine tells_bind hr (tells_some ?_)
 rw [beq_iff_eq]; exact h 2 (by omega)
theorem l7Command_l0 (wi va : Int) (hv : 1 ≤ va ∧ va ≤ 4) (st : List S79) (co : List S95) (w : List S79) (l : List S124) (hl : l.length ≤ 4) (hx : ∀ c ∈ l, Wd c.f1) (d : Nat) : ∀ (j : Nat), j + d = l.length →
  Tells (fun k => spec_l7Command.l0 k l (l.length : Int) (j : Int) wi va st co w l) (∀ i, j ≤ i → i < l.length → ChangeOk wi va l i) := by
 induction d with
 | zero =>
  intro j hd
  exact tells_step (f := fun _ => some true) (fun k => by simp only [spec_l7Command.l0]; rw [if_neg (by omega)]) (tells_yes (fun i h1 h2 => by omega))
 | succ d ih =>
  intro j hd
  have hj : j < l.length := by omega
  have er : rd_T124 l (j : Int) = l.getD j z124 := by simp [rd_T124]
  have ev : wrap64 (va - 1) = va - 1 := wid (by omega) (by omega)
  obtain ⟨r, hr, hk⟩ := l2Kind_is wi va (l.getD j z124).f1 (hx _ (getD_mem hj _))
  have hk1 := hk 1 (by omega)
  refine tells_step (fun k => by simp only [spec_l7Command.l0]; rw [if_pos (by omega), if_pos (by omega), if_pos (by omega), er, ev, wsucc (by omega)]) ?_
  rw [from_hereP hj]
  refine tells_ask (l1In_tells _ _ _) (fun h0 => tells_pos rfl ?_) (fun h0 => tells_neg (by simp) (tells_no (fun g => h0 g.1.1)))
  by_cases hz : j = 0
  ·subst hz
   refine tells_neg (by omega) (tells_bind hr (tells_if (fun h => ?_) (fun h => tells_no (fun g => h (hk1.2 g.1.2.2)))))
   exact tells_iff (ih 1 (by omega)) ⟨fun g => ⟨⟨h0, fun h => by omega, hk1.1 h⟩, g⟩, fun g => g.2⟩
  ·have w2 := wpred (j := j) (by omega) (by omega)
   have er2 : rd_T124 l ((j - 1 : Nat) : Int) = l.getD (j - 1) z124 := by simp [rd_T124]
   refine tells_pos (by omega) ?_
   refine tells_congr (fun k => by rw [w2, if_pos (by omega), if_pos (by omega), er2]) ?_
   refine tells_if (fun h => tells_no (fun g => by have := g.1.2.1 (by omega); omega)) (fun h1 => ?_)
   refine tells_bind hr (tells_if (fun h => ?_) (fun h => tells_no (fun g => h (hk1.2 g.1.2.2))))
   exact tells_iff (ih (j + 1) (by omega)) ⟨fun g => ⟨⟨h0, fun _ => by omega, hk1.1 h⟩, g⟩, fun g => g.2⟩
theorem l7Command_tells (wi va : Int) (st : List S79) (co : List S95) (c : S95) (h1 : Wd c.f0) (h2 : ∀ x ∈ c.f1, Wd x.f1) : Tells (fun k => spec_l7Command.f k wi va st co c.f0 c.f1) (CommandOk wi va c) := by
 have hno : ∀ {Q : Prop}, ¬ Q → Tells (fun k => spec_l7Command.j0 k true wi va st co c.f0 c.f1) Q := fun h => tells_step (f := fun _ => some false) (fun k => by simp only [spec_l7Command.j0, if_true]) (tells_no h)
 refine tells_ask (l7Asks_tells wi va st co c.f0 h1) (fun h => tells_pos rfl ?_) (fun h => tells_neg (by simp) (hno (fun g => h g.1)))
 have hv := h.2.1
 by_cases h4 : (c.f1.length : Int) > va
 ·exact tells_congr (fun k => by rw [decide_eq_true h4]) (hno (fun g => by have := changes_few (by omega) g.2; omega))
 ·refine tells_step (f := fun k => spec_l7Command.l0 k c.f1 (c.f1.length : Int) 0 wi va st co c.f0 c.f1) (fun k => by simp only [spec_l7Command.j0]; rw [if_neg (by simp; omega)]) ?_
  exact tells_iff (l7Command_l0 wi va hv st co c.f0 c.f1 (by omega) h2 c.f1.length 0 (by omega)) ⟨fun g => ⟨h, g⟩, fun g => g.2⟩
theorem spec_GoodProgram_l0 (wi va : Int) (st : List S79) (co : List S95) (hl : co.length ≤ 6) (hx : ∀ c ∈ co, Wd c.f0 ∧ ∀ x ∈ c.f1, Wd x.f1) (d : Nat) : ∀ (j : Nat), j + d = co.length →
  Tells (fun k => spec_GoodProgram.l0 k co (co.length : Int) (j : Int) wi va st co) (∀ c ∈ co.drop j, CommandOk wi va c) := by
 induction d with
 | zero =>
  intro j hd
  rw [List.drop_of_length_le (by omega)]
  exact tells_step (f := fun _ => some true) (fun k => by simp only [spec_GoodProgram.l0]; rw [if_neg (by omega)]) (tells_yes (fun c h => by simp at h))
 | succ d ih =>
  intro j hd
  have hj : j < co.length := by omega
  have er : rd_T95 co (j : Int) = co.getD j z95 := by simp [rd_T95]
  have hm := hx _ (getD_mem hj z95)
  rw [drop_cons hj z95]
  refine tells_step (fun k => by simp only [spec_GoodProgram.l0]; rw [if_pos (by omega), if_pos (by omega), if_pos (by omega), er, wsucc (by omega)]) ?_
  refine tells_ask (l7Command_tells wi va st co _ hm.1 hm.2) (fun h => tells_pos rfl ?_) (fun h => tells_neg (by simp) (tells_no (fun g => h (g _ (by simp)))))
  exact tells_iff (ih (j + 1) (by omega)) ⟨fun g c hc => by
   rcases List.mem_cons.1 hc with rfl | hc
   ·exact h
   ·exact g c hc, fun g c hc => g c (by simp [hc])⟩
theorem spec_GoodProgram_tells (wi va : Int) (st : List S79) (co : List S95) (hs : Wd st) (hx : ∀ c ∈ co, Wd c.f0 ∧ ∀ x ∈ c.f1, Wd x.f1) : Tells (fun k => spec_GoodProgram.f k wi va st co) (GoodP wi va st co) := by
 have hno : ∀ {Q : Prop}, ¬ Q → Tells (fun k => spec_GoodProgram.j0 k true wi va st co) Q := fun h => tells_step (f := fun _ => some false) (fun k => by simp only [spec_GoodProgram.j0, if_true]) (tells_no h)
 refine tells_ask (l7Asks_tells wi va st co st hs) (fun h => tells_pos rfl ?_) (fun h => tells_neg (by simp) (hno (fun g => h g.1)))
 refine tells_ask (l1In_tells _ _ _) (fun h1 => ?_) (fun h1 => hno (fun g => h1 (by have := g.2.1; omega)))
 refine tells_step (f := fun k => spec_GoodProgram.l0 k co (co.length : Int) 0 wi va st co) (fun k => by simp only [spec_GoodProgram.j0]; rw [if_neg (by simp)]) ?_
 exact tells_iff (spec_GoodProgram_l0 wi va st co (by omega) hx co.length 0 (by omega)) ⟨fun g => ⟨h, by omega, g⟩, fun g => g.2.2⟩
def RiseAt (l : List Int) (lo hi : Int) (i : Nat) : Prop := (lo ≤ l.getD i 0 ∧ l.getD i 0 ≤ hi) ∧ (0 < i → l.getD (i - 1) 0 < l.getD i 0)
def Rising (l : List Int) (lo hi : Int) : Prop := ∀ i, i < l.length → RiseAt l lo hi i
theorem from_here {n j : Nat} {P : Nat → Prop} (hj : j < n) : (∀ i, j ≤ i → i < n → P i) ↔ P j ∧ ∀ i, j + 1 ≤ i → i < n → P i :=
 ⟨fun h => ⟨h j (Nat.le_refl _) hj, fun i h1 h2 => h i (by omega) h2⟩, fun ⟨h0, h⟩ i h1 h2 => by
  rcases Nat.eq_or_lt_of_le h1 with e | e
  ·exact e ▸ h0
  ·exact h i e h2⟩
theorem l1Rising_l0 (l : List Int) (lo hi : Int) (hl : l.length ≤ 9223372036854775807) (d : Nat) : ∀ (j : Nat), j + d = l.length →
  Tells (fun k => spec_l1Rising.l0 k l lo hi l (l.length : Int) (j : Int)) (∀ i, j ≤ i → i < l.length → RiseAt l lo hi i) := by
 induction d with
 | zero => exact fun j hd => tells_step (f := fun _ => some true) (fun k => by simp only [spec_l1Rising.l0]; rw [if_neg (by omega)]) (tells_yes (fun i h1 h2 => by omega))
 | succ d ih =>
  intro j hd
  have hj : j < l.length := by omega
  refine tells_step (fun k => by simp only [spec_l1Rising.l0]; rw [if_pos (by omega), if_pos (by omega), if_pos (by omega), wsucc (by omega), rd_nat]) ?_
  refine tells_iff ?_ (from_here hj).symm
  refine tells_ask (l1In_tells _ lo hi) (fun hin => ?_) (fun hin => ?_)
  ·refine tells_pos rfl ?_
   by_cases h0 : 0 < j
   ·refine tells_pos (by omega) ?_
    rw [wpred h0 (by omega), rd_nat]
    refine tells_pos (by omega) (tells_pos (by omega) (tells_if (fun hc => ?_) (fun hc => ?_)))
    ·exact tells_no (fun h => by have := h.1.2 h0; omega)
    ·exact tells_iff (ih (j + 1) (by omega)) ⟨fun h => ⟨⟨hin, fun _ => by omega⟩, h⟩, fun h => h.2⟩
   ·refine tells_neg (by omega) ?_
    exact tells_iff (ih (j + 1) (by omega)) ⟨fun h => ⟨⟨hin, fun h1 => absurd h1 h0⟩, h⟩, fun h => h.2⟩
  ·exact tells_neg (by simp) (tells_no (fun h => hin h.1.1))
theorem l1Rising_tells (l : List Int) (lo hi : Int) (hl : l.length ≤ 9223372036854775807) : Tells (fun k => spec_l1Rising.f k l lo hi) (Rising l lo hi) :=
 (tells_iff (l1Rising_l0 l lo hi hl l.length 0 (by omega)) ⟨fun h i hi => h i (Nat.zero_le _) hi, fun h i _ hi => h i hi⟩)
theorem rising_ge {l : List Int} {lo hi : Int} (h : Rising l lo hi) : ∀ i, i < l.length → lo + i ≤ l.getD i 0
 | 0, hi => by have := (h 0 hi).1.1; omega
 | i + 1, hi => by
  have h1 := rising_ge h i (by omega)
  have h2 := (h (i + 1) hi).2 (by omega)
  simp only [Nat.add_sub_cancel] at h2
  omega
theorem rising_len {l : List Int} {lo hi : Int} (h : Rising l lo hi) (hb : lo ≤ hi + 1) : (l.length : Int) ≤ hi - lo + 1 := by
 by_cases h0 : l.length = 0
 ·omega
 ·have h1 := rising_ge h (l.length - 1) (by omega)
  have h2 := (h (l.length - 1) (by omega)).1.2
  omega
theorem l1Both_tells (w a b : Int) (ha0 : 0 ≤ a) (ha1 : a < 18446744073709551616) (hb0 : 0 ≤ b) (hb1 : b < 18446744073709551616) : Tells (fun k => spec_l1Both.f k w a b) (GW w a ∧ GW w b) := by
 refine tells_ask (spec_GoodWord_tells w a ha0 ha1) (fun h => tells_pos rfl ?_) (fun h => tells_neg (by simp) (tells_no (fun g => h g.1)))
 obtain ⟨c, hc, e⟩ := spec_GoodWord_tells w b hb0 hb1
 exact ⟨c, Ev.bind hc (Ev.now _), e.trans ⟨fun g => ⟨h, g⟩, fun g => g.2⟩⟩
theorem isWide_eq (w : Int) : impl_isWide.f w = some (decide (1 ≤ w ∧ w ≤ 64)) := by
 unfold impl_isWide.f
 by_cases h : w ≥ 1
 ·rw [if_pos h]; simp [show (1 : Int) ≤ w by omega]
 ·rw [if_neg h]; simp [show ¬ (1 : Int) ≤ w by omega]
theorem mask_eq {w : Int} (h0 : 1 ≤ w) (h1 : w ≤ 64) : impl_mask.f w = some (2 ^ w.toNat - 1) := by
 unfold impl_mask.f
 rw [if_pos (by rw [wid (by omega) (by omega)]; omega), shr_mask h0 h1]
theorem impl_GoodWord_eq (w a : Int) : impl_GoodWord.f w a = some (decide (GW w a)) := by
 unfold impl_GoodWord.f
 rw [isWide_eq, Option.bind_some]
 by_cases h : 1 ≤ w ∧ w ≤ 64
 ·rw [decide_eq_true h, if_pos rfl, mask_eq h.1 h.2, Option.bind_some]
  congr 1
  rw [decide_eq_decide]
  exact ⟨fun g => ⟨h.1, h.2, by omega⟩, fun g => by have := g.2.2; omega⟩
 ·rw [decide_eq_false h, if_neg (by simp), decide_eq_false (fun g => h ⟨g.1, g.2.1⟩)]
theorem areWords_eq (w a b : Int) : impl_areWords.f w a b = some (decide (GW w a ∧ GW w b)) := by
 unfold impl_areWords.f
 rw [impl_GoodWord_eq, impl_GoodWord_eq, Option.bind_some]
 by_cases h : GW w a
 ·rw [decide_eq_true h, if_pos rfl, Option.bind_some]; simp [h]
 ·rw [decide_eq_false h, if_neg (by simp)]; simp [h]
theorem quo_word {a b : Int} (h0 : 0 ≤ a) (h1 : a < 18446744073709551616) (hb : 0 < b) : IntKind.u64.wrap (Int.tdiv a b) = a / b ∧ Int.tmod a b = a % b := by
 have h2 : 0 ≤ a / b := Int.ediv_nonneg h0 (by omega)
 have h3 : a / b ≤ a := Int.ediv_le_self b h0
 rw [Int.tdiv_eq_ediv_of_nonneg h0, Int.tmod_eq_emod_of_nonneg h0, wu]
 exact ⟨Int.emod_eq_of_lt h2 (by omega), rfl⟩
theorem DivWord_no {w a b : Int} (h : ¬ (GW w a ∧ GW w b)) : impl_DivWord.f w a b = some (0, 0, false) := by
 unfold impl_DivWord.f
 rw [areWords_eq, Option.bind_some, decide_eq_false h, if_neg (by simp)]
theorem DivWord_zero {w a : Int} (ha : GW w a) (hb : GW w 0) : impl_DivWord.f w a 0 = some (2 ^ w.toNat - 1, a, true) := by
 unfold impl_DivWord.f
 rw [areWords_eq, Option.bind_some, decide_eq_true (And.intro ha hb), if_pos rfl, if_pos rfl, mask_eq ha.1 ha.2.1, Option.bind_some]
theorem DivWord_yes {w a b : Int} (ha : GW w a) (hb : GW w b) (h0 : 0 ≤ a) (hb0 : 0 < b) : impl_DivWord.f w a b = some (a / b, a % b, true) := by
 unfold impl_DivWord.f
 obtain ⟨e1, e2⟩ := quo_word h0 ha.le hb0
 rw [areWords_eq, Option.bind_some, decide_eq_true (And.intro ha hb), if_pos rfl, if_neg (by omega), bits_Div64.f, if_pos ⟨rfl, hb0⟩, Option.bind_some, e1, e2]
theorem spec_DivWord_no {w a b : Int} (h : ¬ (GW w a ∧ GW w b)) (ha0 : 0 ≤ a) (ha1 : a < 18446744073709551616) (hb0 : 0 ≤ b) (hb1 : b < 18446744073709551616) : Ev (fun k => spec_DivWord.f k w a b) (0, 0, false) :=
 Ev.bind (tells_ev_not (l1Both_tells w a b ha0 ha1 hb0 hb1) h) (ev_neg (by simp) (Ev.now _))
theorem spec_DivWord_zero {w a : Int} (ha : GW w a) (hb : GW w 0) (h0 : 0 ≤ a) : Ev (fun k => spec_DivWord.f k w a 0) (18446744073709551615 % 2 ^ w.toNat, a, true) :=
 Ev.bind (tells_ev (l1Both_tells w a 0 h0 ha.le (by omega) (by omega)) ⟨ha, hb⟩) (ev_pos rfl (ev_pos rfl (Ev.bind (l1Cut_ev w _ (by have := ha.2.1; omega) (by omega) (by omega)) (Ev.now _))))
theorem spec_DivWord_yes {w a b : Int} (ha : GW w a) (hb : GW w b) (h0 : 0 ≤ a) (hb0 : 0 < b) : Ev (fun k => spec_DivWord.f k w a b) (a / b, a % b, true) := by
 obtain ⟨e1, e2⟩ := quo_word h0 ha.le hb0
 refine Ev.bind (tells_ev (l1Both_tells w a b h0 ha.le (by omega) hb.le) ⟨ha, hb⟩) (ev_pos rfl (ev_neg (by omega) ?_))
 rw [e1, e2]; exact Ev.now _
theorem shl_wordP {a : Int} {n : Nat} (hn : n < 64) : shl .u64 a (n : Int) = (a * 2 ^ n) % 18446744073709551616 := by
 have hb : IntKind.u64.bits = 64 := rfl
 simp only [shl, hb]
 rw [Int.toNat_natCast, Nat.min_eq_left (by omega), wu]
theorem shr_wordP {a : Int} {n : Nat} (hn : n < 64) : shr .u64 a (n : Int) = a / 2 ^ n := by
 have hb : IntKind.u64.bits = 64 := rfl
 simp only [shr, hb]
 rw [Int.toNat_natCast, Nat.min_eq_left (by omega)]
theorem shift_left {w a : Int} {n : Nat} (h1 : 1 ≤ w) (h2 : w ≤ 64) (h : (n : Int) < w) : impl_shift.f w a n true = some ((a * 2 ^ n) % 2 ^ w.toNat) := by
 have ew : IntKind.u64.wrap w = w := by rw [wu]; omega
 have hw := wu_in (a * 2 ^ n)
 unfold impl_shift.f
 rw [ew, if_neg (by omega), if_pos rfl, if_pos (by omega), mask_eq h1 h2, Option.bind_some, shl_wordP (by omega), ← wu, and_mask _ _ (by omega) hw.1 hw.2, wu, mod_word _ h2]
theorem shift_right {w a : Int} {n : Nat} (h1 : 1 ≤ w) (h2 : w ≤ 64) (h : (n : Int) < w) : impl_shift.f w a n false = some (a / 2 ^ n) := by
 have ew : IntKind.u64.wrap w = w := by rw [wu]; omega
 unfold impl_shift.f
 rw [ew, if_neg (by omega), if_neg (by simp), if_pos (by omega), shr_wordP (by omega)]
theorem wpredU (n : Nat) (hn : n < 64) : IntKind.u64.wrap (((n + 1 : Nat) : Int) - 1) = (n : Int) := by rw [wu]; omega
theorem l1Shift_right (w : Int) : ∀ (n : Nat), n < 64 → ∀ m : Nat, Ev (fun k => spec_l1Shift.l0 k w (m : Int) (n : Int) false) ((m / 2 ^ n : Nat) : Int)
 | 0, _, m => ev_eq (Ev.step (f := fun _ => some (m : Int)) (fun k => by simp only [spec_l1Shift.l0]; rw [if_neg (by omega)]) (Ev.now _)) (by simp)
 | n + 1, hn, m => by
  refine ev_eq (Ev.step (fun k => by simp only [spec_l1Shift.l0]; rw [if_pos (by omega), if_neg (by simp), wpredU n (by omega), show (m : Int) / 2 = ((m / 2 : Nat) : Int) by omega]) (l1Shift_right w n (by omega) (m / 2))) ?_
  rw [Nat.div_div_eq_div_mul, Nat.pow_succ, Nat.mul_comm]
theorem l1Shift_left (w : Int) (hw : 1 ≤ w ∧ w ≤ 64) : ∀ (n : Nat), n < 64 → ∀ a : Int, 0 ≤ a → a < 2 ^ w.toNat → Ev (fun k => spec_l1Shift.l0 k w a (n : Int) true) ((a * 2 ^ n) % 2 ^ w.toNat)
 | 0, _, a, h0, h1 => ev_eq (Ev.step (f := fun _ => some a) (fun k => by simp only [spec_l1Shift.l0]; rw [if_neg (by omega)]) (Ev.now _)) (by rw [Int.pow_zero, Int.mul_one, Int.emod_eq_of_lt h0 h1])
 | n + 1, hn, a, h0, h1 => by
  have hc : Ev (fun k => spec_l1Cut.f k w (IntKind.u64.wrap (a * 2))) ((a * 2) % 2 ^ w.toNat) := by
   have h := l1Cut_ev w (IntKind.u64.wrap (a * 2)) (by omega) (wu_in _).1 (wu_in _).2
   rw [wu, mod_word _ hw.2] at h
   rw [wu]; exact h
  refine ev_eq (Ev.step (fun k => by simp only [spec_l1Shift.l0]; rw [if_pos (by omega), if_pos trivial, wpredU n (by omega)]) (Ev.bind hc (l1Shift_left w hw n (by omega) _ (Int.emod_nonneg _ (Int.ne_of_gt (two_pos _))) (Int.emod_lt_of_pos _ (two_pos _))))) ?_
  rw [Int.pow_succ, Int.mul_emod, Int.emod_emod, ← Int.mul_emod, Int.mul_assoc, Int.mul_comm 2 (2 ^ n)]
def sgn (w a : Int) : Int := if a * 2 ^ (64 - w.toNat) < 9223372036854775808 then a else a - 2 ^ w.toNat
theorem signed_eq {w a : Int} (h : GW w a) (h0 : 0 ≤ a) : impl_signed.f w a = some (sgn w a) := by
 unfold impl_signed.f
 obtain ⟨h1, h2, h3⟩ := h
 have e : wrap64 (64 - w) = 64 - w := wid (by omega) (by omega)
 have hb : IntKind.u64.bits = 64 := rfl
 have hb2 : IntKind.i64.bits = 64 := rfl
 rw [e, if_pos (by omega)]
 simp only [shl, shr, hb, hb2]
 rw [show (64 - w).toNat = 64 - w.toNat by omega, Nat.min_eq_left (by omega), wu]
 have hp := two_pos (64 - w.toNat)
 have hM : (2 : Int) ^ w.toNat * 2 ^ (64 - w.toNat) = 18446744073709551616 := by rw [← Int.pow_add, show w.toNat + (64 - w.toNat) = 64 by omega]; rfl
 have hA0 : 0 ≤ a * 2 ^ (64 - w.toNat) := Int.mul_nonneg h0 (by omega)
 have hA1 : a * 2 ^ (64 - w.toNat) < 18446744073709551616 := by rw [← hM]; exact Int.mul_lt_mul_of_pos_right h3 hp
 rw [Int.emod_eq_of_lt hA0 hA1]
 unfold sgn
 by_cases hs : a * 2 ^ (64 - w.toNat) < 9223372036854775808
 ·rw [if_pos hs, wid (by omega) (by omega), Int.mul_ediv_cancel _ (by omega)]
 ·rw [if_neg hs, show wrap64 (a * 2 ^ (64 - w.toNat)) = a * 2 ^ (64 - w.toNat) - 18446744073709551616 by unfold wrap64; omega, ← hM, ← Int.sub_mul, Int.mul_ediv_cancel _ (by omega)]
theorem sgn_mod {w a : Int} (h : GW w a) (h0 : 0 ≤ a) : sgn w a % 2 ^ w.toNat = a := by
 unfold sgn
 split
 ·exact Int.emod_eq_of_lt h0 h.2.2
 ·rw [Int.sub_emod_right, Int.emod_eq_of_lt h0 h.2.2]
theorem l1Signed_ev {w a : Int} (h : GW w a) (h0 : 0 ≤ a) : Ev (fun k => spec_l1Signed.f k w a) (sgn w a) := by
 obtain ⟨h1, h2, h3⟩ := h
 obtain ⟨m, rfl⟩ := Int.eq_ofNat_of_zero_le h0
 obtain ⟨n, hn⟩ : ∃ n : Nat, w = ((n + 1 : Nat) : Int) := ⟨(w - 1).toNat, by omega⟩
 subst hn
 have ht : (((n + 1 : Nat) : Int)).toNat = n + 1 := by omega
 have ew : IntKind.u64.wrap (wrap64 (((n + 1 : Nat) : Int) - 1)) = (n : Int) := by rw [wid (by omega) (by omega), wu]; omega
 have hp : 0 < 2 ^ n := Nat.two_pow_pos n
 have hm : m < 2 ^ n * 2 := by
  rw [ht, ← two_nat] at h3
  have := Int.ofNat_lt.1 h3
  rwa [Nat.pow_succ] at this
 have h63 : 2 ^ n * 2 ^ (63 - n) = 9223372036854775808 := by rw [← Nat.pow_add, show n + (63 - n) = 63 by omega]
 have hq : 1 ≤ 2 ^ (63 - n) := Nat.one_le_two_pow
 have hle : 2 ^ n ≤ 9223372036854775808 := by rw [← h63]; exact Nat.le_mul_of_pos_right _ hq
 have es : shr .u64 (m : Int) (n : Int) = ((m / 2 ^ n : Nat) : Int) := by rw [shr_wordP (by omega)]; simp
 have hd : m / 2 ^ n < 2 := Nat.div_lt_of_lt_mul hm
 have ea' : ∀ q : Nat, q < 2 → Go.bits .and .u64 (q : Int) 1 = (q : Int) := fun q hq2 => by
  have := and_mask (q : Int) 1 (by omega) (by omega) (by omega)
  rw [show (2 : Int) ^ 1 - 1 = 1 by rfl] at this
  rw [this]; omega
 have ea := ea' _ hd
 have hs : ((m : Int) * 2 ^ (64 - (((n + 1 : Nat) : Int)).toNat) < 9223372036854775808) ↔ m < 2 ^ n := by
  rw [ht, show 64 - (n + 1) = 63 - n by omega, ← two_nat, ← Int.natCast_mul]
  constructor
  ·intro g
   refine Classical.byContradiction (fun g2 => ?_)
   have : 2 ^ n * 2 ^ (63 - n) ≤ m * 2 ^ (63 - n) := Nat.mul_le_mul_right _ (by omega)
   omega
  ·intro g
   have : m * 2 ^ (63 - n) < 2 ^ n * 2 ^ (63 - n) := Nat.mul_lt_mul_of_pos_right g (by omega)
   omega
 unfold sgn
 by_cases c : m < 2 ^ n
 ·rw [if_pos (hs.2 c)]
  have e0 : m / 2 ^ n = 0 := Nat.div_eq_of_lt c
  exact Ev.congr (f := fun _ => some (m : Int)) (fun k => by simp only [spec_l1Signed.f]; rw [ew, if_pos (by omega), es, ea, e0, if_neg (by decide), wid (by omega) (by omega)]) (Ev.now _)
 ·rw [if_neg (fun g => c (hs.1 g))]
  have e1 : m / 2 ^ n = 1 := by
   have : 1 ≤ m / 2 ^ n := (Nat.le_div_iff_mul_le hp).2 (by omega)
   omega
  have hcut := l1Cut_ev ((n + 1 : Nat) : Int) 18446744073709551615 (by omega) (by omega) (by omega)
  have h64 : 2 ^ (n + 1) * 2 ^ (63 - n) = 18446744073709551616 := by rw [← Nat.pow_add, show n + 1 + (63 - n) = 64 by omega]
  have hp2 : 2 ^ (n + 1) = 2 ^ n * 2 := Nat.pow_succ ..
  have e2 : (18446744073709551615 : Int) % 2 ^ (((n + 1 : Nat) : Int)).toNat = ((2 ^ (n + 1) - 1 : Nat) : Int) := by
   rw [ht, ← two_nat, show (18446744073709551615 : Int) = ((18446744073709551615 : Nat) : Int) by rfl, ← Int.natCast_emod]
   congr 1
   rw [show 18446744073709551615 = (2 ^ (n + 1) - 1) + 2 ^ (n + 1) * (2 ^ (63 - n) - 1) by rw [Nat.mul_sub, h64]; have := Nat.le_mul_of_pos_right (2 ^ (n + 1)) hq; omega, Nat.add_mul_mod_self_left, Nat.mod_eq_of_lt (by omega)]
  have e3 : Go.bits .or .u64 (m : Int) (18446744073709551615 - ((2 ^ (n + 1) - 1 : Nat) : Int)) = ((2 ^ (n + 1) * (2 ^ (63 - n) - 1) + m : Nat) : Int) := by
   have hx : 18446744073709551616 - 2 ^ (n + 1) = 2 ^ (n + 1) * (2 ^ (63 - n) - 1) := by rw [Nat.mul_sub, h64, Nat.mul_one]
   rw [show (18446744073709551615 : Int) - ((2 ^ (n + 1) - 1 : Nat) : Int) = ((18446744073709551616 - 2 ^ (n + 1) : Nat) : Int) by omega, bits_or_u64_nat _ _ (by omega) (by omega), hx, Nat.or_comm, Nat.two_pow_add_eq_or_of_lt (by omega)]
  rw [e2] at hcut
  refine Ev.congr (fun k => by simp only [spec_l1Signed.f]; rw [ew, if_pos (by omega), es, ea, e1, if_pos (show ((1 : Nat) : Int) = 1 by rfl)]) (Ev.bind hcut ?_)
  refine Ev.congr (f := fun _ => some ((m : Int) - 2 ^ (((n + 1 : Nat) : Int)).toNat)) (fun k => ?_) (Ev.now _)
  rw [not_word _ (by omega) (by omega), e3, ht, ← two_nat]
  have hx : 2 ^ (n + 1) * (2 ^ (63 - n) - 1) = 18446744073709551616 - 2 ^ (n + 1) := by rw [Nat.mul_sub, h64, Nat.mul_one]
  rw [hx]
  congr 1
  unfold wrap64
  omega
def VOk (wi kd v : Int) : Prop := 0 ≤ v ∧ GW wi v ∧ (kd = 2 → v ≤ 1)
def nxt : List (Nat × Int × Int) → Nat
 | [] => 0
 | x :: _ => x.1 + 1
def valsOf (S : List (Nat × Int × Int)) : List Int := (S.map (fun x => x.2.1)).reverse
def kindsOf (S : List (Nat × Int × Int)) : List Int := (S.map (fun x => x.2.2)).reverse
def Piled (wi : Int) (t : List S79) (s : List Int) : Nat → List (Nat × Int × Int) → Prop
 | n, [] => n = 0
 | n, x :: r => (n = x.1 + 1 ∧ nxt r ≤ x.1) ∧ Ev (fun k => spec_l2Value.f k wi t (x.1 : Int) s) x.2.1 ∧ Ev (fun k => spec_l2From.f k t (x.1 : Int)) (nxt r : Int) ∧ VOk wi x.2.2 x.2.1 ∧ Piled wi t s (nxt r) r
theorem Piled.nxt {wi : Int} {t : List S79} {s : List Int} : ∀ {S : List (Nat × Int × Int)} {n : Nat}, Piled wi t s n S → nxt S = n
 | [], _, h => h.symm
 | _ :: _, _, h => h.1.1.symm
theorem from_l0 (t : List S79) (a : Int) : Ev (fun k => spec_l2From.l0 k t 0 a) a := Ev.step (f := fun _ => some a) (fun k => by simp only [spec_l2From.l0]; rw [if_neg (by omega)]) (Ev.now _)
theorem from_l1 (t : List S79) (m : Int) (hm : 0 ≤ m ∧ m ≤ 2) (e : Nat) (he : e ≤ 1000) (b r : Int) (h : Ev (fun k => spec_l2From.f k t (e : Int)) b) (h2 : Ev (fun k => spec_l2From.l0 k t m b) r) : Ev (fun k => spec_l2From.l0 k t (m + 1) ((e + 1 : Nat) : Int)) r :=
 Ev.step (fun k => by simp only [spec_l2From.l0]; rw [if_pos (by omega), show ((e + 1 : Nat) : Int) - 1 = (e : Int) by omega, wid (x := (e : Int)) (by omega) (by omega), wid (x := m + 1 - 1) (by omega) (by omega), show m + 1 - 1 = m by omega]) (Ev.bind h h2)
theorem from_at (t : List S79) (n : Nat) (hn : n < t.length) (r : Int) (h : Ev (fun k => spec_l2From.l0 k t (needMany (t.getD n z79).f0 : Int) (n : Int)) r) : Ev (fun k => spec_l2From.f k t (n : Int)) r := by
 have er : rd_T79 t (n : Int) = t.getD n z79 := by simp [rd_T79]
 obtain ⟨p, hp, _⟩ := l2Need_ev (t.getD n z79).f0
 exact Ev.step (fun k => by simp only [spec_l2From.f]; rw [if_pos (by omega), if_pos (by omega), er]) (Ev.bind hp h)
theorem from_next (wi : Int) (t : List S79) (s : List Int) (n : Nat) (hn : n < t.length) (ht : t.length ≤ 48) (S : List (Nat × Int × Int)) (hS : Piled wi t s n S) (hm : needMany (t.getD n z79).f0 ≤ S.length) :
  Ev (fun k => spec_l2From.f k t (n : Int)) (nxt (S.drop (needMany (t.getD n z79).f0)) : Int) ∧ Piled wi t s (nxt (S.drop (needMany (t.getD n z79).f0))) (S.drop (needMany (t.getD n z79).f0)) ∧ nxt (S.drop (needMany (t.getD n z79).f0)) ≤ n := by
 have h2 := needMany_le (t.getD n z79).f0
 have key : ∀ r, Ev (fun k => spec_l2From.l0 k t (needMany (t.getD n z79).f0 : Int) (n : Int)) r → Ev (fun k => spec_l2From.f k t (n : Int)) r := fun r h => from_at t n hn r h
 generalize needMany (t.getD n z79).f0 = m at hm h2 key ⊢
 match m, S, hS, hm, h2 with
 | 0, S, hS, _, _ =>
  rw [List.drop_zero, hS.nxt]
  exact ⟨key _ (from_l0 t _), hS, Nat.le_refl n⟩
 | 1, x :: r, hS, _, _ =>
  obtain ⟨⟨h0, hle⟩, _, h1, _, h3⟩ := hS
  subst h0
  have hle : nxt r ≤ x.1 := hle
  exact ⟨key _ (from_l1 t 0 (by omega) x.1 (by omega) _ _ h1 (from_l0 t _)), h3, by show nxt r ≤ x.1 + 1; omega⟩
 | 2, x :: y :: r, hS, _, _ =>
  obtain ⟨⟨h0, hle⟩, _, h1, _, h3⟩ := hS
  obtain ⟨⟨_, hle2⟩, _, h4, _, h5⟩ := h3
  have hle2 : nxt r ≤ y.1 := hle2
  have hle : y.1 + 1 ≤ x.1 := hle
  subst h0
  exact ⟨key _ (from_l1 t 1 (by omega) x.1 (by omega) _ _ h1 (from_l1 t 0 (by omega) y.1 (by omega) _ _ h4 (from_l0 t _))), h5, by show nxt r ≤ x.1 + 1; omega⟩
def StateOk (wi va : Int) (s : List Int) : Prop := (s.length : Int) = va ∧ ∀ a ∈ s, GW wi a
theorem operandsOf_ev (op : Int) : ∃ p, Ev (fun k => impl_operandsOf.f k op) ((needMany op : Int), p, needOwn op) ∧ (0 < needMany op → p = needPart op) := by
 have j2 : ∀ b : Bool, Ev (fun k => impl_operandsOf.j2 k op b) (if b = true then (2, 1, 2) else if op = 17 then (2, 2, 2) else if op = 18 then (2, 2, 2) else (0, 0, 0)) := fun b => by
  refine Ev.step (f := fun _ => some (if b = true then (2, 1, 2) else if op = 17 then (2, 2, 2) else if op = 18 then (2, 2, 2) else (0, 0, 0))) (fun k => ?_) (Ev.now _)
  simp only [impl_operandsOf.j2]
  by_cases c : b = true
  ·rw [if_pos c, if_pos c]
  ·by_cases c2 : op = 17
   ·rw [if_neg c, if_neg c, if_pos c2, if_pos c2]
   ·by_cases c3 : op = 18
    ·rw [if_neg c, if_neg c, if_neg c2, if_neg c2, if_pos c3, if_pos c3]
    ·rw [if_neg c, if_neg c, if_neg c2, if_neg c2, if_neg c3, if_neg c3]
 have j1 : ∀ b : Bool, Ev (fun k => impl_operandsOf.j1 k op b) (if b = true then (2, 1, 1) else if decide (14 ≤ op ∧ op ≤ 16) = true then (2, 1, 2) else if op = 17 then (2, 2, 2) else if op = 18 then (2, 2, 2) else (0, 0, 0)) := fun b => by
  by_cases hb : b = true
  ·rw [if_pos hb]; exact Ev.step (f := fun _ => some (2, 1, 1)) (fun k => by simp only [impl_operandsOf.j1]; rw [if_pos hb]) (Ev.now _)
  ·rw [if_neg hb]
   by_cases h : op ≥ 14
   ·refine ev_eq (Ev.step (fun k => by simp only [impl_operandsOf.j1]; rw [if_neg hb, if_pos h]) (j2 _)) ?_
    have : (op ≤ 16) ↔ (14 ≤ op ∧ op ≤ 16) := ⟨fun g => ⟨h, g⟩, fun g => g.2⟩
    rw [decide_eq_decide.2 this]
   ·refine ev_eq (Ev.step (fun k => by simp only [impl_operandsOf.j1]; rw [if_neg hb, if_neg h]) (j2 _)) ?_
    have : ¬ (14 ≤ op ∧ op ≤ 16) := by omega
    simp [this]
 have j0 : ∀ b : Bool, b = decide (op = 1 ∨ op = 2) → ∃ p, Ev (fun k => impl_operandsOf.j0 k op b) ((needMany op : Int), p, needOwn op) ∧ (0 < needMany op → p = needPart op) := fun b hb => by
  by_cases h1 : b = true
  ·have h2 : op = 1 ∨ op = 2 := by rw [hb] at h1; simpa using h1
   refine ⟨0, Ev.step (f := fun _ => some ((needMany op : Int), 0, needOwn op)) (fun k => ?_) (Ev.now _), fun h => ?_⟩
   ·simp only [impl_operandsOf.j0]; rw [if_pos h1]; rcases h2 with rfl | rfl <;> rfl
   ·rcases h2 with rfl | rfl <;> simp [needMany] at h
  ·have h2 : ¬ (op = 1 ∨ op = 2) := by rw [hb] at h1; simpa using h1
   by_cases h20 : op = 20
   ·subst h20; exact ⟨0, Ev.step (f := fun _ => some (0, 0, 2)) (fun k => by simp [impl_operandsOf.j0, h1]) (Ev.now _), fun h => by simp [needMany] at h⟩
   by_cases h13 : op = 13
   ·subst h13; exact ⟨1, Ev.step (f := fun _ => some (1, 1, 1)) (fun k => by simp [impl_operandsOf.j0, h1]) (Ev.now _), fun _ => rfl⟩
   by_cases h19 : op = 19
   ·subst h19; exact ⟨2, Ev.step (f := fun _ => some (1, 2, 2)) (fun k => by simp [impl_operandsOf.j0, h1]) (Ev.now _), fun _ => rfl⟩
   have key : ∃ p, (if decide (3 ≤ op ∧ op ≤ 12) = true then ((2 : Int), (1 : Int), (1 : Int)) else if decide (14 ≤ op ∧ op ≤ 16) = true then (2, 1, 2) else if op = 17 then (2, 2, 2) else if op = 18 then (2, 2, 2) else (0, 0, 0)) = ((needMany op : Int), p, needOwn op) ∧ (0 < needMany op → p = needPart op) := by
    simp only [decide_eq_true_eq]
    by_cases a1 : 3 ≤ op ∧ op ≤ 12
    ·exact ⟨1, by rw [if_pos a1, needMany, needOwn, if_neg (by omega), if_neg (by omega), if_pos (by omega), if_neg (by omega), if_pos (by omega)]; rfl, fun _ => by rw [needPart, if_neg (by omega)]⟩
    by_cases a2 : 14 ≤ op ∧ op ≤ 16
    ·exact ⟨1, by rw [if_neg a1, if_pos a2, needMany, needOwn, if_neg (by omega), if_neg (by omega), if_pos (by omega), if_pos (by omega)]; rfl, fun _ => by rw [needPart, if_neg (by omega)]⟩
    by_cases a3 : op = 17
    ·subst a3; exact ⟨2, rfl, fun _ => rfl⟩
    by_cases a4 : op = 18
    ·subst a4; exact ⟨2, rfl, fun _ => rfl⟩
    ·have e : needMany op = 0 := by rw [needMany, if_neg (by omega), if_neg (by omega), if_neg (by omega)]
     exact ⟨0, by rw [if_neg a1, if_neg a2, if_neg a3, if_neg a4, e, needOwn, if_neg (by omega), if_neg (by omega)]; rfl, fun h => by omega⟩
   obtain ⟨p, e1, e2⟩ := key
   refine ⟨p, ?_, e2⟩
   by_cases h3 : op ≥ 3
   ·refine Ev.step (fun k => by simp only [impl_operandsOf.j0]; rw [if_neg h1, if_neg h20, if_neg h13, if_neg h19, if_pos h3]) (ev_eq (j1 _) ?_)
    rw [← e1]
    have : (op ≤ 12) ↔ (3 ≤ op ∧ op ≤ 12) := ⟨fun g => ⟨h3, g⟩, fun g => g.2⟩
    rw [decide_eq_decide.2 this]
   ·refine Ev.step (fun k => by simp only [impl_operandsOf.j0]; rw [if_neg h1, if_neg h20, if_neg h13, if_neg h19, if_neg h3]) (ev_eq (j1 _) ?_)
    rw [← e1]
    have : ¬ (3 ≤ op ∧ op ≤ 12) := by omega
    simp [this]
 by_cases h1 : op = 1
 ·obtain ⟨p, e1, e2⟩ := j0 true (by simp [h1])
  exact ⟨p, ev_pos h1 e1, e2⟩
 ·obtain ⟨p, e1, e2⟩ := j0 (op == 2) (by simp [h1]; rfl)
  exact ⟨p, ev_neg h1 e1, e2⟩
def DoOk (wi : Int) : Prop := ∀ op a b : Int, needMany op = 2 → VOk wi (needPart op) a → VOk wi (needPart op) b → ∃ c, Ev (fun k => spec_l2Do.f k wi op a b) c ∧ Ev (fun k => impl_apply.f k wi op a b) c ∧ VOk wi (needOwn op) c
def FlOk (wi : Int) : Prop := ∀ a : Int, VOk wi 1 a → ∃ c mk, Ev (fun k => spec_l1Cut.f k wi (Go.bits .xor .u64 18446744073709551615 a)) c ∧ impl_mask.f wi = some mk ∧ Go.bits .and .u64 (Go.bits .xor .u64 18446744073709551615 a) mk = c ∧ VOk wi 1 c
theorem value_one (wi va : Int) (t : List S79) (s : List Int) (hs : StateOk wi va s) (hp : ∀ a ∈ s, 0 ≤ a) (n : Nat) (hn : n < t.length) (ht : t.length ≤ 48) (h1 : 0 ≤ (t.getD n z79).f1) (S : List (Nat × Int × Int)) (hS : Piled wi t s n S) (hl : S.length ≤ n)
  (hf : fits wi va (t.getD n z79) (kindsOf S)) (hm : needMany (t.getD n z79).f0 = 0) (hw : 1 ≤ wi ∧ wi ≤ 64) :
  ∃ v, Ev (fun k => spec_l2Value.f k wi t (n : Int) s) v ∧ VOk wi (needOwn (t.getD n z79).f0) v ∧ ∀ r, Ev (fun k => impl_valueOf.l0 k wi s (valsOf S ++ [v]) t (t.length : Int) ((n + 1 : Nat) : Int)) r → Ev (fun k => impl_valueOf.l0 k wi s (valsOf S) t (t.length : Int) (n : Int)) r := by
 have er : rd_T79 t (n : Int) = t.getD n z79 := by simp [rd_T79]
 obtain ⟨p, hp2, _⟩ := l2Need_ev (t.getD n z79).f0
 obtain ⟨f1, f2, _, _⟩ := hf
 have hlv : (valsOf S).length = S.length := by simp [valsOf]
 generalize t.getD n z79 = x at er h1 f1 f2 hp2 hm ⊢
 rw [hm] at hp2
 have hv : ∀ v, (x.f0 = 2 → 0 ≤ x.f1 ∧ x.f1 < (s.length : Int) ∧ v = rd s x.f1) → (x.f0 ≠ 2 → v = x.f1) → Ev (fun k => spec_l2Value.f k wi t (n : Int) s) v := fun v g1 g2 => by
  refine Ev.step (fun k => by simp only [spec_l2Value.f]; rw [if_pos (by omega), if_pos (by omega), er]) (Ev.bind hp2 ?_)
  by_cases c : x.f0 = 2
  ·obtain ⟨g3, g4, rfl⟩ := g1 c
   exact ev_pos c (ev_pos g3 (ev_pos g4 (Ev.now _)))
  ·rw [g2 c]
   exact ev_neg c (ev_pos rfl (Ev.now _))
 have e0 : ∀ r, Ev (fun k => impl_valueOf.j1 k wi s (valsOf S) (wrap64 (((valsOf S).length : Int) - 1)) t (t.length : Int) (n : Int) x.f0 (decide (x.f0 = 1 ∨ x.f0 = 20)) x.f0 x.f1) r → Ev (fun k => impl_valueOf.l0 k wi s (valsOf S) t (t.length : Int) (n : Int)) r := fun r h => by
  by_cases c : x.f0 = 1
  ·refine Ev.step (fun k => by simp only [impl_valueOf.l0]; rw [if_pos (by omega), if_pos (by omega), if_pos (by omega), er, if_pos c]) ?_
   rw [show (x.f0 == 1) = decide (x.f0 = 1 ∨ x.f0 = 20) by simp [c]]; exact h
  ·refine Ev.step (fun k => by simp only [impl_valueOf.l0]; rw [if_pos (by omega), if_pos (by omega), if_pos (by omega), er, if_neg c]) ?_
   rw [show (x.f0 == 20) = decide (x.f0 = 1 ∨ x.f0 = 20) by simp [c]; rfl]; exact h
 have hop : x.f0 = 1 ∨ x.f0 = 2 ∨ x.f0 = 20 := by
  refine Classical.byContradiction (fun h => ?_)
  unfold needMany at hm; unfold needOwn at f1
  rw [if_neg h] at hm
  by_cases c : x.f0 = 13 ∨ x.f0 = 19
  ·rw [if_pos c] at hm; omega
  ·rw [if_neg c] at hm
   by_cases c2 : 3 ≤ x.f0 ∧ x.f0 ≤ 18
   ·rw [if_pos c2] at hm; omega
   ·exact f1 (by rw [if_neg (by omega), if_neg (by omega)])
 unfold NOk at f2
 by_cases c2 : x.f0 = 2
 ·rw [if_neg (by omega), if_pos c2] at f2
  have hb : x.f1 < (s.length : Int) := by rw [hs.1]; exact f2
  obtain ⟨q, hq⟩ := Int.eq_ofNat_of_zero_le h1
  have hmem : rd s x.f1 ∈ s := by rw [hq, rd_nat]; exact getD_mem (by omega) 0
  refine ⟨rd s x.f1, hv _ (fun _ => ⟨h1, hb, rfl⟩) (fun h => absurd c2 h), ⟨hp _ hmem, hs.2 _ hmem, fun h => ?_⟩, fun r h => e0 r ?_⟩
  ·rw [c2] at h; simp [needOwn] at h
  ·exact Ev.step (fun k => by simp only [impl_valueOf.j1]; rw [if_neg (by simp; omega), if_pos c2, if_pos h1, if_pos hb, if_pos (by omega), wsucc (by omega)]) h
 ·refine ⟨x.f1, hv _ (fun h => absurd h c2) (fun _ => rfl), ?_, fun r h => e0 r ?_⟩
  ·by_cases c1 : x.f0 = 1
   ·rw [if_pos c1] at f2
    exact ⟨h1, f2, fun h => by rw [c1] at h; simp [needOwn] at h⟩
   ·rw [if_neg c1, if_neg c2, if_pos (by omega)] at f2
    refine ⟨h1, ⟨hw.1, hw.2, ?_⟩, fun _ => f2⟩
    have h3 : 2 ^ 1 ≤ 2 ^ wi.toNat := Nat.pow_le_pow_right (by omega) (by omega)
    have h4 : ((2 ^ wi.toNat : Nat) : Int) = (2 : Int) ^ wi.toNat := by simp
    rw [← h4]
    generalize 2 ^ wi.toNat = q at h3
    omega
  ·exact Ev.step (fun k => by simp only [impl_valueOf.j1]; rw [if_pos (by simp; omega), if_pos (by omega), wsucc (by omega)]) h
theorem value_un (wi va : Int) (hFl : FlOk wi) (t : List S79) (s : List Int) (n : Nat) (hn : n < t.length) (ht : t.length ≤ 48) (y : Nat × Int × Int) (R : List (Nat × Int × Int)) (hS : Piled wi t s n (y :: R)) (hl : (y :: R).length ≤ n)
  (hf : fits wi va (t.getD n z79) (kindsOf (y :: R))) (hm : needMany (t.getD n z79).f0 = 1) (hw : 1 ≤ wi ∧ wi ≤ 64) :
  ∃ v, Ev (fun k => spec_l2Value.f k wi t (n : Int) s) v ∧ VOk wi (needOwn (t.getD n z79).f0) v ∧ ∀ r, Ev (fun k => impl_valueOf.l0 k wi s (valsOf R ++ [v]) t (t.length : Int) ((n + 1 : Nat) : Int)) r → Ev (fun k => impl_valueOf.l0 k wi s (valsOf (y :: R)) t (t.length : Int) (n : Int)) r := by
 have er : rd_T79 t (n : Int) = t.getD n z79 := by simp [rd_T79]
 obtain ⟨p, hp2, _⟩ := l2Need_ev (t.getD n z79).f0
 obtain ⟨f1, f2, f3, f4⟩ := hf
 obtain ⟨⟨h0, _⟩, hev, _, hvk, _⟩ := hS
 have hst : valsOf (y :: R) = valsOf R ++ [y.2.1] := by simp [valsOf]
 have hlR : (valsOf R).length = R.length := by simp [valsOf]
 have hk : y.2.2 = needPart (t.getD n z79).f0 := f4 _ (by
  rw [hm]
  have e : kindsOf (y :: R) = kindsOf R ++ [y.2.2] := by simp [kindsOf]
  rw [e, List.length_append, List.length_singleton, Nat.add_sub_cancel, List.drop_left]; simp)
 rw [hst]
 generalize t.getD n z79 = x at er f1 f2 hp2 hm hk ⊢
 rw [hm] at hp2
 have hop : x.f0 = 13 ∨ x.f0 = 19 := by
  refine Classical.byContradiction (fun h => ?_)
  unfold needMany at hm
  by_cases c : x.f0 = 1 ∨ x.f0 = 2 ∨ x.f0 = 20
  ·rw [if_pos c] at hm; omega
  ·rw [if_neg c, if_neg h] at hm
   by_cases c2 : 3 ≤ x.f0 ∧ x.f0 ≤ 18
   ·rw [if_pos c2] at hm; omega
   ·rw [if_neg c2] at hm; omega
 have hll : ((valsOf R ++ [y.2.1]).length : Int) - 1 = ((valsOf R).length : Int) := by simp
 have wl : wrap64 (((valsOf R ++ [y.2.1]).length : Int) - 1) = ((valsOf R).length : Int) := by rw [hll]; exact wid (by omega) (by simp at hl; omega)
 have hrd : rd (valsOf R ++ [y.2.1]) ((valsOf R).length : Int) = y.2.1 := by rw [rd_nat]; simp [List.getD_eq_getElem?_getD]
 have hset : ∀ v, (valsOf R ++ [y.2.1]).set (((valsOf R).length : Int)).toNat v = valsOf R ++ [v] := fun v => by rw [Int.toNat_natCast]; simp
 have wn : wrap64 ((n : Int) - 1) = (y.1 : Int) := by rw [show (n : Int) - 1 = (y.1 : Int) by omega]; exact wid (by omega) (by omega)
 have e0 : ∀ r, Ev (fun k => impl_valueOf.j1 k wi s (valsOf R ++ [y.2.1]) ((valsOf R).length : Int) t (t.length : Int) (n : Int) x.f0 false x.f0 x.f1) r → Ev (fun k => impl_valueOf.l0 k wi s (valsOf R ++ [y.2.1]) t (t.length : Int) (n : Int)) r := fun r h => by
  refine Ev.step (fun k => by simp only [impl_valueOf.l0]; rw [if_pos (by omega), if_pos (by omega), if_pos (by omega), er, if_neg (by omega), wl]) ?_
  rw [show (x.f0 == 20) = false by rw [beq_eq_false_iff_ne]; omega]; exact h
 have hin : ((valsOf R).length : Int) < ((valsOf R ++ [y.2.1]).length : Int) := by omega
 rcases hop with c | c
 ·have hk1 : VOk wi 1 y.2.1 := by rw [hk, c] at hvk; exact hvk
  obtain ⟨cc, mk, q1, q2, q3, q4⟩ := hFl _ hk1
  refine ⟨cc, Ev.step (fun k => by simp only [spec_l2Value.f]; rw [if_pos (by omega), if_pos (by omega), er]) (Ev.bind hp2 ?_), by rw [c]; exact q4, fun r h => e0 r ?_⟩
  ·refine ev_neg (by omega) (ev_neg (show ¬ ((1 : Nat) : Int) = 0 by omega) (ev_pos c ?_))
   exact Ev.congr (fun k => by rw [wn]) (Ev.bind hev (Ev.bind q1 (Ev.now _)))
  ·refine Ev.step (fun k => by simp only [impl_valueOf.j1]; rw [if_neg (by simp), if_neg (by omega), if_pos c, if_pos (by omega), if_pos hin, q2, Option.bind_some, hrd, q3, hset, wsucc (by omega)]) h
 ·have hk1 : VOk wi 2 y.2.1 := by rw [hk, c] at hvk; exact hvk
  have hv1 := hk1.2.2 rfl
  have hv0 := hk1.1
  have hu : IntKind.u64.wrap (1 - y.2.1) = 1 - y.2.1 := by rw [wu, Int.emod_eq_of_lt (by omega) (by omega)]
  refine ⟨1 - y.2.1, Ev.step (fun k => by simp only [spec_l2Value.f]; rw [if_pos (by omega), if_pos (by omega), er]) (Ev.bind hp2 ?_), ⟨by omega, ⟨hw.1, hw.2, ?_⟩, fun _ => by omega⟩, fun r h => e0 r ?_⟩
  ·refine ev_neg (by omega) (ev_neg (show ¬ ((1 : Nat) : Int) = 0 by omega) (ev_neg (by omega) (ev_pos c ?_)))
   exact Ev.congr (fun k => by rw [wn]) (Ev.bind hev (Ev.congr (fun k => by rw [hu]) (Ev.now _)))
  ·have h3 : 2 ^ 1 ≤ 2 ^ wi.toNat := Nat.pow_le_pow_right (by omega) (by omega)
   have h4 : ((2 ^ wi.toNat : Nat) : Int) = (2 : Int) ^ wi.toNat := by simp
   rw [← h4]
   generalize 2 ^ wi.toNat = q at h3
   omega
  ·refine Ev.step (fun k => by simp only [impl_valueOf.j1]; rw [if_neg (by simp), if_neg (by omega), if_neg (by omega), if_pos c, if_pos (by omega), if_pos hin, hrd, hu, hset, wsucc (by omega)]) h
theorem value_bin (wi va : Int) (hDo : DoOk wi) (t : List S79) (s : List Int) (n : Nat) (hn : n < t.length) (ht : t.length ≤ 48) (y z : Nat × Int × Int) (R : List (Nat × Int × Int)) (hS : Piled wi t s n (y :: z :: R)) (hl : (y :: z :: R).length ≤ n)
  (hf : fits wi va (t.getD n z79) (kindsOf (y :: z :: R))) (hm : needMany (t.getD n z79).f0 = 2) :
  ∃ v, Ev (fun k => spec_l2Value.f k wi t (n : Int) s) v ∧ VOk wi (needOwn (t.getD n z79).f0) v ∧ ∀ r, Ev (fun k => impl_valueOf.l0 k wi s (valsOf R ++ [v]) t (t.length : Int) ((n + 1 : Nat) : Int)) r → Ev (fun k => impl_valueOf.l0 k wi s (valsOf (y :: z :: R)) t (t.length : Int) (n : Int)) r := by
 have er : rd_T79 t (n : Int) = t.getD n z79 := by simp [rd_T79]
 obtain ⟨p, hp2, _⟩ := l2Need_ev (t.getD n z79).f0
 obtain ⟨f1, f2, f3, f4⟩ := hf
 obtain ⟨⟨h0, hle⟩, hev, hfr, hvk, hz⟩ := hS
 obtain ⟨_, hev2, _, hvk2, _⟩ := hz
 have hle : z.1 + 1 ≤ y.1 := hle
 have hfr : Ev (fun k => spec_l2From.f k t (y.1 : Int)) ((z.1 + 1 : Nat) : Int) := hfr
 have hst : valsOf (y :: z :: R) = valsOf R ++ [z.2.1, y.2.1] := by simp [valsOf]
 have hlR : (valsOf R).length = R.length := by simp [valsOf]
 have hkk : ∀ q ∈ [z.2.2, y.2.2], q = needPart (t.getD n z79).f0 := fun q hq => f4 q (by
  rw [hm]
  have e : kindsOf (y :: z :: R) = kindsOf R ++ [z.2.2, y.2.2] := by simp [kindsOf]
  rw [e, List.length_append, show [z.2.2, y.2.2].length = 2 from rfl, Nat.add_sub_cancel, List.drop_left]; exact hq)
 have hk1 := hkk y.2.2 (by simp)
 have hk2 := hkk z.2.2 (by simp)
 rw [hst]
 generalize t.getD n z79 = x at er f1 f2 hp2 hm hk1 hk2 ⊢
 rw [hm] at hp2
 rw [hk1] at hvk
 rw [hk2] at hvk2
 obtain ⟨c, d1, d2, d3⟩ := hDo x.f0 _ _ hm hvk2 hvk
 have hop : 3 ≤ x.f0 ∧ x.f0 ≤ 18 ∧ x.f0 ≠ 13 := by
  unfold needMany at hm
  by_cases c : x.f0 = 1 ∨ x.f0 = 2 ∨ x.f0 = 20
  ·rw [if_pos c] at hm; omega
  ·rw [if_neg c] at hm
   by_cases c3 : x.f0 = 13 ∨ x.f0 = 19
   ·rw [if_pos c3] at hm; omega
   ·rw [if_neg c3] at hm
    by_cases c2 : 3 ≤ x.f0 ∧ x.f0 ≤ 18
    ·omega
    ·rw [if_neg c2] at hm; omega
 have hlen : (valsOf R ++ [z.2.1, y.2.1]).length = (valsOf R).length + 2 := by simp
 have hlb : (valsOf R).length + 2 ≤ 48 := by simp at hl; omega
 have wl : wrap64 (((valsOf R ++ [z.2.1, y.2.1]).length : Int) - 1) = (((valsOf R).length + 1 : Nat) : Int) := by rw [hlen, show (((valsOf R).length + 2 : Nat) : Int) - 1 = (((valsOf R).length + 1 : Nat) : Int) by omega]; exact wid (by omega) (by omega)
 have wl2 : wrap64 ((((valsOf R).length + 1 : Nat) : Int) - 1) = ((valsOf R).length : Int) := by rw [show (((valsOf R).length + 1 : Nat) : Int) - 1 = ((valsOf R).length : Int) by omega]; exact wid (by omega) (by omega)
 have hrd1 : rd (valsOf R ++ [z.2.1, y.2.1]) ((valsOf R).length : Int) = z.2.1 := by rw [rd_nat]; simp [List.getD_eq_getElem?_getD]
 have hrd2 : rd (valsOf R ++ [z.2.1, y.2.1]) (((valsOf R).length + 1 : Nat) : Int) = y.2.1 := by rw [rd_nat]; simp [List.getD_eq_getElem?_getD]
 have htk : (valsOf R ++ [z.2.1, y.2.1]).take (((valsOf R).length : Int)).toNat = valsOf R := by rw [Int.toNat_natCast, List.take_left]
 have wn : wrap64 ((n : Int) - 1) = (y.1 : Int) := by rw [show (n : Int) - 1 = (y.1 : Int) by omega]; exact wid (by omega) (by omega)
 have wz : wrap64 (((z.1 + 1 : Nat) : Int) - 1) = (z.1 : Int) := by rw [show ((z.1 + 1 : Nat) : Int) - 1 = (z.1 : Int) by omega]; exact wid (by omega) (by omega)
 refine ⟨c, Ev.step (fun k => by simp only [spec_l2Value.f]; rw [if_pos (by omega), if_pos (by omega), er]) (Ev.bind hp2 ?_), d3, fun r h => ?_⟩
 ·refine ev_neg (by omega) (ev_neg (show ¬ ((2 : Nat) : Int) = 0 by omega) (ev_neg (by omega) (ev_neg (by omega) ?_)))
  exact Ev.congr (fun k => by rw [wn]) (Ev.bind hfr (Ev.congr (fun k => by rw [wz]) (Ev.bind hev2 (Ev.bind hev (Ev.bind d1 (Ev.now _))))))
 ·refine Ev.step (fun k => by simp only [impl_valueOf.l0]; rw [if_pos (by omega), if_pos (by omega), if_pos (by omega), er, if_neg (by omega), wl]) ?_
  rw [show (x.f0 == 20) = false by rw [beq_eq_false_iff_ne]; omega]
  refine Ev.step (fun k => by simp only [impl_valueOf.j1]; rw [if_neg (by simp), if_neg (by omega), if_neg (by omega), if_neg (by omega), wl2, if_pos (by omega), if_pos (by omega), if_pos (by omega), if_pos (by omega), if_pos (by omega), htk, hrd1, hrd2, wsucc (by omega), Option.bind_some]) (Ev.bind d2 ?_)
  exact ev_pos (show (valsOf R).length < 17592186044416 by omega) h
theorem kindsOf_length (S : List (Nat × Int × Int)) : (kindsOf S).length = S.length := by simp [kindsOf]
theorem value_step (wi va : Int) (hDo : DoOk wi) (hFl : FlOk wi) (hw : 1 ≤ wi ∧ wi ≤ 64) (t : List S79) (s : List Int) (hs : StateOk wi va s) (hp : ∀ a ∈ s, 0 ≤ a) (n : Nat) (hn : n < t.length) (ht : t.length ≤ 48) (h1 : 0 ≤ (t.getD n z79).f1) (S : List (Nat × Int × Int)) (hS : Piled wi t s n S) (hl : S.length ≤ n)
  (hf : fits wi va (t.getD n z79) (kindsOf S)) :
  ∃ S', Piled wi t s (n + 1) S' ∧ S'.length ≤ n + 1 ∧ kindsOf S' = pile (t.getD n z79) (kindsOf S) ∧ ∀ r, Ev (fun k => impl_valueOf.l0 k wi s (valsOf S') t (t.length : Int) ((n + 1 : Nat) : Int)) r → Ev (fun k => impl_valueOf.l0 k wi s (valsOf S) t (t.length : Int) (n : Int)) r := by
 have hm := hf.2.2.1
 rw [kindsOf_length] at hm
 obtain ⟨g1, g2, g3⟩ := from_next wi t s n hn ht S hS hm
 have key : ∃ v, Ev (fun k => spec_l2Value.f k wi t (n : Int) s) v ∧ VOk wi (needOwn (t.getD n z79).f0) v ∧ ∀ r, Ev (fun k => impl_valueOf.l0 k wi s (valsOf (S.drop (needMany (t.getD n z79).f0)) ++ [v]) t (t.length : Int) ((n + 1 : Nat) : Int)) r → Ev (fun k => impl_valueOf.l0 k wi s (valsOf S) t (t.length : Int) (n : Int)) r := by
  have h2 := needMany_le (t.getD n z79).f0
  rcases (show needMany (t.getD n z79).f0 = 0 ∨ needMany (t.getD n z79).f0 = 1 ∨ needMany (t.getD n z79).f0 = 2 by omega) with h | h | h
  ·rw [h, List.drop_zero]
   exact value_one wi va t s hs hp n hn ht h1 S hS hl hf h hw
  ·match S, hS, hl, hf, hm with
   | [], _, _, _, hm => rw [h] at hm; simp at hm
   | y :: R, hS, hl, hf, _ =>
    rw [h]
    exact value_un wi va hFl t s n hn ht y R hS hl hf h hw
  ·match S, hS, hl, hf, hm with
   | [], _, _, _, hm => rw [h] at hm; simp at hm
   | [y], _, _, _, hm => rw [h] at hm; simp at hm
   | y :: z :: R, hS, hl, hf, _ =>
    rw [h]
    exact value_bin wi va hDo t s n hn ht y z R hS hl hf h
 obtain ⟨v, q1, q2, q3⟩ := key
 refine ⟨(n, v, needOwn (t.getD n z79).f0) :: S.drop (needMany (t.getD n z79).f0), ⟨⟨rfl, g3⟩, q1, g1, q2, g2⟩, by simp; omega, ?_, fun r h => q3 r ?_⟩
 ·unfold pile
  rw [kindsOf_length]
  simp only [kindsOf, List.map_cons, List.reverse_cons, List.map_drop, List.append_cancel_right_eq]
  rw [List.reverse_drop, List.length_map]
 ·simpa [valsOf] using h
theorem value_l0 (wi va : Int) (hDo : DoOk wi) (hFl : FlOk wi) (hw : 1 ≤ wi ∧ wi ≤ 64) (t : List S79) (hx : ∀ x ∈ t, 0 ≤ x.f1) (s : List Int) (hs : StateOk wi va s) (hp : ∀ a ∈ s, 0 ≤ a) (ht : t.length ≤ 48) (kd : Int) (d : Nat) : ∀ (n : Nat) (S : List (Nat × Int × Int)), n + d = t.length → Piled wi t s n S → S.length ≤ n → Runs wi va (t.drop n) (kindsOf S) [kd] →
  ∃ v, Ev (fun k => impl_valueOf.l0 k wi s (valsOf S) t (t.length : Int) (n : Int)) v ∧ Ev (fun k => spec_l2Value.f k wi t ((t.length - 1 : Nat) : Int) s) v ∧ VOk wi kd v := by
 induction d with
 | zero =>
  intro n S hd hS hl hR
  rw [List.drop_of_length_le (by omega)] at hR
  have hR : kindsOf S = [kd] := hR
  match S, hS, hR with
  | [], _, hR => simp [kindsOf] at hR
  | [y], hS, hR =>
   obtain ⟨⟨h0, _⟩, h1, _, h3, _⟩ := hS
   have hk : y.2.2 = kd := by simpa [kindsOf] using hR
   have he : t.length - 1 = y.1 := by omega
   refine ⟨y.2.1, Ev.step (f := fun _ => some y.2.1) (fun k => by simp only [impl_valueOf.l0]; rw [if_neg (by omega), if_pos (by simp [valsOf])]; rfl) (Ev.now _), by rw [he]; exact h1, hk ▸ h3⟩
  | y :: z :: R, _, hR =>
   have := congrArg List.length hR
   simp [kindsOf] at this
 | succ d ih =>
  intro n S hd hS hl hR
  have hn : n < t.length := by omega
  rw [drop_cons hn z79] at hR
  obtain ⟨S', a1, a2, a3, a4⟩ := value_step wi va hDo hFl hw t s hs hp n hn ht (hx _ (getD_mem hn _)) S hS hl hR.1
  obtain ⟨v, b1, b2, b3⟩ := ih (n + 1) S' (by omega) a1 a2 (by rw [a3]; exact hR.2)
  exact ⟨v, a4 v b1, b2, b3⟩
theorem value_both (wi va kd : Int) (hDo : DoOk wi) (hFl : FlOk wi) (t : List S79) (hx : ∀ x ∈ t, 0 ≤ x.f1) (s : List Int) (hs : StateOk wi va s) (hp : ∀ a ∈ s, 0 ≤ a) (h : TermOf wi va t kd) :
  ∃ v, Ev (fun k => impl_valueOf.f k wi t s) v ∧ Ev (fun k => spec_l2Value.f k wi t (wrap64 ((t.length : Int) - 1)) s) v ∧ VOk wi kd v := by
 obtain ⟨v, a, b, c⟩ := value_l0 wi va hDo hFl h.1 t hx s hs hp h.2.2.1.2 kd t.length 0 [] (by omega) rfl (by simp) h.2.2.2
 have h1 := h.2.2.1
 have w : wrap64 ((t.length : Int) - 1) = ((t.length - 1 : Nat) : Int) := by rw [wid (by omega) (by omega)]; omega
 exact ⟨v, a, by rw [w]; exact b, c⟩
theorem flip_ok {wi : Int} (h : 1 ≤ wi ∧ wi ≤ 64) : FlOk wi := fun a ha => by
 have h1 := ha.2.1.le
 have h0 := ha.1
 have e := not_word a ha.1 h1
 refine ⟨(18446744073709551615 - a) % 2 ^ wi.toNat, 2 ^ wi.toNat - 1, ?_, mask_eq h.1 h.2, ?_, Int.emod_nonneg _ (Int.ne_of_gt (two_pos _)), ⟨h.1, h.2, Int.emod_lt_of_pos _ (two_pos _)⟩, fun g => by omega⟩
 ·rw [e]; exact l1Cut_ev wi _ (by omega) (by omega) (by omega)
 ·rw [e]; exact and_mask _ _ (by omega) (by omega) (by omega)
theorem cut_same {wi a : Int} (ha : GW wi a) (h0 : 0 ≤ a) : Go.bits .and .u64 a (2 ^ wi.toNat - 1) = a := by
 rw [and_mask a _ (by have := ha.2.1; omega) h0 ha.le]; exact Int.emod_eq_of_lt h0 ha.2.2
theorem vok_mod {wi : Int} (h : 1 ≤ wi ∧ wi ≤ 64) (x : Int) : VOk wi 1 (x % 2 ^ wi.toNat) :=
 ⟨Int.emod_nonneg _ (Int.ne_of_gt (two_pos _)), ⟨h.1, h.2, Int.emod_lt_of_pos _ (two_pos _)⟩, fun g => by omega⟩
theorem cut_wrap {wi : Int} (h : 1 ≤ wi ∧ wi ≤ 64) (x : Int) : Ev (fun k => spec_l1Cut.f k wi (IntKind.u64.wrap x)) (IntKind.u64.wrap x % 2 ^ wi.toNat) ∧ Go.bits .and .u64 (IntKind.u64.wrap x) (2 ^ wi.toNat - 1) = IntKind.u64.wrap x % 2 ^ wi.toNat :=
 ⟨l1Cut_ev wi _ (by omega) (wu_in x).1 (wu_in x).2, and_mask _ _ (by omega) (wu_in x).1 (wu_in x).2⟩
theorem div_both {wi a b : Int} (ha : GW wi a) (hb : GW wi b) (h0 : 0 ≤ a) (hb0 : 0 ≤ b) : ∃ q r, Ev (fun k => spec_DivWord.f k wi a b) (q, r, true) ∧ impl_DivWord.f wi a b = some (q, r, true) ∧ VOk wi 1 q ∧ VOk wi 1 r := by
 have hp := two_pos wi.toNat
 rcases Int.lt_or_eq_of_le hb0 with h | h
 ·refine ⟨a / b, a % b, spec_DivWord_yes ha hb h0 h, DivWord_yes ha hb h0 h, ⟨Int.ediv_nonneg h0 hb0, ⟨ha.1, ha.2.1, ?_⟩, fun g => by omega⟩, ⟨Int.emod_nonneg _ (by omega), ⟨ha.1, ha.2.1, ?_⟩, fun g => by omega⟩⟩
  ·exact Int.lt_of_le_of_lt (Int.ediv_le_self _ h0) ha.2.2
  ·exact Int.lt_trans (Int.emod_lt_of_pos _ h) hb.2.2
 ·subst h
  have e : (18446744073709551615 : Int) % 2 ^ wi.toNat = 2 ^ wi.toNat - 1 := by
   have hd := two_dvd (n := wi.toNat) (by have := ha.2.1; omega)
   obtain ⟨c, hc⟩ := hd
   rw [show (18446744073709551615 : Int) = (2 ^ wi.toNat - 1) + 2 ^ wi.toNat * (c - 1) by rw [Int.mul_sub, ← hc]; omega, Int.add_mul_emod_self_left]
   exact Int.emod_eq_of_lt (by omega) (by omega)
  refine ⟨2 ^ wi.toNat - 1, a, e ▸ spec_DivWord_zero ha hb h0, DivWord_zero ha hb, ⟨by omega, ⟨ha.1, ha.2.1, by omega⟩, fun g => by omega⟩, ⟨h0, ha, fun g => by omega⟩⟩
def DoAt (wi op a b : Int) : Prop := ∃ c, Ev (fun k => spec_l2Do.f k wi op a b) c ∧ Ev (fun k => impl_apply.f k wi op a b) c ∧ VOk wi (needOwn op) c
section
variable {wi a b : Int}
theorem do_add (ha : GW wi a) (hb : GW wi b) (h0 : 0 ≤ a) (hb0 : 0 ≤ b) : DoAt wi 3 a b := by
 have h : 1 ≤ wi ∧ wi ≤ 64 := ⟨ha.1, ha.2.1⟩
 obtain ⟨q, r, d1, _, _, _⟩ := div_both ha hb h0 hb0
 obtain ⟨c1, c2⟩ := cut_wrap h (a + b)
 refine ⟨_, Ev.bind d1 (Ev.congr (fun k => by simp) (Ev.bind c1 (Ev.now _))), Ev.congr (f := fun _ => some (IntKind.u64.wrap (a + b) % 2 ^ wi.toNat)) (fun k => by simp [impl_apply.f, mask_eq h.1 h.2, c2]) (Ev.now _), vok_mod h _⟩
theorem do_sub (ha : GW wi a) (hb : GW wi b) (h0 : 0 ≤ a) (hb0 : 0 ≤ b) : DoAt wi 4 a b := by
 have h : 1 ≤ wi ∧ wi ≤ 64 := ⟨ha.1, ha.2.1⟩
 obtain ⟨q, r, d1, _, _, _⟩ := div_both ha hb h0 hb0
 obtain ⟨c1, c2⟩ := cut_wrap h (a - b)
 refine ⟨_, Ev.bind d1 (Ev.congr (fun k => by simp) (Ev.bind c1 (Ev.now _))), Ev.congr (f := fun _ => some (IntKind.u64.wrap (a - b) % 2 ^ wi.toNat)) (fun k => by simp [impl_apply.f, mask_eq h.1 h.2, c2]) (Ev.now _), vok_mod h _⟩
theorem do_mul (ha : GW wi a) (hb : GW wi b) (h0 : 0 ≤ a) (hb0 : 0 ≤ b) : DoAt wi 5 a b := by
 have h : 1 ≤ wi ∧ wi ≤ 64 := ⟨ha.1, ha.2.1⟩
 obtain ⟨q, r, d1, _, _, _⟩ := div_both ha hb h0 hb0
 obtain ⟨c1, c2⟩ := cut_wrap h (a * b)
 refine ⟨_, Ev.bind d1 (Ev.congr (fun k => by simp) (Ev.bind c1 (Ev.now _))), Ev.congr (f := fun _ => some (IntKind.u64.wrap (a * b) % 2 ^ wi.toNat)) (fun k => by simp [impl_apply.f, mask_eq h.1 h.2, c2]) (Ev.now _), vok_mod h _⟩
theorem do_div (ha : GW wi a) (hb : GW wi b) (h0 : 0 ≤ a) (hb0 : 0 ≤ b) : DoAt wi 6 a b := by
 have h : 1 ≤ wi ∧ wi ≤ 64 := ⟨ha.1, ha.2.1⟩
 obtain ⟨q, r, d1, d2, d3, d4⟩ := div_both ha hb h0 hb0
 refine ⟨q, Ev.bind d1 (Ev.congr (f := fun _ => some q) (fun k => by simp) (Ev.now _)), Ev.congr (f := fun _ => some q) (fun k => by simp [impl_apply.f, mask_eq h.1 h.2, d2, cut_same d3.2.1 d3.1]) (Ev.now _), d3⟩
theorem do_rem (ha : GW wi a) (hb : GW wi b) (h0 : 0 ≤ a) (hb0 : 0 ≤ b) : DoAt wi 7 a b := by
 have h : 1 ≤ wi ∧ wi ≤ 64 := ⟨ha.1, ha.2.1⟩
 obtain ⟨q, r, d1, d2, d3, d4⟩ := div_both ha hb h0 hb0
 refine ⟨r, Ev.bind d1 (Ev.congr (f := fun _ => some r) (fun k => by simp) (Ev.now _)), Ev.congr (f := fun _ => some r) (fun k => by simp [impl_apply.f, mask_eq h.1 h.2, d2, cut_same d4.2.1 d4.1]) (Ev.now _), d4⟩
theorem and_vok {n : Int} (ha : VOk wi n a) (hb : VOk wi n b) : VOk wi n (Go.bits .and .u64 a b) := by
 obtain ⟨x, rfl⟩ := Int.eq_ofNat_of_zero_le ha.1
 obtain ⟨y, rfl⟩ := Int.eq_ofNat_of_zero_le hb.1
 have h1 := ha.2.1.le
 have h2 := hb.2.1.le
 have h3 : x &&& y ≤ x := Nat.and_le_left
 rw [bits_and_u64_nat _ _ (by omega) (by omega)]
 refine ⟨Int.natCast_nonneg _, ⟨ha.2.1.1, ha.2.1.2.1, ?_⟩, fun g => ?_⟩
 ·have := ha.2.1.2.2; omega
 ·have := ha.2.2 g; omega
theorem or_vok {n : Int} (ha : VOk wi n a) (hb : VOk wi n b) : VOk wi n (Go.bits .or .u64 a b) := by
 obtain ⟨x, rfl⟩ := Int.eq_ofNat_of_zero_le ha.1
 obtain ⟨y, rfl⟩ := Int.eq_ofNat_of_zero_le hb.1
 have h1 := ha.2.1.le
 have h2 := hb.2.1.le
 rw [bits_or_u64_nat _ _ (by omega) (by omega)]
 refine ⟨Int.natCast_nonneg _, ⟨ha.2.1.1, ha.2.1.2.1, ?_⟩, fun g => ?_⟩
 ·have g1 := ha.2.1.2.2
  have g2 := hb.2.1.2.2
  rw [← two_nat] at g1 g2 ⊢
  exact Int.ofNat_lt.2 (Nat.or_lt_two_pow (Int.ofNat_lt.1 g1) (Int.ofNat_lt.1 g2))
 ·have g1 := ha.2.2 g
  have g2 := hb.2.2 g
  have : x ||| y < 2 ^ 1 := Nat.or_lt_two_pow (by omega) (by omega)
  omega
theorem xor_vok (ha : VOk wi 1 a) (hb : VOk wi 1 b) : VOk wi 1 (Go.bits .xor .u64 a b) := by
 obtain ⟨x, rfl⟩ := Int.eq_ofNat_of_zero_le ha.1
 obtain ⟨y, rfl⟩ := Int.eq_ofNat_of_zero_le hb.1
 have h1 := ha.2.1.le
 have h2 := hb.2.1.le
 rw [bits_xor_u64_nat _ _ (by omega) (by omega)]
 refine ⟨Int.natCast_nonneg _, ⟨ha.2.1.1, ha.2.1.2.1, ?_⟩, fun g => by omega⟩
 have g1 := ha.2.1.2.2
 have g2 := hb.2.1.2.2
 rw [← two_nat] at g1 g2 ⊢
 exact Int.ofNat_lt.2 (Nat.xor_lt_two_pow (Int.ofNat_lt.1 g1) (Int.ofNat_lt.1 g2))
theorem bool_vok (h : 1 ≤ wi ∧ wi ≤ 64) (c : Prop) [Decidable c] : VOk wi 2 (if c then 1 else 0) := by
 have h3 : 2 ^ 1 ≤ 2 ^ wi.toNat := Nat.pow_le_pow_right (by omega) (by omega)
 have h5 : (2 : Int) ≤ 2 ^ wi.toNat := by rw [← two_nat]; omega
 split
 ·exact ⟨by omega, ⟨h.1, h.2, by omega⟩, fun _ => by omega⟩
 ·exact ⟨by omega, ⟨h.1, h.2, by omega⟩, fun _ => by omega⟩
theorem do_and {op : Int} (ho : op = 8 ∨ op = 17) (ha : VOk wi (needPart op) a) (hb : VOk wi (needPart op) b) : DoAt wi op a b := by
 have h : 1 ≤ wi ∧ wi ≤ 64 := ⟨ha.2.1.1, ha.2.1.2.1⟩
 obtain ⟨q, r, d1, _, _, _⟩ := div_both ha.2.1 hb.2.1 ha.1 hb.1
 have hv := and_vok ha hb
 have hn : needPart op = needOwn op := by rcases ho with rfl | rfl <;> rfl
 have hc := cut_same hv.2.1 hv.1
 refine ⟨Go.bits .and .u64 a b, Ev.bind d1 (Ev.congr (f := fun k => spec_l2Do.j0 k wi a b op true) (fun k => by rcases ho with rfl | rfl <;> simp) (Ev.step (f := fun _ => some (Go.bits .and .u64 a b)) (fun k => by simp [spec_l2Do.j0]) (Ev.now _))), Ev.congr (f := fun k => impl_apply.j0 k wi op a b 0 op true) (fun k => by rcases ho with rfl | rfl <;> simp [impl_apply.f]) (Ev.step (f := fun _ => some (Go.bits .and .u64 a b)) (fun k => by simp [impl_apply.j0, mask_eq h.1 h.2, hc]) (Ev.now _)), hn ▸ hv⟩
theorem do_or {op : Int} (ho : op = 9 ∨ op = 18) (ha : VOk wi (needPart op) a) (hb : VOk wi (needPart op) b) : DoAt wi op a b := by
 have h : 1 ≤ wi ∧ wi ≤ 64 := ⟨ha.2.1.1, ha.2.1.2.1⟩
 obtain ⟨q, r, d1, _, _, _⟩ := div_both ha.2.1 hb.2.1 ha.1 hb.1
 have hv := or_vok ha hb
 have hn : needPart op = needOwn op := by rcases ho with rfl | rfl <;> rfl
 have hc := cut_same hv.2.1 hv.1
 refine ⟨Go.bits .or .u64 a b, Ev.bind d1 (Ev.congr (f := fun k => spec_l2Do.j0 k wi a b op false) (fun k => by rcases ho with rfl | rfl <;> simp) (Ev.step (f := fun k => spec_l2Do.j1 k wi a b op true) (fun k => by rcases ho with rfl | rfl <;> simp [spec_l2Do.j0]) (Ev.step (f := fun _ => some (Go.bits .or .u64 a b)) (fun k => by simp [spec_l2Do.j1]) (Ev.now _)))), Ev.congr (f := fun k => impl_apply.j0 k wi op a b 0 op false) (fun k => by rcases ho with rfl | rfl <;> simp [impl_apply.f]) (Ev.step (f := fun k => impl_apply.j1 k wi op a b 0 op true) (fun k => by rcases ho with rfl | rfl <;> simp [impl_apply.j0]) (Ev.step (f := fun _ => some (Go.bits .or .u64 a b)) (fun k => by simp [impl_apply.j1, mask_eq h.1 h.2, hc]) (Ev.now _))), hn ▸ hv⟩
theorem do_xor (ha : VOk wi 1 a) (hb : VOk wi 1 b) : DoAt wi 10 a b := by
 have h : 1 ≤ wi ∧ wi ≤ 64 := ⟨ha.2.1.1, ha.2.1.2.1⟩
 obtain ⟨q, r, d1, _, _, _⟩ := div_both ha.2.1 hb.2.1 ha.1 hb.1
 have hv := xor_vok ha hb
 have hc := cut_same hv.2.1 hv.1
 refine ⟨Go.bits .xor .u64 a b, Ev.bind d1 (Ev.congr (f := fun k => spec_l2Do.j0 k wi a b 10 false) (fun k => by simp) (Ev.step (f := fun k => spec_l2Do.j1 k wi a b 10 false) (fun k => by simp [spec_l2Do.j0]) (Ev.step (f := fun _ => some (Go.bits .xor .u64 a b)) (fun k => by simp [spec_l2Do.j1]) (Ev.now _)))), Ev.congr (f := fun k => impl_apply.j0 k wi 10 a b 0 10 false) (fun k => by simp [impl_apply.f]) (Ev.step (f := fun k => impl_apply.j1 k wi 10 a b 0 10 false) (fun k => by simp [impl_apply.j0]) (Ev.step (f := fun _ => some (Go.bits .xor .u64 a b)) (fun k => by simp [impl_apply.j1, mask_eq h.1 h.2, hc]) (Ev.now _))), hv⟩
theorem do_eq (ha : VOk wi 1 a) (hb : VOk wi 1 b) : DoAt wi 14 a b := by
 have h : 1 ≤ wi ∧ wi ≤ 64 := ⟨ha.2.1.1, ha.2.1.2.1⟩
 obtain ⟨q, r, d1, _, _, _⟩ := div_both ha.2.1 hb.2.1 ha.1 hb.1
 have hv := bool_vok h (a = b)
 have hc := cut_same hv.2.1 hv.1
 generalize hz : (if a = b then (1 : Int) else 0) = z at hv hc
 have e1 : spec_l2Bool.f (a == b) = some z := by rw [← hz]; by_cases g : a = b <;> simp [spec_l2Bool.f, g]
 have e2 : impl_truth.f (a == b) = some z := by rw [← hz]; by_cases g : a = b <;> simp [impl_truth.f, g]
 refine ⟨z, Ev.bind d1 (Ev.congr (f := fun k => spec_l2Do.j0 k wi a b 14 false) (fun k => by simp) (Ev.step (f := fun k => spec_l2Do.j1 k wi a b 14 false) (fun k => by simp [spec_l2Do.j0]) (Ev.step (f := fun _ => some z) (fun k => by simp [spec_l2Do.j1, e1]) (Ev.now _)))), Ev.congr (f := fun k => impl_apply.j0 k wi 14 a b 0 14 false) (fun k => by simp [impl_apply.f]) (Ev.step (f := fun k => impl_apply.j1 k wi 14 a b 0 14 false) (fun k => by simp [impl_apply.j0]) (Ev.step (f := fun k => impl_apply.j2 k wi 14 a b 0 14 false) (fun k => by simp [impl_apply.j1]) (Ev.step (f := fun _ => some z) (fun k => by simp [impl_apply.j2, e2, mask_eq h.1 h.2, hc]) (Ev.now _)))), hv⟩
theorem do_less (ha : VOk wi 1 a) (hb : VOk wi 1 b) : DoAt wi 15 a b := by
 have h : 1 ≤ wi ∧ wi ≤ 64 := ⟨ha.2.1.1, ha.2.1.2.1⟩
 obtain ⟨q, r, d1, _, _, _⟩ := div_both ha.2.1 hb.2.1 ha.1 hb.1
 have hv := bool_vok h (a < b)
 have hc := cut_same hv.2.1 hv.1
 generalize hz : (if a < b then (1 : Int) else 0) = z at hv hc
 have e1 : spec_l2Bool.f (decide (a < b)) = some z := by rw [← hz]; by_cases g : a < b <;> simp [spec_l2Bool.f, g]
 have e2 : impl_truth.f (decide (a < b)) = some z := by rw [← hz]; by_cases g : a < b <;> simp [impl_truth.f, g]
 refine ⟨z, Ev.bind d1 (Ev.congr (f := fun k => spec_l2Do.j0 k wi a b 15 false) (fun k => by simp) (Ev.step (f := fun k => spec_l2Do.j1 k wi a b 15 false) (fun k => by simp [spec_l2Do.j0]) (Ev.step (f := fun _ => some z) (fun k => by simp only [spec_l2Do.j1, e1]; rfl) (Ev.now _)))), Ev.congr (f := fun k => impl_apply.j0 k wi 15 a b 0 15 false) (fun k => by simp [impl_apply.f]) (Ev.step (f := fun k => impl_apply.j1 k wi 15 a b 0 15 false) (fun k => by simp [impl_apply.j0]) (Ev.step (f := fun k => impl_apply.j2 k wi 15 a b 0 15 false) (fun k => by simp [impl_apply.j1]) (Ev.step (f := fun _ => some z) (fun k => by simp only [impl_apply.j2, e2, mask_eq h.1 h.2, Option.bind_some, hc]; rfl) (Ev.now _)))), hv⟩
theorem shift_both (ha : VOk wi 1 a) (hb : VOk wi 1 b) (d : Bool) : ∃ z, Ev (fun k => spec_l1Shift.f k wi a b d) z ∧ impl_shift.f wi a b d = some z ∧ VOk wi 1 z := by
 obtain ⟨h0, ⟨h1, h2, h3⟩, _⟩ := ha
 obtain ⟨n, rfl⟩ := Int.eq_ofNat_of_zero_le hb.1
 have ew : IntKind.u64.wrap wi = wi := by rw [wu]; omega
 by_cases h : (n : Int) < wi
 ·cases d with
  | true =>
   refine ⟨(a * 2 ^ n) % 2 ^ wi.toNat, Ev.congr (f := fun k => spec_l1Shift.l0 k wi a (n : Int) true) (fun k => by simp only [spec_l1Shift.f]; rw [ew, if_neg (by omega)]) (l1Shift_left wi ⟨h1, h2⟩ n (by omega) a h0 h3), shift_left h1 h2 h, vok_mod ⟨h1, h2⟩ _⟩
  | false =>
   obtain ⟨m, rfl⟩ := Int.eq_ofNat_of_zero_le h0
   refine ⟨((m / 2 ^ n : Nat) : Int), Ev.congr (f := fun k => spec_l1Shift.l0 k wi (m : Int) (n : Int) false) (fun k => by simp only [spec_l1Shift.f]; rw [ew, if_neg (by omega)]) (l1Shift_right wi n (by omega) m), ?_, ⟨Int.natCast_nonneg _, ⟨h1, h2, ?_⟩, fun g => by omega⟩⟩
   ·rw [shift_right h1 h2 h]; simp
   ·have : m / 2 ^ n ≤ m := Nat.div_le_self _ _
    omega
 ·refine ⟨0, Ev.congr (f := fun _ => some 0) (fun k => by simp only [spec_l1Shift.f]; rw [ew, if_pos (by omega)]) (Ev.now _), by unfold impl_shift.f; rw [ew, if_pos (by omega)], ⟨by omega, ⟨h1, h2, two_pos _⟩, fun g => by omega⟩⟩
theorem do_left (ha : VOk wi 1 a) (hb : VOk wi 1 b) : DoAt wi 11 a b := by
 have h : 1 ≤ wi ∧ wi ≤ 64 := ⟨ha.2.1.1, ha.2.1.2.1⟩
 obtain ⟨q, r, d1, _, _, _⟩ := div_both ha.2.1 hb.2.1 ha.1 hb.1
 obtain ⟨z, e1, e2, hv⟩ := shift_both ha hb true
 have hc := cut_same hv.2.1 hv.1
 refine ⟨z, Ev.bind d1 (Ev.congr (f := fun k => spec_l2Do.j0 k wi a b 11 false) (fun k => by simp) (Ev.step (f := fun k => spec_l2Do.j1 k wi a b 11 false) (fun k => by simp [spec_l2Do.j0]) (Ev.step (f := fun k => (spec_l1Shift.f k wi a b true).bind fun t => some t) (fun k => by simp [spec_l2Do.j1]) (Ev.bind e1 (Ev.now _))))), Ev.congr (f := fun k => impl_apply.j0 k wi 11 a b 0 11 false) (fun k => by simp [impl_apply.f]) (Ev.step (f := fun k => impl_apply.j1 k wi 11 a b 0 11 false) (fun k => by simp [impl_apply.j0]) (Ev.step (f := fun k => impl_apply.j2 k wi 11 a b 0 11 true) (fun k => by simp [impl_apply.j1]) (Ev.step (f := fun _ => some z) (fun k => by simp [impl_apply.j2, e2, mask_eq h.1 h.2, hc]) (Ev.now _)))), hv⟩
theorem do_right (ha : VOk wi 1 a) (hb : VOk wi 1 b) : DoAt wi 12 a b := by
 have h : 1 ≤ wi ∧ wi ≤ 64 := ⟨ha.2.1.1, ha.2.1.2.1⟩
 obtain ⟨q, r, d1, _, _, _⟩ := div_both ha.2.1 hb.2.1 ha.1 hb.1
 obtain ⟨z, e1, e2, hv⟩ := shift_both ha hb false
 have hc := cut_same hv.2.1 hv.1
 refine ⟨z, Ev.bind d1 (Ev.congr (f := fun k => spec_l2Do.j0 k wi a b 12 false) (fun k => by simp) (Ev.step (f := fun k => spec_l2Do.j1 k wi a b 12 false) (fun k => by simp [spec_l2Do.j0]) (Ev.step (f := fun k => (spec_l1Shift.f k wi a b false).bind fun t => some t) (fun k => by simp [spec_l2Do.j1]) (Ev.bind e1 (Ev.now _))))), Ev.congr (f := fun k => impl_apply.j0 k wi 12 a b 0 12 false) (fun k => by simp [impl_apply.f]) (Ev.step (f := fun k => impl_apply.j1 k wi 12 a b 0 12 false) (fun k => by simp [impl_apply.j0]) (Ev.step (f := fun k => impl_apply.j2 k wi 12 a b 0 12 true) (fun k => by simp [impl_apply.j1]) (Ev.step (f := fun _ => some z) (fun k => by simp [impl_apply.j2, e2, mask_eq h.1 h.2, hc]) (Ev.now _)))), hv⟩
theorem do_lessS (ha : VOk wi 1 a) (hb : VOk wi 1 b) : DoAt wi 16 a b := by
 have h : 1 ≤ wi ∧ wi ≤ 64 := ⟨ha.2.1.1, ha.2.1.2.1⟩
 obtain ⟨q, r, d1, _, _, _⟩ := div_both ha.2.1 hb.2.1 ha.1 hb.1
 have sa := l1Signed_ev ha.2.1 ha.1
 have sb := l1Signed_ev hb.2.1 hb.1
 have ta := signed_eq ha.2.1 ha.1
 have tb := signed_eq hb.2.1 hb.1
 generalize sgn wi a = x at sa ta
 generalize sgn wi b = y at sb tb
 have hv := bool_vok h (x < y)
 have hc := cut_same hv.2.1 hv.1
 generalize hz : (if x < y then (1 : Int) else 0) = z at hv hc
 have e1 : spec_l2Bool.f (decide (x < y)) = some z := by rw [← hz]; by_cases g : x < y <;> simp [spec_l2Bool.f, g]
 have e2 : impl_truth.f (decide (x < y)) = some z := by rw [← hz]; by_cases g : x < y <;> simp [impl_truth.f, g]
 refine ⟨z, Ev.bind d1 (Ev.congr (f := fun k => spec_l2Do.j0 k wi a b 16 false) (fun k => by simp) (Ev.step (f := fun k => spec_l2Do.j1 k wi a b 16 false) (fun k => by simp [spec_l2Do.j0]) (Ev.step (f := fun k => (spec_l1Signed.f k wi a).bind fun u => (spec_l1Signed.f k wi b).bind fun v => (spec_l2Bool.f (decide (u < v))).bind fun t => some t) (fun k => by simp only [spec_l2Do.j1]; rfl) (Ev.bind sa (Ev.bind sb (Ev.bind (ev_const e1) (Ev.now _))))))), Ev.congr (f := fun k => impl_apply.j0 k wi 16 a b 0 16 false) (fun k => by simp [impl_apply.f]) (Ev.step (f := fun k => impl_apply.j1 k wi 16 a b 0 16 false) (fun k => by simp [impl_apply.j0]) (Ev.step (f := fun k => impl_apply.j2 k wi 16 a b 0 16 false) (fun k => by simp [impl_apply.j1]) (Ev.step (f := fun _ => some z) (fun k => by simp only [impl_apply.j2, ta, tb, e2, mask_eq h.1 h.2, Option.bind_some, hc]; rfl) (Ev.now _)))), hv⟩
end
theorem do_ok (wi : Int) : DoOk wi := fun op a b hm ha hb => by
 have hop : (3 ≤ op ∧ op ≤ 12) ∨ (14 ≤ op ∧ op ≤ 18) := by
  unfold needMany at hm
  by_cases c : op = 1 ∨ op = 2 ∨ op = 20
  ·rw [if_pos c] at hm; omega
  ·rw [if_neg c] at hm
   by_cases c3 : op = 13 ∨ op = 19
   ·rw [if_pos c3] at hm; omega
   ·rw [if_neg c3] at hm
    by_cases c2 : 3 ≤ op ∧ op ≤ 18
    ·omega
    ·rw [if_neg c2] at hm; omega
 show DoAt wi op a b
 by_cases c8 : op = 8 ∨ op = 17
 ·exact do_and c8 ha hb
 by_cases c9 : op = 9 ∨ op = 18
 ·exact do_or c9 ha hb
 rcases (show op = 3 ∨ op = 4 ∨ op = 5 ∨ op = 6 ∨ op = 7 ∨ op = 10 ∨ op = 11 ∨ op = 12 ∨ op = 14 ∨ op = 15 ∨ op = 16 by omega) with rfl | rfl | rfl | rfl | rfl | rfl | rfl | rfl | rfl | rfl | rfl
 ·exact do_add ha.2.1 hb.2.1 ha.1 hb.1
 ·exact do_sub ha.2.1 hb.2.1 ha.1 hb.1
 ·exact do_mul ha.2.1 hb.2.1 ha.1 hb.1
 ·exact do_div ha.2.1 hb.2.1 ha.1 hb.1
 ·exact do_rem ha.2.1 hb.2.1 ha.1 hb.1
 ·exact do_xor ha hb
 ·exact do_left ha hb
 ·exact do_right ha hb
 ·exact do_eq ha hb
 ·exact do_less ha hb
 ·exact do_lessS ha hb
noncomputable def Vl (wi : Int) (t : List S79) (s : List Int) : Int := Classical.epsilon fun v => Ev (fun k => impl_valueOf.f k wi t s) v
def Sta (wi va : Int) (s : List Int) : Prop := StateOk wi va s ∧ ∀ a ∈ s, 0 ≤ a
def Prg (wi va : Int) (st : List S79) (co : List S95) : Prop := GoodP wi va st co ∧ Wd st ∧ ∀ c ∈ co, Wd c.f0 ∧ ∀ x ∈ c.f1, Wd x.f1
theorem value_is {wi va kd : Int} {t : List S79} {s : List Int} (ht : TermOf wi va t kd) (hw : Wd t) (hs : Sta wi va s) :
  Ev (fun k => impl_valueOf.f k wi t s) (Vl wi t s) ∧ Ev (fun k => spec_l2Value.f k wi t (wrap64 ((t.length : Int) - 1)) s) (Vl wi t s) ∧ VOk wi kd (Vl wi t s) := by
 obtain ⟨v, a, b, c⟩ := value_both wi va kd (do_ok wi) (flip_ok ht.1) t (fun x hx => (hw x hx).1) s hs.1 hs.2 ht
 have e : Vl wi t s = v := ev_uniq (Classical.epsilon_spec (p := fun v => Ev (fun k => impl_valueOf.f k wi t s) v) ⟨v, a⟩) a
 rw [e]; exact ⟨a, b, c⟩
noncomputable def hold (wi : Int) (t : List S79) (s : List Int) : Bool := Vl wi t s == 1
theorem holds_spec {wi va : Int} (st : List S79) (co : List S95) {t : List S79} {s : List Int} (ht : TermOf wi va t 2) (hw : Wd t) (hs : Sta wi va s) : Ev (fun k => spec_l7Holds.f k wi va st co t s) (hold wi t s) := Ev.bind (value_is ht hw hs).2.1 (Ev.now _)
theorem holds_impl {wi va : Int} (st : List S79) (co : List S95) {t : List S79} {s : List Int} (ht : TermOf wi va t 2) (hw : Wd t) (hs : Sta wi va s) : Ev (fun k => impl_Program_holds.f k wi va st co t s) (hold wi t s) := Ev.bind (value_is ht hw hs).1 (Ev.now _)
theorem Prg.when {wi va : Int} {st : List S79} {co : List S95} (h : Prg wi va st co) {j : Nat} (hj : j < co.length) : TermOf wi va (co.getD j z95).f0 2 ∧ Wd (co.getD j z95).f0 := ⟨(h.1.2.2 _ (getD_mem hj _)).1, (h.2.2 _ (getD_mem hj _)).1⟩
noncomputable def enFrom (wi : Int) (co : List S95) (s : List Int) : Nat → Nat → List Int
 | _, 0 => []
 | j, d + 1 => if hold wi (co.getD j z95).f0 s = true then (j : Int) :: enFrom wi co s (j + 1) d else enFrom wi co s (j + 1) d
theorem mem_enFrom (wi : Int) (co : List S95) (s : List Int) (x : Int) : ∀ (d j : Nat), x ∈ enFrom wi co s j d ↔ ∃ i : Nat, x = i ∧ j ≤ i ∧ i < j + d ∧ hold wi (co.getD i z95).f0 s = true
 | 0, j => by simp [enFrom]; intro i _ h1 h2; omega
 | d + 1, j => by
  have ih := mem_enFrom wi co s x d (j + 1)
  unfold enFrom
  by_cases h : hold wi (co.getD j z95).f0 s = true
  ·rw [if_pos h, List.mem_cons, ih]
   exact ⟨fun g => by
    rcases g with rfl | ⟨i, h1, h2, h3, h4⟩
    ·exact ⟨j, rfl, by omega, by omega, h⟩
    ·exact ⟨i, h1, by omega, by omega, h4⟩, fun ⟨i, h1, h2, h3, h4⟩ => by
    rcases Nat.eq_or_lt_of_le h2 with e | e
    ·subst e; exact .inl h1
    ·exact .inr ⟨i, h1, e, by omega, h4⟩⟩
  ·rw [if_neg h, ih]
   exact ⟨fun ⟨i, h1, h2, h3, h4⟩ => ⟨i, h1, by omega, by omega, h4⟩, fun ⟨i, h1, h2, h3, h4⟩ => by
    rcases Nat.eq_or_lt_of_le h2 with e | e
    ·subst e; exact absurd h4 h
    ·exact ⟨i, h1, e, by omega, h4⟩⟩
theorem enFrom_length (wi : Int) (co : List S95) (s : List Int) : ∀ (d j : Nat), (enFrom wi co s j d).length ≤ d
 | 0, j => by simp [enFrom]
 | d + 1, j => by
  have ih := enFrom_length wi co s d (j + 1)
  unfold enFrom
  split
  ·simp; omega
  ·omega
noncomputable def enab (wi : Int) (co : List S95) (s : List Int) : List Int := enFrom wi co s 0 co.length
noncomputable def aft (wi : Int) (s : List Int) : List S124 → List Int → List Int
 | [], o => o
 | x :: t, o => aft wi s t (o.set x.f0.toNat (Vl wi x.f1 s))
def ChAll (wi va : Int) (l : List S124) : Prop := ∀ x ∈ l, 0 ≤ x.f0 ∧ x.f0 < va ∧ TermOf wi va x.f1 1 ∧ Wd x.f1
theorem Prg.changes {wi va : Int} {st : List S79} {co : List S95} (h : Prg wi va st co) {c : S95} (hc : c ∈ co) : ChAll wi va c.f1 := fun x hx => by
 obtain ⟨i, hi, rfl⟩ := List.getElem_of_mem hx
 have h1 := (h.1.2.2 c hc).2 i (Nat.zero_le _) hi
 have e : c.f1.getD i z124 = c.f1[i] := getD_eq hi _
 rw [ChangeOk, e] at h1
 exact ⟨h1.1.1, by omega, h1.2.2, (h.2.2 c hc).2 _ hx⟩
theorem aft_sta {wi va : Int} {s : List Int} (hs : Sta wi va s) : ∀ (l : List S124) (o : List Int), ChAll wi va l → Sta wi va o → Sta wi va (aft wi s l o)
 | [], o, _, h => h
 | x :: t, o, hl, h => by
  obtain ⟨h1, h2, h3, h4⟩ := hl x (by simp)
  obtain ⟨_, _, v1, v2, _⟩ := value_is h3 h4 hs
  refine aft_sta hs t _ (fun y hy => hl y (by simp [hy])) ⟨⟨by simpa using h.1.1, fun a ha => ?_⟩, fun a ha => ?_⟩
  ·rcases List.mem_or_eq_of_mem_set ha with ha | rfl
   ·exact h.1.2 a ha
   ·exact v2
  ·rcases List.mem_or_eq_of_mem_set ha with ha | rfl
   ·exact h.2 a ha
   ·exact v1
theorem l7Enabled_l0 {wi va : Int} {st : List S79} {co : List S95} (hG : Prg wi va st co) {s : List Int} (hs : Sta wi va s) (d : Nat) : ∀ (j : Nat) (out : List Int), j + d = co.length → out.length ≤ j →
  Ev (fun k => spec_l7Enabled.l0 k s out co (co.length : Int) (j : Int) wi va st co) (out ++ enFrom wi co s j d) := by
 have h6 := hG.1.2.1
 induction d with
 | zero => exact fun j out hj hl => ev_eq (Ev.step (f := fun _ => some out) (fun k => by simp only [spec_l7Enabled.l0]; rw [if_neg (by omega)]) (Ev.now _)) (by simp [enFrom])
 | succ d ih =>
  intro j out hj hl
  have er : rd_T95 co (j : Int) = co.getD j z95 := by simp [rd_T95]
  obtain ⟨w1, w2⟩ := hG.when (j := j) (by omega)
  refine Ev.step (fun k => by simp only [spec_l7Enabled.l0]; rw [if_pos (by omega), if_pos (by omega), if_pos (by omega), wsucc (by omega), er]) (Ev.bind (holds_spec st co w1 w2 hs) ?_)
  by_cases h : hold wi (co.getD j z95).f0 s = true
  ·exact ev_pos h (ev_pos (by omega) (ev_eq (ih (j + 1) (out ++ [(j : Int)]) (by omega) (by simp; omega)) (by rw [enFrom, if_pos h]; simp)))
  ·exact ev_neg h (ev_eq (ih (j + 1) out (by omega) (by omega)) (by rw [enFrom, if_neg h]))
theorem l7Enabled_ev {wi va : Int} {st : List S79} {co : List S95} (hG : Prg wi va st co) {s : List Int} (hs : Sta wi va s) : Ev (fun k => spec_l7Enabled.f k wi va st co s) (enab wi co s) :=
 l7Enabled_l0 hG hs co.length 0 [] (by omega) (Nat.le_refl _)
def Rise (l : List Int) : Prop := l.Pairwise (· < ·)
theorem rise_uniq : ∀ {a b : List Int}, Rise a → Rise b → (∀ x, x ∈ a ↔ x ∈ b) → a = b
 | [], [], _, _, _ => rfl
 | [], y :: t, _, _, h => by have := (h y).2 (by simp); simp at this
 | x :: s, [], _, _, h => by have := (h x).1 (by simp); simp at this
 | x :: s, y :: t, ha, hb, h => by
  obtain ⟨a1, a2⟩ := List.pairwise_cons.1 ha
  obtain ⟨b1, b2⟩ := List.pairwise_cons.1 hb
  have e : x = y := by
   rcases List.mem_cons.1 ((h x).1 (by simp)) with e | h1
   ·exact e
   ·rcases List.mem_cons.1 ((h y).2 (by simp)) with e | h2
    ·exact e.symm
    ·have := a1 y h2; have := b1 x h1; omega
  subst e
  congr 1
  refine rise_uniq a2 b2 (fun z => ⟨fun hz => ?_, fun hz => ?_⟩)
  ·rcases List.mem_cons.1 ((h z).1 (by simp [hz])) with e | h1
   ·have := a1 z hz; omega
   ·exact h1
  ·rcases List.mem_cons.1 ((h z).2 (by simp [hz])) with e | h1
   ·have := b1 z hz; omega
   ·exact h1
theorem rise_len : ∀ {l : List Int} {lo hi : Int}, Rise l → (∀ x ∈ l, lo ≤ x ∧ x < hi) → lo ≤ hi → (l.length : Int) ≤ hi - lo
 | [], _, _, _, _, h => by simp; omega
 | x :: t, lo, hi, hr, h, hl => by
  obtain ⟨h1, h2⟩ := List.pairwise_cons.1 hr
  have h3 := h x (by simp)
  have := rise_len (l := t) (lo := x + 1) (hi := hi) h2 (fun y hy => ⟨by have := h1 y hy; omega, (h y (by simp [hy])).2⟩) (by omega)
  simp only [List.length_cons]; omega
theorem rise_sub : ∀ {a b : List Int}, Rise a → Rise b → (∀ x ∈ a, x ∈ b) → a.length ≤ b.length ∧ (a.length = b.length → a = b)
 | [], b, _, _, _ => ⟨by simp, fun h => by cases b with | nil => rfl | cons _ _ => simp at h⟩
 | x :: s, [], _, _, h => by have := h x (by simp); simp at this
 | x :: s, y :: t, ha, hb, h => by
  obtain ⟨a1, a2⟩ := List.pairwise_cons.1 ha
  obtain ⟨b1, b2⟩ := List.pairwise_cons.1 hb
  rcases List.mem_cons.1 (h x (by simp)) with e | h1
  ·subst e
   obtain ⟨h2, h3⟩ := rise_sub a2 b2 (fun z hz => (List.mem_cons.1 (h z (by simp [hz]))).resolve_left (fun e => by have := a1 z hz; omega))
   exact ⟨by simp only [List.length_cons]; omega, fun e => by rw [h3 (by simpa using e)]⟩
  ·have h4 := b1 x h1
   obtain ⟨h2, h3⟩ := rise_sub ha b2 (fun z hz => (List.mem_cons.1 (h z hz)).resolve_left (fun e => by
    rcases List.mem_cons.1 hz with e2 | hz
    ·omega
    ·have := a1 z hz; omega))
   simp only [List.length_cons] at h2 ⊢
   exact ⟨by omega, fun e => by omega⟩
theorem compact_sorted {l : List Int} (hs : l.Pairwise (· ≤ ·)) : Rise (Go.Lib.compact l) ∧ ∀ x, x ∈ Go.Lib.compact l ↔ x ∈ l := by
 have at_ : ∀ j, j < l.length → l.toArray[j]! = l.getD j 0 := fun j hj => by
  rw [getElem!_pos _ j (by simpa using hj), getD_eq hj]; simp
 have mono : ∀ i j, i ≤ j → j < l.length → l.getD i 0 ≤ l.getD j 0 := fun i j h1 h2 => by
  rcases Nat.eq_or_lt_of_le h1 with e | e
  ·subst e; omega
  ·rw [getD_eq (by omega), getD_eq h2]
   exact List.pairwise_iff_getElem.1 hs i j (by omega) h2 e
 have keep : ∀ j, j < l.length → (Go.Lib.keeps l.toArray j = true ↔ j = 0 ∨ l.getD j 0 ≠ l.getD (j - 1) 0) := fun j hj => by
  unfold Go.Lib.keeps
  rw [decide_eq_true_iff, at_ j hj, at_ (j - 1) (by omega)]
 unfold Go.Lib.compact Go.Lib.compactUpTo
 refine ⟨List.pairwise_map.2 ?_, fun x => ⟨fun h => ?_, fun h => ?_⟩⟩
 ·have h1 : ((List.range l.length).filter (Go.Lib.keeps l.toArray)).Pairwise (· < ·) := List.Pairwise.filter _ List.pairwise_lt_range
  refine List.Pairwise.imp_of_mem (fun {a b} ha hb hab => ?_) h1
  obtain ⟨a1, _⟩ := List.mem_filter.1 ha
  obtain ⟨b1, b2⟩ := List.mem_filter.1 hb
  have a1 := List.mem_range.1 a1
  have b1 := List.mem_range.1 b1
  rw [at_ a a1, at_ b b1]
  have h2 := ((keep b b1).1 b2).resolve_left (by omega)
  have h3 := mono a (b - 1) (by omega) (by omega)
  have h4 := mono (b - 1) b (by omega) b1
  omega
 ·obtain ⟨j, hj, rfl⟩ := List.mem_map.1 h
  have hj := List.mem_range.1 (List.mem_filter.1 hj).1
  rw [at_ j hj]
  exact getD_mem hj 0
 ·obtain ⟨i, hi, rfl⟩ := List.getElem_of_mem h
  have least : ∀ (n i : Nat) (hi : i < l.length), i ≤ n → ∃ j, j < l.length ∧ l.getD j 0 = l.getD i 0 ∧ (j = 0 ∨ l.getD j 0 ≠ l.getD (j - 1) 0) := by
   intro n
   induction n with
   | zero => exact fun i hi h => ⟨i, hi, rfl, .inl (by omega)⟩
   | succ n ih =>
    intro i hi h
    by_cases h1 : i = 0 ∨ l.getD i 0 ≠ l.getD (i - 1) 0
    ·exact ⟨i, hi, rfl, h1⟩
    ·obtain ⟨j, h2, h3, h4⟩ := ih (i - 1) (by omega) (by omega)
     exact ⟨j, h2, by have : l.getD i 0 = l.getD (i - 1) 0 := Classical.byContradiction (fun g => h1 (.inr g)); omega, h4⟩
  obtain ⟨j, h2, h3, h4⟩ := least i i hi (Nat.le_refl _)
  refine List.mem_map.2 ⟨j, List.mem_filter.2 ⟨List.mem_range.2 h2, (keep j h2).2 h4⟩, ?_⟩
  rw [at_ j h2, h3, getD_eq hi]
theorem sort_compact (l : List Int) : Rise (Go.Lib.compact (l.mergeSort fun x y => decide (x ≤ y))) ∧ ∀ x, x ∈ Go.Lib.compact (l.mergeSort fun x y => decide (x ≤ y)) ↔ x ∈ l := by
 have hs : (l.mergeSort fun x y => decide (x ≤ y)).Pairwise (fun a b => decide (a ≤ b) = true) := List.pairwise_mergeSort (fun a b c h1 h2 => by simp only [decide_eq_true_eq] at *; omega) (fun a b => by simp only [Bool.or_eq_true, decide_eq_true_eq]; omega) l
 obtain ⟨h1, h2⟩ := compact_sorted (hs.imp (fun h => by simpa using h))
 exact ⟨h1, fun x => (h2 x).trans (List.mergeSort_perm l _).mem_iff⟩
def Rg (n : Nat) (l : List Int) : Prop := Rise l ∧ ∀ x ∈ l, 0 ≤ x ∧ x < (n : Int)
theorem Rg.len {n : Nat} {l : List Int} (h : Rg n l) : l.length ≤ n := by
 have := rise_len h.1 h.2 (by omega); omega
theorem Rg.nil (n : Nat) : Rg n [] := ⟨List.Pairwise.nil, by simp⟩
theorem Rg.uniq {n m : Nat} {a b : List Int} (h : Rg n a) (h' : Rg m b) (he : ∀ x, x ∈ a ↔ x ∈ b) : a = b := rise_uniq h.1 h'.1 he
theorem l1Put_l0 (l : List Int) (n : Int) (hr : Rise l) (hl : l.length ≤ 1048576) (d : Nat) : ∀ (j : Nat), j + d = l.length → (∀ i, i < j → l.getD i 0 < n) → ∃ r : List Int, Rise r ∧ (∀ x, x ∈ r ↔ x = n ∨ x ∈ l) ∧ Ev (fun k => spec_l1Put.l0 k l n (j : Int)) r := by
 have ins : ∀ j : Nat, j ≤ l.length → (∀ i, i < j → l.getD i 0 < n) → (∀ i, j ≤ i → i < l.length → n < l.getD i 0) → Rise (l.take j ++ [n] ++ l.drop j) ∧ ∀ x, x ∈ l.take j ++ [n] ++ l.drop j ↔ x = n ∨ x ∈ l := fun j hj h1 h2 => by
  refine ⟨?_, fun x => ?_⟩
  ·have t1 : ∀ x ∈ l.take j, x < n := fun x hx => by
    obtain ⟨i, hi, rfl⟩ := List.getElem_of_mem hx
    simp only [List.length_take] at hi
    have := h1 i (by omega)
    rw [getD_eq (by omega)] at this
    simpa using this
   have t2 : ∀ x ∈ l.drop j, n < x := fun x hx => by
    obtain ⟨i, hi, rfl⟩ := List.getElem_of_mem hx
    simp only [List.length_drop] at hi
    have := h2 (j + i) (by omega) (by omega)
    rw [getD_eq (by omega)] at this
    simpa using this
   refine List.pairwise_append.2 ⟨List.pairwise_append.2 ⟨List.Pairwise.sublist (List.take_sublist j l) hr, by simp, fun a ha b hb => by rw [List.mem_singleton.1 hb]; exact t1 a ha⟩, List.Pairwise.sublist (List.drop_sublist j l) hr, fun a ha b hb => ?_⟩
   have hb := t2 b hb
   rcases List.mem_append.1 ha with ha | ha
   ·have := t1 a ha; omega
   ·rw [List.mem_singleton.1 ha]; exact hb
  ·have : x ∈ l ↔ x ∈ l.take j ∨ x ∈ l.drop j := by rw [← List.mem_append, List.take_append_drop]
   simp only [List.mem_append, List.mem_singleton, this]
   constructor
   ·rintro ((h | h) | h)
    ·exact .inr (.inl h)
    ·exact .inl h
    ·exact .inr (.inr h)
   ·rintro (h | h | h)
    ·exact .inl (.inr h)
    ·exact .inl (.inl h)
    ·exact .inr h
 have tl : ∀ j : Nat, j ≤ l.length → (l.take j).length = j := fun j hj => by simp; omega
 have dl : ∀ j : Nat, (l.drop j).length = l.length - j := fun j => by simp
 induction d with
 | zero =>
  intro j hj h1
  obtain ⟨i1, i2⟩ := ins j (by omega) h1 (fun i h2 h3 => by omega)
  refine ⟨_, i1, i2, Ev.step (f := fun _ => some (l.take j ++ [n] ++ l.drop j)) (fun k => ?_) (Ev.now _)⟩
  simp only [spec_l1Put.l0, Option.bind_some, List.nil_append, List.length_nil, Int.toNat_natCast, List.length_append, List.length_singleton, tl j (by omega), dl]
  repeat (first | rw [if_pos (by omega)] | rw [if_neg (by omega)])
 | succ d ih =>
  intro j hj h1
  by_cases h2 : l.getD j 0 < n
  ·obtain ⟨r, r1, r2, r3⟩ := ih (j + 1) (by omega) (fun i hi => by
    rcases Nat.lt_or_ge i j with h3 | h3
    ·exact h1 i h3
    ·obtain rfl : i = j := by omega
     exact h2)
   exact ⟨r, r1, r2, Ev.step (fun k => by simp only [spec_l1Put.l0]; rw [if_pos (by omega), if_pos (by omega), rd_nat, if_pos h2, wsucc (by omega)]) r3⟩
  ·by_cases h3 : l.getD j 0 = n
   ·refine ⟨l, hr, fun x => ⟨fun h => .inr h, fun h => h.elim (fun e => by rw [e, ← h3]; exact getD_mem (by omega) 0) id⟩, Ev.step (f := fun _ => some l) (fun k => by simp only [spec_l1Put.l0]; rw [if_pos (by omega), if_pos (by omega), rd_nat, if_neg h2, if_pos h3]) (Ev.now _)⟩
   ·obtain ⟨i1, i2⟩ := ins j (by omega) h1 (fun i h4 h5 => by
     rcases Nat.eq_or_lt_of_le h4 with e | e
     ·subst e; omega
     ·have h6 := List.pairwise_iff_getElem.1 hr j i (by omega) h5 e
      rw [getD_eq (show j < l.length by omega)] at h2
      rw [getD_eq h5]; omega)
    refine ⟨_, i1, i2, Ev.step (f := fun _ => some (l.take j ++ [n] ++ l.drop j)) (fun k => ?_) (Ev.now _)⟩
    simp only [spec_l1Put.l0]
    rw [if_pos (by omega), if_pos (by omega), rd_nat, if_neg h2, if_neg h3]
    simp only [Option.bind_some, List.nil_append, List.length_nil, Int.toNat_natCast, List.length_append, List.length_singleton, tl j (by omega), dl]
    repeat (first | rw [if_pos (by omega)] | rw [if_neg (by omega)])
theorem l1Put_is (l : List Int) (n : Int) (hr : Rise l) (hl : l.length ≤ 1048576) : ∃ r : List Int, Rise r ∧ (∀ x, x ∈ r ↔ x = n ∨ x ∈ l) ∧ Ev (fun k => spec_l1Put.f k l n) r :=
 l1Put_l0 l n hr hl l.length 0 (by omega) (fun i hi => by omega)
theorem Rg.put {m : Nat} {l : List Int} {n : Int} (h : Rg m l) (hm : m ≤ 1048576) (h0 : 0 ≤ n) (h1 : n < (m : Int)) : ∃ r : List Int, Rg m r ∧ (∀ x, x ∈ r ↔ x = n ∨ x ∈ l) ∧ Ev (fun k => spec_l1Put.f k l n) r := by
 obtain ⟨r, r1, r2, r3⟩ := l1Put_is l n h.1 (by have := h.len; omega)
 refine ⟨r, ⟨r1, fun x hx => ?_⟩, r2, r3⟩
 rcases (r2 x).1 hx with rfl | h2
 ·exact ⟨h0, h1⟩
 ·exact h.2 x h2
theorem isLeafRight_eq (wide vars : Int) (hv : 1 ≤ vars ∧ vars ≤ 4) (x : S79) : Tells (fun _ => impl_isLeafRight.f wide vars x.f0 x.f1) (NOk wide vars x) := by
 unfold NOk
 refine tells_if (fun h => ?_) (fun h => tells_if (fun h2 => tells_some ?_) (fun h2 => tells_if (fun h3 => tells_some ?_) (fun h3 => tells_some ?_)))
 ·rw [if_pos h]; exact tells_bind (ev_const (impl_GoodWord_eq wide x.f1)) (tells_some (by simp))
 ·rw [if_neg h, if_pos h2, wu, Int.emod_eq_of_lt (by omega) (by omega)]; simp
 ·rw [if_neg h, if_neg h2, if_pos h3]; simp
 ·rw [if_neg h, if_neg h2, if_neg h3]; simp
theorem isVars_tells (a : Int) : Tells (fun _ => impl_isVars.f a) (1 ≤ a ∧ a ≤ 4) := by
 simp only [impl_isVars.f]
 refine tells_if (fun h => tells_some ?_) (fun h => tells_no (fun g => h g.1))
 rw [decide_eq_true_iff]; omega
theorem isWide_tells' (a : Int) : Tells (fun _ => impl_isWide.f a) (1 ≤ a ∧ a ≤ 64) := by
 simp only [isWide_eq]; exact tells_some (by simp)
theorem GoodTerm_l0 (wi va : Int) (hv : 1 ≤ va ∧ va ≤ 4) (t : List S79) (ht : t.length ≤ 48) (d : Nat) : ∀ (j : Nat) (s : List Int), j + d = t.length → s.length ≤ j →
  Tells (fun k => impl_GoodTerm.l0 k wi va s t (t.length : Int) (j : Int)) (∃ kd, Runs wi va (t.drop j) s [kd]) := by
 induction d with
 | zero =>
  intro j s hd hs
  rw [List.drop_of_length_le (by omega)]
  refine tells_step (f := fun _ => some ((s.length : Int) == 1)) (fun k => by simp only [impl_GoodTerm.l0]; rw [if_neg (by omega)]) (tells_some ?_)
  rw [beq_iff_eq]
  constructor
  ·intro h
   obtain ⟨a, rfl⟩ := List.length_eq_one_iff.1 (show s.length = 1 by omega)
   exact ⟨a, rfl⟩
  ·rintro ⟨kd, h⟩
   have h : s = [kd] := h
   rw [h]; rfl
 | succ d ih =>
  intro j s hd hs
  have hj : j < t.length := by omega
  have er : rd_T79 t (j : Int) = t.getD j z79 := by simp [rd_T79]
  rw [drop_cons hj z79]
  generalize t.getD j z79 = x at er
  obtain ⟨p, hn, hp⟩ := operandsOf_ev x.f0
  have hm2 := needMany_le x.f0
  have hpp : (∀ y ∈ s.drop (s.length - needMany x.f0), y = p) ↔ ∀ y ∈ s.drop (s.length - needMany x.f0), y = needPart x.f0 := by
   rcases Nat.eq_zero_or_pos (needMany x.f0) with h0 | h0
   ·rw [h0]; simp
   ·rw [hp h0]
  refine tells_step (fun k => by simp only [impl_GoodTerm.l0]; rw [if_pos (by omega), if_pos (by omega), if_pos (by omega), er, wsucc (by omega)]) ?_
  refine tells_bind hn ?_
  refine tells_if (fun h => tells_no (fun ⟨kd, g⟩ => g.1.1 h)) (fun h1 => ?_)
  refine tells_ask (isLeafRight_eq wi va hv x) (fun h2 => tells_pos rfl ?_) (fun h2 => tells_neg (by simp) (tells_no (fun ⟨kd, g⟩ => h2 g.1.2.1)))
  have w : wrap64 ((s.length : Int) - (needMany x.f0 : Int)) = (s.length : Int) - (needMany x.f0 : Int) := wid (by omega) (by omega)
  refine tells_congr (fun k => by rw [w]) ?_
  refine tells_if (fun h => tells_no (fun ⟨kd, g⟩ => by have := g.1.2.2.1; omega)) (fun h3 => ?_)
  refine tells_pos (by omega) (tells_pos (by omega) ?_)
  have et : ((s.length : Int) - (needMany x.f0 : Int)).toNat = s.length - needMany x.f0 := by omega
  refine tells_congr (fun k => by rw [et]) ?_
  have hA : Tells (fun _ => slices_ContainsFunc_int_int_by_impl_GoodTerm_1.f (s.drop (s.length - needMany x.f0)) p) (∃ y ∈ s.drop (s.length - needMany x.f0), y ≠ p) := anyO_tells _ (fun y _ => tells_some (by simp))
  refine tells_ask hA (fun h4 => tells_pos rfl (tells_no ?_)) (fun h4 => tells_neg (by simp) ?_)
  ·obtain ⟨y, hy, hne⟩ := h4
   exact fun ⟨kd, g⟩ => hne (hpp.2 g.1.2.2.2 y hy)
  have hf : fits wi va x s := ⟨h1, h2, by omega, hpp.1 (fun y hy => Classical.byContradiction (fun g => h4 ⟨y, hy, g⟩))⟩
  refine tells_bind (Ev.now _) (tells_pos (by simp; omega) ?_)
  exact tells_iff (ih (j + 1) (s.take (s.length - needMany x.f0) ++ [needOwn x.f0]) (by omega) (by simp; omega)) ⟨fun ⟨kd, g⟩ => ⟨kd, ⟨hf, g⟩⟩, fun ⟨kd, g⟩ => ⟨kd, g.2⟩⟩
theorem GoodTerm_tells (wi va : Int) (t : List S79) : Tells (fun k => impl_GoodTerm.f k wi va t) (∃ kd, TermOf wi va t kd) := by
 have hno : ∀ {Q : Prop}, ¬ Q → Tells (fun k => impl_GoodTerm.j0 k wi va t true) Q := fun h => tells_step (f := fun _ => some false) (fun k => by simp only [impl_GoodTerm.j0, if_true]) (tells_no h)
 refine tells_ask (isWide_tells' wi) (fun h1 => tells_pos rfl ?_) (fun h1 => tells_neg (by simp) (hno (fun ⟨kd, g⟩ => h1 g.1)))
 refine tells_ask (isVars_tells va) (fun h2 => tells_pos rfl ?_) (fun h2 => tells_neg (by simp) (hno (fun ⟨kd, g⟩ => h2 g.2.1)))
 refine tells_if (fun h3 => hno (fun ⟨kd, g⟩ => by have := g.2.2.1; omega)) (fun h3 => ?_)
 by_cases h4 : (t.length : Int) > 48
 ·exact tells_congr (fun k => by rw [decide_eq_true h4]) (hno (fun ⟨kd, g⟩ => by have := g.2.2.1; omega))
 ·refine tells_step (f := fun k => impl_GoodTerm.l0 k wi va [] t (t.length : Int) 0) (fun k => by simp only [impl_GoodTerm.j0]; rw [if_neg (by simp; omega)]) ?_
  exact tells_iff (GoodTerm_l0 wi va h2 t (by omega) t.length 0 [] (by omega) (by simp)) ⟨fun ⟨kd, g⟩ => ⟨kd, h1, h2, by omega, g⟩, fun ⟨kd, g⟩ => ⟨kd, g.2.2.2⟩⟩
theorem kindOf_ev (t : List S79) (h1 : 1 ≤ t.length) (h2 : t.length ≤ 48) : Ev (fun k => impl_kindOf.f k t) (needOwn (t.getD (t.length - 1) z79).f0) := by
 have w : wrap64 ((t.length : Int) - 1) = ((t.length - 1 : Nat) : Int) := by rw [wid (by omega) (by omega)]; omega
 have er : rd_T79 t ((t.length - 1 : Nat) : Int) = t.getD (t.length - 1) z79 := by simp [rd_T79]
 obtain ⟨p, hn, _⟩ := operandsOf_ev (t.getD (t.length - 1) z79).f0
 refine Ev.congr (fun k => by simp only [impl_kindOf.f]; rw [w, if_pos (by omega), if_pos (by omega), er]) (Ev.bind hn (Ev.now _))
theorem isTermOf_tells (wi va : Int) (t : List S79) (kd : Int) : Tells (fun k => impl_isTermOf.f k wi va t kd) (TermOf wi va t kd) := by
 refine tells_ask (GoodTerm_tells wi va t) (fun ⟨kd', h⟩ => tells_pos rfl ?_) (fun h => tells_neg (by simp) (tells_no (fun g => h ⟨kd, g⟩)))
 have hne : t ≠ [] := fun e => by have := h.2.2.1.1; rw [e] at this; simp at this
 refine tells_bind (kindOf_ev t h.2.2.1.1 h.2.2.1.2) (tells_some ?_)
 rw [beq_iff_eq]
 have e1 := Runs.last hne h.2.2.2
 exact ⟨fun e => by rw [← e, ← e1]; exact h, fun g => (Runs.last hne g.2.2.2).symm⟩
theorem isCondition_tells (wi va : Int) (st : List S79) (co : List S95) (t : List S79) : Tells (fun k => impl_Program_isCondition.f k wi va st co t) (TermOf wi va t 2) := by
 obtain ⟨b, hb, e⟩ := isTermOf_tells wi va t 2
 exact ⟨b, Ev.bind hb (Ev.now _), e⟩
theorem isCommand_l0 (wi va : Int) (st : List S79) (co : List S95) (w : List S79) (l : List S124) (hl : l.length ≤ 9223372036854775807) (d : Nat) : ∀ (j : Nat), j + d = l.length →
  Tells (fun k => impl_Program_isCommand.l0 k l (l.length : Int) (j : Int) wi va st co w l) (∀ i, j ≤ i → i < l.length → ChangeOk wi va l i) := by
 induction d with
 | zero =>
  intro j hd
  exact tells_step (f := fun _ => some true) (fun k => by simp only [impl_Program_isCommand.l0]; rw [if_neg (by omega)]) (tells_yes (fun i h1 h2 => by omega))
 | succ d ih =>
  intro j hd
  have hj : j < l.length := by omega
  have er : rd_T124 l (j : Int) = l.getD j z124 := by simp [rd_T124]
  have hT := isTermOf_tells wi va (l.getD j z124).f1 1
  refine tells_step (fun k => by simp only [impl_Program_isCommand.l0]; rw [if_pos (by omega), if_pos (by omega), if_pos (by omega), er, wsucc (by omega)]) ?_
  rw [from_hereP hj]
  refine tells_if (fun h => tells_no (fun g => by have := g.1.1.1; omega)) (fun a1 => ?_)
  refine tells_if (fun h => tells_no (fun g => by have := g.1.1.2; omega)) (fun a2 => ?_)
  by_cases hz : j = 0
  ·subst hz
   refine tells_neg (by omega) (tells_ask hT (fun h => tells_pos rfl ?_) (fun h => tells_neg (by simp) (tells_no (fun g => h g.1.2.2))))
   exact tells_iff (ih 1 (by omega)) ⟨fun g => ⟨⟨by omega, fun h => by omega, h⟩, g⟩, fun g => g.2⟩
  ·have w2 := wpred (j := j) (by omega) (by omega)
   have er2 : rd_T124 l ((j - 1 : Nat) : Int) = l.getD (j - 1) z124 := by simp [rd_T124]
   refine tells_pos (by omega) ?_
   refine tells_congr (fun k => by rw [w2, if_pos (by omega), if_pos (by omega), er2]) ?_
   refine tells_if (fun h => tells_no (fun g => by have := g.1.2.1 (by omega); omega)) (fun h1 => ?_)
   refine tells_ask hT (fun h => tells_pos rfl ?_) (fun h => tells_neg (by simp) (tells_no (fun g => h g.1.2.2)))
   exact tells_iff (ih (j + 1) (by omega)) ⟨fun g => ⟨⟨by omega, fun _ => by omega, h⟩, g⟩, fun g => g.2⟩
theorem isCommand_tells (wi va : Int) (st : List S79) (co : List S95) (c : S95) (hl : c.f1.length ≤ 9223372036854775807) : Tells (fun k => impl_Program_isCommand.f k wi va st co c.f0 c.f1) (CommandOk wi va c) := by
 refine tells_ask (isCondition_tells wi va st co c.f0) (fun h => tells_pos rfl ?_) (fun h => tells_neg (by simp) (tells_no (fun g => h g.1)))
 exact tells_iff (isCommand_l0 wi va st co c.f0 c.f1 hl c.f1.length 0 (by omega)) ⟨fun g => ⟨h, g⟩, fun g => g.2⟩
theorem impl_GoodProgram_tells (wi va : Int) (st : List S79) (co : List S95) (hx : ∀ c ∈ co, c.f1.length ≤ 9223372036854775807) : Tells (fun k => impl_GoodProgram.f k wi va st co) (GoodP wi va st co) := by
 refine tells_ask (isWide_tells' wi) (fun h1 => tells_pos rfl ?_) (fun h1 => tells_neg (by simp) (tells_no (fun g => h1 g.1.1)))
 refine tells_ask (isVars_tells va) (fun h2 => tells_pos rfl ?_) (fun h2 => tells_neg (by simp) (tells_no (fun g => h2 g.1.2.1)))
 refine tells_ask (isCondition_tells wi va st co st) (fun h => tells_pos rfl ?_) (fun h => tells_neg (by simp) (tells_no (fun g => h g.1)))
 refine tells_if (fun h3 => tells_no (fun g => by have := g.2.1; omega)) (fun h3 => ?_)
 refine tells_if (fun h4 => tells_no (fun g => by have := g.2.1; omega)) (fun h4 => ?_)
 have hA : Tells (fun k => impl_Command_74_by_impl_GoodProgram_1.f k co wi va st co) (∃ c ∈ co, ¬ CommandOk wi va c) := anyO_tells co (fun c hc => tells_ask (isCommand_tells wi va st co c (hx c hc)) (fun h2 => tells_no (fun h3 => h3 h2)) (fun h2 => tells_yes h2))
 refine tells_ask hA (fun h5 => tells_no ?_) (fun h5 => tells_yes ⟨h, by omega, fun c hc => Classical.byContradiction (fun g => h5 ⟨c, hc, g⟩)⟩)
 obtain ⟨c, hc, h6⟩ := h5
 exact fun g => h6 (g.2.2 c hc)
def SmallP (wi va : Int) (st : List S79) (co : List S95) : Prop := GoodP wi va st co ∧ wi * va ≤ 5
theorem small_nat {wi va : Int} {st : List S79} {co : List S95} (h : GoodP wi va st co) : ∃ w v : Nat, wi = (w : Int) ∧ va = (v : Int) ∧ 1 ≤ w ∧ w ≤ 64 ∧ 1 ≤ v ∧ v ≤ 4 ∧ wi * va = ((w * v : Nat) : Int) ∧ w * v ≤ 256 := by
 obtain ⟨h1, h2, _⟩ := h.1
 obtain ⟨w, rfl⟩ := Int.eq_ofNat_of_zero_le (show 0 ≤ wi by omega)
 obtain ⟨v, rfl⟩ := Int.eq_ofNat_of_zero_le (show 0 ≤ va by omega)
 have : w * v ≤ 64 * 4 := Nat.mul_le_mul (by omega) (by omega)
 exact ⟨w, v, rfl, rfl, by omega, by omega, by omega, by omega, by simp, this⟩
theorem isSmall_tells (wi va : Int) (st : List S79) (co : List S95) (hx : ∀ c ∈ co, c.f1.length ≤ 9223372036854775807) : Tells (fun k => impl_isSmall.f k wi va st co) (SmallP wi va st co) := by
 refine tells_ask (impl_GoodProgram_tells wi va st co hx) (fun h => tells_pos rfl (tells_some ?_)) (fun h => tells_neg (by simp) (tells_no (fun g => h g.1)))
 obtain ⟨w, v, rfl, rfl, _, _, _, _, e, hb⟩ := small_nat h
 rw [decide_eq_true_iff, wid (by omega) (by omega)]
 exact ⟨fun g => ⟨h, g⟩, fun g => g.2⟩
theorem l7Small_tells (wi va : Int) (st : List S79) (co : List S95) (hs : Wd st) (hx : ∀ c ∈ co, Wd c.f0 ∧ ∀ x ∈ c.f1, Wd x.f1) : Tells (fun k => spec_l7Small.f k wi va st co) (SmallP wi va st co) := by
 refine tells_ask (spec_GoodProgram_tells wi va st co hs hx) (fun h => tells_pos rfl (tells_some ?_)) (fun h => tells_neg (by simp) (tells_no (fun g => h g.1)))
 obtain ⟨w, v, rfl, rfl, _, _, _, _, e, hb⟩ := small_nat h
 rw [decide_eq_true_iff, wid (by omega) (by omega)]
 exact ⟨fun g => ⟨h, g⟩, fun g => g.2⟩
theorem shl_few : ∀ n, n < 6 → shl .i64 1 (n : Nat) = ((2 ^ n : Nat) : Int) := by decide
theorem ev_mono {α : Type} {f : Nat → Option α} {r : α} {K : Nat} (h : f K = some r) (hm : ∀ k, LeO (f k) (f (k + 1))) : Ev f r :=
 ⟨K, fun k hk => by
  obtain ⟨d, rfl⟩ : ∃ d, k = K + d := ⟨k - K, by omega⟩
  clear hk
  induction d with
  | zero => exact h
  | succ d ih => exact hm (K + d) _ ih⟩
theorem stateOf_l0_same (x1 : Int) (st : List S79) (co : List S95) (w v : Int) : ∀ (k : Nat) (x5 : List Int) (x9 x10 : Int), impl_Program_stateOf.l0 k x1 x5 x9 x10 w v st co = impl_Program_stateOf.l0 k x1 x5 x9 x10 w v [] []
 | 0, x5, x9, x10 => rfl
 | k + 1, x5, x9, x10 => by simp only [impl_Program_stateOf.l0, stateOf_l0_same x1 st co w v k]
theorem l7Of_l0_same (x1 : Int) (st : List S79) (co : List S95) (w v : Int) : ∀ (k : Nat) (x5 : List Int) (x6 : Int), spec_l7Of.l0 k x1 x5 x6 w v st co = spec_l7Of.l0 k x1 x5 x6 w v [] []
 | 0, x5, x6 => rfl
 | k + 1, x5, x6 => by simp only [spec_l7Of.l0, l7Of_l0_same x1 st co w v k]
def stateGood (w v n : Nat) : Bool := match impl_Program_stateOf.f 10 (w : Int) (v : Int) [] [] (n : Int), spec_l7Of.f 10 (w : Int) (v : Int) [] [] (n : Int) with
 | some a, some b => decide (a = b) && decide ((a.length : Int) = (v : Int)) && a.all (fun x => decide (0 ≤ x) && decide (GW (w : Int) x))
 | _, _ => false
theorem states_good : ∀ w, w < 6 → ∀ v, v < 6 → ∀ n, n < 32 → (1 ≤ w ∧ 1 ≤ v ∧ w * v ≤ 5 ∧ n < 2 ^ (w * v)) → stateGood w v n = true := by
 decide +kernel
theorem state_both (w v n : Nat) (hw : 1 ≤ w) (hv : 1 ≤ v) (hm : w * v ≤ 5) (hn : n < 2 ^ (w * v)) (st : List S79) (co : List S95) :
  ∃ s : List Int, Ev (fun k => impl_Program_stateOf.f k (w : Int) (v : Int) st co (n : Int)) s ∧ Ev (fun k => spec_l7Of.f k (w : Int) (v : Int) st co (n : Int)) s ∧ StateOk (w : Int) (v : Int) s ∧ ∀ a ∈ s, 0 ≤ a := by
 have h1 : w ≤ w * v := Nat.le_mul_of_pos_right _ hv
 have h2 : v ≤ w * v := Nat.le_mul_of_pos_left _ hw
 have h3 : 2 ^ (w * v) ≤ 2 ^ 5 := Nat.pow_le_pow_right (by omega) hm
 have h := states_good w (by omega) v (by omega) n (by omega) ⟨hw, hv, hm, hn⟩
 unfold stateGood at h
 have e1 : ∀ k, impl_Program_stateOf.f k (w : Int) (v : Int) st co (n : Int) = impl_Program_stateOf.f k (w : Int) (v : Int) [] [] (n : Int) := fun k => stateOf_l0_same _ st co _ _ k _ _ _
 have e2 : ∀ k, spec_l7Of.f k (w : Int) (v : Int) st co (n : Int) = spec_l7Of.f k (w : Int) (v : Int) [] [] (n : Int) := fun k => l7Of_l0_same _ st co _ _ k _ _
 cases ha : impl_Program_stateOf.f 10 (w : Int) (v : Int) [] [] (n : Int) with
 | none => rw [ha] at h; simp at h
 | some a =>
  cases hb : spec_l7Of.f 10 (w : Int) (v : Int) [] [] (n : Int) with
  | none => rw [ha, hb] at h; simp at h
  | some b =>
   rw [ha, hb] at h
   simp only [Bool.and_eq_true, decide_eq_true_eq, List.all_eq_true] at h
   obtain ⟨⟨rfl, h5⟩, h6⟩ := h
   exact ⟨a, ev_mono ((e1 10).trans ha) (fun k => impl_Program_stateOf.mono _ _ _ _ _ k), ev_mono ((e2 10).trans hb) (fun k => spec_l7Of.mono _ _ _ _ _ k), ⟨h5, fun x hx => (h6 x hx).2⟩, fun x hx => (h6 x hx).1⟩
def dig (w : Nat) : Nat → Nat → List Int
 | 0, _ => []
 | v + 1, n => ((n % 2 ^ w : Nat) : Int) :: dig w v (n / 2 ^ w)
def undig (w : Nat) : List Int → Nat
 | [] => 0
 | a :: t => a.toNat + 2 ^ w * undig w t
theorem dig_length (w : Nat) : ∀ v n, (dig w v n).length = v
 | 0, _ => rfl
 | v + 1, n => by simp [dig, dig_length w v]
theorem dig_in (w : Nat) : ∀ v n, ∀ a ∈ dig w v n, 0 ≤ a ∧ a < ((2 ^ w : Nat) : Int)
 | 0, _ => by simp [dig]
 | v + 1, n => by
  intro a ha
  rcases List.mem_cons.1 ha with rfl | ha
  ·exact ⟨by omega, Int.ofNat_lt.2 (Nat.mod_lt _ (Nat.two_pow_pos w))⟩
  ·exact dig_in w v _ a ha
theorem dig_undig (w : Nat) : ∀ s : List Int, (∀ a ∈ s, 0 ≤ a ∧ a < ((2 ^ w : Nat) : Int)) → dig w s.length (undig w s) = s ∧ undig w s < 2 ^ (w * s.length)
 | [], _ => by simp [dig, undig]
 | a :: t, h => by
  obtain ⟨h1, h2⟩ := h a (by simp)
  obtain ⟨h3, h4⟩ := dig_undig w t (fun b hb => h b (by simp [hb]))
  have h5 : a.toNat < 2 ^ w := by omega
  have h6 : (a.toNat + 2 ^ w * undig w t) % 2 ^ w = a.toNat := by rw [Nat.add_mul_mod_self_left, Nat.mod_eq_of_lt h5]
  have h7 : (a.toNat + 2 ^ w * undig w t) / 2 ^ w = undig w t := by rw [Nat.add_mul_div_left _ _ (Nat.two_pow_pos w), Nat.div_eq_of_lt h5, Nat.zero_add]
  refine ⟨?_, ?_⟩
  ·simp only [List.length_cons, dig, undig]
   rw [h6, h7, h3, Int.toNat_of_nonneg h1]
  ·simp only [List.length_cons, undig, Nat.mul_succ, Nat.pow_add]
   have h8 : 2 ^ w * (undig w t + 1) ≤ 2 ^ w * 2 ^ (w * t.length) := Nat.mul_le_mul_left _ h4
   rw [Nat.mul_add, Nat.mul_one] at h8
   rw [Nat.mul_comm (2 ^ (w * t.length))]
   omega
theorem gw_dig {w : Nat} (h1 : 1 ≤ w) (h2 : w ≤ 64) (a : Int) : GW (w : Int) a ↔ a < ((2 ^ w : Nat) : Int) := by
 unfold GW
 rw [Int.toNat_natCast, two_nat]
 exact ⟨fun h => h.2.2, fun h => ⟨by omega, by omega, h⟩⟩
theorem dig_sta {w v : Nat} (h1 : 1 ≤ w) (h2 : w ≤ 64) (n : Nat) : Sta (w : Int) (v : Int) (dig w v n) :=
 ⟨⟨by rw [dig_length], fun a ha => (gw_dig h1 h2 a).2 (dig_in w v n a ha).2⟩, fun a ha => (dig_in w v n a ha).1⟩
theorem sta_dig {w v : Nat} {s : List Int} (h : Sta (w : Int) (v : Int) s) (h1 : 1 ≤ w) (h2 : w ≤ 64) : ∃ n, n < 2 ^ (w * v) ∧ s = dig w v n := by
 obtain ⟨h3, h4⟩ := dig_undig w s (fun a ha => ⟨h.2 a ha, (gw_dig h1 h2 a).1 (h.1.2 a ha)⟩)
 have hl : s.length = v := by have := h.1.1; omega
 rw [hl] at h3 h4
 exact ⟨_, h4, h3.symm⟩
def ofGood (w v n : Nat) : Bool := decide (impl_Program_stateOf.f 10 (w : Int) (v : Int) [] [] (n : Int) = some (dig w v n)) && decide (spec_l7Of.f 10 (w : Int) (v : Int) [] [] (n : Int) = some (dig w v n))
theorem ofs_good : ∀ w, w < 6 → ∀ v, v < 6 → ∀ n, n < 32 → (1 ≤ w ∧ 1 ≤ v ∧ w * v ≤ 5 ∧ n < 2 ^ (w * v)) → ofGood w v n = true := by
 decide +kernel
theorem small_in {w v n : Nat} (hw : 1 ≤ w) (hv : 1 ≤ v) (hm : w * v ≤ 5) (hn : n < 2 ^ (w * v)) : w < 6 ∧ v < 6 ∧ n < 32 := by
 have h1 : w ≤ w * v := Nat.le_mul_of_pos_right _ hv
 have h2 : v ≤ w * v := Nat.le_mul_of_pos_left _ hw
 have h3 : 2 ^ (w * v) ≤ 2 ^ 5 := Nat.pow_le_pow_right (by omega) hm
 omega
theorem of_both {w v n : Nat} (hw : 1 ≤ w) (hv : 1 ≤ v) (hm : w * v ≤ 5) (hn : n < 2 ^ (w * v)) (st : List S79) (co : List S95) :
  Ev (fun k => impl_Program_stateOf.f k (w : Int) (v : Int) st co (n : Int)) (dig w v n) ∧ Ev (fun k => spec_l7Of.f k (w : Int) (v : Int) st co (n : Int)) (dig w v n) := by
 obtain ⟨h1, h2, h3⟩ := small_in hw hv hm hn
 have h := ofs_good w h1 v h2 n h3 ⟨hw, hv, hm, hn⟩
 simp only [ofGood, Bool.and_eq_true, decide_eq_true_eq] at h
 exact ⟨ev_mono ((stateOf_l0_same _ st co _ _ 10 _ _ _).trans h.1) (fun k => impl_Program_stateOf.mono _ _ _ _ _ k), ev_mono ((l7Of_l0_same _ st co _ _ 10 _ _).trans h.2) (fun k => spec_l7Of.mono _ _ _ _ _ k)⟩
structure SP (w v : Nat) (st : List S79) (co : List S95) : Prop where
 prg : Prg (w : Int) (v : Int) st co
 w1 : 1 ≤ w
 w2 : w ≤ 64
 v1 : 1 ≤ v
 v2 : v ≤ 4
 m : w * v ≤ 5
theorem SP.of {wi va : Int} {st : List S79} {co : List S95} (h : SmallP wi va st co) (hst : Wd st) (hco : ∀ c ∈ co, Wd c.f0 ∧ ∀ x ∈ c.f1, Wd x.f1) : ∃ w v : Nat, wi = (w : Int) ∧ va = (v : Int) ∧ SP w v st co := by
 obtain ⟨hg, hm⟩ := h
 obtain ⟨w, v, rfl, rfl, hw, hw2, hv, hv2, e, hb⟩ := small_nat hg
 rw [e] at hm
 exact ⟨w, v, rfl, rfl, ⟨hg, hst, hco⟩, hw, hw2, hv, hv2, by omega⟩
section
variable {w v : Nat} {st : List S79} {co : List S95} (h : SP w v st co)
include h
theorem SP.pow : 2 ^ (w * v) ≤ 32 := Nat.pow_le_pow_right (by omega) h.m
theorem SP.states : impl_Program_states.f (w : Int) (v : Int) st co = some ((2 ^ (w * v) : Nat) : Int) := by
 have hm := h.m
 have e : (w : Int) * (v : Int) = ((w * v : Nat) : Int) := by simp
 unfold impl_Program_states.f
 rw [e, wid (by omega) (by omega), if_pos (by omega), shl_few _ (by omega)]
theorem SP.many : spec_l7Many.f (w : Int) (v : Int) st co = some ((2 ^ (w * v) : Nat) : Int) := by
 have hm := h.m
 have e : (w : Int) * (v : Int) = ((w * v : Nat) : Int) := by simp
 unfold spec_l7Many.f
 rw [e, wid (by omega) (by omega), wu, Int.emod_eq_of_lt (by omega) (by omega), if_pos (by omega), shl_few _ (by omega)]
end
theorem cloneU64_eq (l : List Int) (h : l.length < 17592186044416) : slices_Clone_uint64_uint64.f l = some l := by
 rw [slices_Clone_uint64_uint64.f, if_pos h]
theorem l7Do_l0 {wi va : Int} (st : List S79) (co : List S95) {s : List Int} (hs : Sta wi va s) {l : List S124} (hl : l.length ≤ 1048576) (hc : ChAll wi va l) (d : Nat) : ∀ (j : Nat) (o : List Int), j + d = l.length → (o.length : Int) = va →
  Ev (fun k => spec_l7Do.l0 k s o l (l.length : Int) (j : Int) wi va st co) (aft wi s (l.drop j) o) := by
 induction d with
 | zero => exact fun j o hj ho => ev_eq (Ev.step (f := fun _ => some o) (fun k => by simp only [spec_l7Do.l0]; rw [if_neg (by omega)]) (Ev.now _)) (by rw [List.drop_of_length_le (by omega)]; rfl)
 | succ d ih =>
  intro j o hj ho
  have er : rd_T124 l (j : Int) = l.getD j z124 := by simp [rd_T124]
  obtain ⟨h1, h2, h3, h4⟩ := hc _ (getD_mem (l := l) (j := j) (by omega) z124)
  refine Ev.step (fun k => by simp only [spec_l7Do.l0]; rw [if_pos (by omega), if_pos (by omega), if_pos (by omega), wsucc (by omega), er]) ?_
  refine Ev.bind (value_is h3 h4 hs).2.1 (ev_pos h1 (ev_pos (by omega) ?_))
  refine ev_eq (ih (j + 1) _ (by omega) (by simpa using ho)) ?_
  rw [drop_cons (show j < l.length by omega) z124]; rfl
theorem after_l0 {wi va : Int} (st : List S79) (co : List S95) {s : List Int} (hs : Sta wi va s) {l : List S124} (hl : l.length ≤ 1048576) (hc : ChAll wi va l) (d : Nat) : ∀ (j : Nat) (o : List Int), j + d = l.length → (o.length : Int) = va →
  Ev (fun k => impl_Program_after.l0 k s o l (l.length : Int) (j : Int) wi va st co) (aft wi s (l.drop j) o) := by
 induction d with
 | zero => exact fun j o hj ho => ev_eq (Ev.step (f := fun _ => some o) (fun k => by simp only [impl_Program_after.l0]; rw [if_neg (by omega)]) (Ev.now _)) (by rw [List.drop_of_length_le (by omega)]; rfl)
 | succ d ih =>
  intro j o hj ho
  have er : rd_T124 l (j : Int) = l.getD j z124 := by simp [rd_T124]
  obtain ⟨h1, h2, h3, h4⟩ := hc _ (getD_mem (l := l) (j := j) (by omega) z124)
  refine Ev.step (fun k => by simp only [impl_Program_after.l0]; rw [if_pos (by omega), if_pos (by omega), if_pos (by omega), wsucc (by omega), er]) ?_
  refine Ev.bind (value_is h3 h4 hs).1 (ev_pos h1 (ev_pos (by omega) ?_))
  refine ev_eq (ih (j + 1) _ (by omega) (by simpa using ho)) ?_
  rw [drop_cons (show j < l.length by omega) z124]; rfl
theorem Prg.few {wi va : Int} {st : List S79} {co : List S95} (h : Prg wi va st co) {c : S95} (hc : c ∈ co) : c.f1.length ≤ 4 := by
 have h1 := h.1.1.2.1
 have h2 := changes_few (va := va) (by omega) (h.1.2.2 c hc).2
 omega
theorem l7Do_ev {wi va : Int} {st : List S79} {co : List S95} (h : Prg wi va st co) {s : List Int} (hs : Sta wi va s) {j : Nat} (hj : j < co.length) : Ev (fun k => spec_l7Do.f k wi va st co s (j : Int)) (aft wi s (co.getD j z95).f1 s) := by
 have h1 := h.1.1.2.1
 have h2 := hs.1.1
 have h3 := h.few (getD_mem hj z95)
 have er : rd_T95 co (j : Int) = co.getD j z95 := by simp [rd_T95]
 have e := l7Do_l0 st co hs (l := (co.getD j z95).f1) (by omega) (h.changes (getD_mem hj _)) _ 0 s (Nat.zero_add _) h2
 refine Ev.congr (fun k => by simp only [spec_l7Do.f, Option.bind_some, List.nil_append, List.length_nil]; rw [if_pos (by omega), if_pos (by omega), if_pos (by omega), er]; rfl) e
theorem after_ev {wi va : Int} {st : List S79} {co : List S95} (h : Prg wi va st co) {s : List Int} (hs : Sta wi va s) {j : Nat} (hj : j < co.length) : Ev (fun k => impl_Program_after.f k wi va st co (co.getD j z95).f0 (co.getD j z95).f1 s) (aft wi s (co.getD j z95).f1 s) := by
 have h1 := h.1.1.2.1
 have h2 := hs.1.1
 have h3 := h.few (getD_mem hj z95)
 exact Ev.bind (ev_const (cloneU64_eq s (by omega))) (after_l0 st co hs (l := (co.getD j z95).f1) (by omega) (h.changes (getD_mem hj _)) _ 0 s (Nat.zero_add _) h2)
theorem stateNo_same (st : List S79) (co : List S95) (w v : Int) : ∀ (k : Nat) (x5 : Int) (x8 : List Int) (x9 x10 : Int), impl_Program_stateNo.l0 k x5 x8 x9 x10 w v st co = impl_Program_stateNo.l0 k x5 x8 x9 x10 w v [] []
 | 0, x5, x8, x9, x10 => rfl
 | k + 1, x5, x8, x9, x10 => by simp only [impl_Program_stateNo.l0, stateNo_same st co w v k]
theorem l7No_same (st : List S79) (co : List S95) (w v : Int) : ∀ (k : Nat) (x1 : List Int) (x5 x6 : Int), spec_l7No.l0 k x1 x5 x6 w v st co = spec_l7No.l0 k x1 x5 x6 w v [] []
 | 0, x1, x5, x6 => rfl
 | k + 1, x1, x5, x6 => by simp only [spec_l7No.l0, l7No_same st co w v k]
def noGood (w v n : Nat) : Bool := decide (impl_Program_stateNo.f 10 (w : Int) (v : Int) [] [] (dig w v n) = some (n : Int)) && decide (spec_l7No.f 10 (w : Int) (v : Int) [] [] (dig w v n) = some (n : Int))
theorem nos_good : ∀ w, w < 6 → ∀ v, v < 6 → ∀ n, n < 32 → (1 ≤ w ∧ 1 ≤ v ∧ w * v ≤ 5 ∧ n < 2 ^ (w * v)) → noGood w v n = true := by
 decide +kernel
theorem no_both {w v n : Nat} (hw : 1 ≤ w) (hv : 1 ≤ v) (hm : w * v ≤ 5) (hn : n < 2 ^ (w * v)) (st : List S79) (co : List S95) :
  Ev (fun k => impl_Program_stateNo.f k (w : Int) (v : Int) st co (dig w v n)) (n : Int) ∧ Ev (fun k => spec_l7No.f k (w : Int) (v : Int) st co (dig w v n)) (n : Int) := by
 obtain ⟨h1, h2, h3⟩ := small_in hw hv hm hn
 have h := nos_good w h1 v h2 n h3 ⟨hw, hv, hm, hn⟩
 simp only [noGood, Bool.and_eq_true, decide_eq_true_eq] at h
 exact ⟨ev_mono ((stateNo_same st co _ _ 10 _ _ _ _).trans h.1) (fun k => impl_Program_stateNo.mono _ _ _ _ _ k), ev_mono ((l7No_same st co _ _ 10 _ _ _).trans h.2) (fun k => spec_l7No.mono _ _ _ _ _ k)⟩
noncomputable def nxt' (w v : Nat) (co : List S95) (n i : Nat) : Nat := undig w (aft (w : Int) (dig w v n) (co.getD i z95).f1 (dig w v n))
noncomputable def can (w v : Nat) (co : List S95) (n i : Nat) : Prop := hold (w : Int) (co.getD i z95).f0 (dig w v n) = true
def Nx (w v : Nat) (co : List S95) (n : Nat) (x : Int) : Prop := (∃ i, i < co.length ∧ can w v co n i ∧ x = (nxt' w v co n i : Int)) ∨ (x = (n : Int) ∧ ∀ i, i < co.length → ¬ can w v co n i)
section
variable {w v : Nat} {st : List S79} {co : List S95} (h : SP w v st co)
include h
theorem SP.nxt_in (n : Nat) {i : Nat} (hi : i < co.length) : nxt' w v co n i < 2 ^ (w * v) ∧ aft (w : Int) (dig w v n) (co.getD i z95).f1 (dig w v n) = dig w v (nxt' w v co n i) := by
 have hS := dig_sta (v := v) h.w1 h.w2 n
 have hA := aft_sta hS (co.getD i z95).f1 _ (h.prg.changes (getD_mem hi _)) hS
 obtain ⟨h3, h4⟩ := dig_undig w _ (fun a ha => ⟨hA.2 a ha, (gw_dig h.w1 h.w2 a).1 (hA.1.2 a ha)⟩)
 have hl : (aft (w : Int) (dig w v n) (co.getD i z95).f1 (dig w v n)).length = v := by have := hA.1.1; omega
 rw [hl] at h3 h4
 exact ⟨h4, h3.symm⟩
theorem SP.nx_in {n : Nat} (hn : n < 2 ^ (w * v)) {x : Int} (hx : Nx w v co n x) : 0 ≤ x ∧ x < ((2 ^ (w * v) : Nat) : Int) := by
 rcases hx with ⟨i, hi, _, rfl⟩ | ⟨rfl, _⟩
 ·have := (h.nxt_in n hi).1; omega
 ·omega
end
noncomputable def nextS (w v : Nat) (co : List S95) (n : Nat) : List Int := ((List.range (2 ^ (w * v))).map (fun i : Nat => (i : Int))).filter (fun x => @decide (Nx w v co n x) (Classical.propDecidable _))
theorem SP.mem_nextS {w v : Nat} {st : List S79} {co : List S95} (h : SP w v st co) {n : Nat} (hn : n < 2 ^ (w * v)) (x : Int) : x ∈ nextS w v co n ↔ Nx w v co n x := by
 unfold nextS
 rw [List.mem_filter, @decide_eq_true_iff _ (Classical.propDecidable _)]
 refine ⟨fun g => g.2, fun g => ⟨?_, g⟩⟩
 have := h.nx_in hn g
 exact List.mem_map.2 ⟨x.toNat, List.mem_range.2 (by omega), by omega⟩
theorem nextS_rg (w v : Nat) (co : List S95) (n : Nat) : Rg (2 ^ (w * v)) (nextS w v co n) := by
 refine ⟨List.Pairwise.filter _ (List.pairwise_map.2 (List.pairwise_lt_range.imp (fun h => by omega))), fun x hx => ?_⟩
 obtain ⟨i, hi, rfl⟩ := List.mem_map.1 (List.mem_filter.1 hx).1
 have := List.mem_range.1 hi
 omega
theorem SP.l8Next_l0 {w v : Nat} {st : List S79} {co : List S95} (h : SP w v st co) {n : Nat} (hn : n < 2 ^ (w * v)) {en : List Int} (he : ∀ x ∈ en, ∃ i : Nat, x = i ∧ i < co.length) (hel : en.length ≤ 6) (d : Nat) : ∀ (j : Nat) (o : List Int), j + d = en.length → Rg (2 ^ (w * v)) o →
  ∃ r, Rg (2 ^ (w * v)) r ∧ (∀ x, x ∈ r ↔ (x ∈ o ∨ ∃ i : Nat, (i : Int) ∈ en.drop j ∧ x = (nxt' w v co n i : Int)) ∨ (x = (n : Int) ∧ o = [] ∧ en.drop j = [])) ∧ Ev (fun k => spec_l8Next.l0 k (n : Int) (dig w v n) o en (en.length : Int) (j : Int) (w : Int) (v : Int) st co) r := by
 have hp := h.pow
 induction d with
 | zero =>
  intro j o hj ho
  rw [List.drop_of_length_le (by omega)]
  by_cases h0 : o = []
  ·subst h0
   refine ⟨[(n : Int)], ⟨by simp [Rise], fun y hy => by rw [List.mem_singleton.1 hy]; omega⟩, fun x => by simp, Ev.step (f := fun _ => some [(n : Int)]) (fun k => by simp only [spec_l8Next.l0]; rw [if_neg (by omega), if_pos (by simp)]) (Ev.now _)⟩
  ·have hl : 0 < o.length := List.length_pos_iff.2 h0
   exact ⟨o, ho, fun x => by simp [h0], Ev.step (f := fun _ => some o) (fun k => by simp only [spec_l8Next.l0]; rw [if_neg (by omega), if_neg (by omega)]) (Ev.now _)⟩
 | succ d ih =>
  intro j o hj ho
  obtain ⟨i, e, hi⟩ := he _ (getD_mem (l := en) (j := j) (by omega) 0)
  obtain ⟨n1, n2⟩ := h.nxt_in n hi
  obtain ⟨p, p1, p2, p3⟩ := ho.put (by omega) (n := (nxt' w v co n i : Int)) (by omega) (by omega)
  obtain ⟨r, r1, r2, r3⟩ := ih (j + 1) p (by omega) p1
  have hd := l7Do_ev h.prg (dig_sta (v := v) h.w1 h.w2 n) hi
  rw [n2] at hd
  have hpn : p ≠ [] := fun g => by have := (p2 (nxt' w v co n i : Int)).2 (.inl rfl); rw [g] at this; simp at this
  have hdr : en.drop j = (i : Int) :: en.drop (j + 1) := by rw [drop_cons (show j < en.length by omega) 0, e]
  refine ⟨r, r1, fun x => ?_, ?_⟩
  ·rw [r2, p2, hdr]
   constructor
   ·rintro (((g | g) | ⟨i', g1, g2⟩) | ⟨_, g, _⟩)
    ·exact .inl (.inr ⟨i, by simp, g⟩)
    ·exact .inl (.inl g)
    ·exact .inl (.inr ⟨i', by simp [g1], g2⟩)
    ·exact absurd g hpn
   ·rintro ((g | ⟨i', g1, g2⟩) | ⟨_, _, g⟩)
    ·exact .inl (.inl (.inr g))
    ·rcases List.mem_cons.1 g1 with g1 | g1
     ·have : i' = i := by omega
      subst this
      exact .inl (.inl (.inl g2))
     ·exact .inl (.inr ⟨i', g1, g2⟩)
    ·simp at g
  ·refine Ev.step (fun k => by simp only [spec_l8Next.l0]; rw [if_pos (by omega), if_pos (by omega), if_pos (by omega), rd_nat, e, wsucc (by omega)]) ?_
   exact Ev.bind hd (Ev.bind (no_both h.w1 h.v1 h.m n1 st co).2 (Ev.bind p3 r3))
theorem SP.l8Next {w v : Nat} {st : List S79} {co : List S95} (h : SP w v st co) {n : Nat} (hn : n < 2 ^ (w * v)) : Ev (fun k => spec_l8Next.f k (w : Int) (v : Int) st co (n : Int)) (nextS w v co n) := by
 have hS := dig_sta (v := v) h.w1 h.w2 n
 have hen : ∀ x, x ∈ enab (w : Int) co (dig w v n) ↔ ∃ i : Nat, x = i ∧ i < co.length ∧ can w v co n i := fun x => by
  unfold enab can
  rw [mem_enFrom]
  exact ⟨fun ⟨i, h1, _, h2, h3⟩ => ⟨i, h1, by omega, h3⟩, fun ⟨i, h1, h2, h3⟩ => ⟨i, h1, Nat.zero_le _, by omega, h3⟩⟩
 obtain ⟨r, r1, r2, r3⟩ := h.l8Next_l0 hn (en := enab (w : Int) co (dig w v n)) (fun x hx => by
  obtain ⟨i, h1, h2, _⟩ := (hen x).1 hx
  exact ⟨i, h1, h2⟩) (by have := enFrom_length (w : Int) co (dig w v n) co.length 0; have := h.prg.1.2.1; unfold enab; omega) _ 0 [] (Nat.zero_add _) (Rg.nil _)
 have e : r = nextS w v co n := by
  refine r1.uniq (nextS_rg w v co n) (fun x => ?_)
  rw [r2, h.mem_nextS hn, List.drop_zero]
  unfold Nx
  constructor
  ·rintro ((g | ⟨i, g1, g2⟩) | ⟨g1, _, g2⟩)
   ·simp at g
   ·obtain ⟨i', e1, g3, g4⟩ := (hen _).1 g1
    have : i = i' := by omega
    subst this
    exact .inl ⟨i, g3, g4, g2⟩
   ·exact .inr ⟨g1, fun i hi hc => by have := (hen (i : Int)).2 ⟨i, rfl, hi, hc⟩; rw [g2] at this; simp at this⟩
  ·rintro (⟨i, g1, g2, g3⟩ | ⟨g1, g2⟩)
   ·exact .inl (.inr ⟨i, (hen _).2 ⟨i, rfl, g1, g2⟩, g3⟩)
   ·refine .inr ⟨g1, rfl, List.eq_nil_iff_forall_not_mem.2 (fun x hx => ?_)⟩
    obtain ⟨i, _, g3, g4⟩ := (hen x).1 hx
    exact g2 i g3 g4
 rw [← e]
 exact Ev.bind (of_both h.w1 h.v1 h.m hn st co).2 (Ev.bind (l7Enabled_ev h.prg hS) r3)
theorem l1Has_l0 (l : List Int) (x : Int) (hl : l.length ≤ 9223372036854775807) (d : Nat) : ∀ (j : Nat), j + d = l.length → Tells (fun k => spec_l1Has.l0 k x l (l.length : Int) (j : Int)) (x ∈ l.drop j) := by
 induction d with
 | zero => exact fun j hj => tells_step (f := fun _ => some false) (fun k => by simp only [spec_l1Has.l0]; rw [if_neg (by omega)]) (tells_no (by rw [List.drop_of_length_le (by omega)]; simp))
 | succ d ih =>
  intro j hj
  refine tells_step (fun k => by simp only [spec_l1Has.l0]; rw [if_pos (by omega), if_pos (by omega), if_pos (by omega), rd_nat, wsucc (by omega)]) ?_
  rw [drop_cons (show j < l.length by omega) 0]
  exact tells_if (fun h => tells_yes (by rw [h]; simp)) (fun h => tells_iff (ih (j + 1) (by omega)) (by rw [List.mem_cons]; exact ⟨fun g => .inr g, fun g => g.resolve_left (fun e => h e.symm)⟩))
theorem l1Has_tells (l : List Int) (x : Int) (hl : l.length ≤ 9223372036854775807) : Tells (fun k => spec_l1Has.f k l x) (x ∈ l) := by
 have := l1Has_l0 l x hl l.length 0 (by omega)
 rwa [List.drop_zero] at this
theorem l1Own_eq (l : List Int) (h : l.length ≤ 1048576) : spec_l1Own.f l = some l := by
 simp only [spec_l1Own.f, Option.bind_some, List.nil_append, List.length_nil]
 rw [if_pos (by omega)]
theorem l7Meet_l0 (a b : List Int) (hb : b.length ≤ 9223372036854775807) (ha : a.length ≤ 9223372036854775807) (d : Nat) : ∀ (j : Nat), j + d = a.length → Tells (fun k => spec_l7Meet.l0 k b a (a.length : Int) (j : Int)) (∃ x ∈ a.drop j, x ∈ b) := by
 induction d with
 | zero => exact fun j hj => tells_step (f := fun _ => some false) (fun k => by simp only [spec_l7Meet.l0]; rw [if_neg (by omega)]) (tells_no (by rw [List.drop_of_length_le (by omega)]; simp))
 | succ d ih =>
  intro j hj
  refine tells_step (fun k => by simp only [spec_l7Meet.l0]; rw [if_pos (by omega), if_pos (by omega), if_pos (by omega), rd_nat, wsucc (by omega)]) ?_
  rw [drop_cons (show j < a.length by omega) 0]
  refine tells_ask (l1Has_tells b (a.getD j 0) hb) (fun h => tells_pos rfl (tells_yes ⟨_, List.mem_cons_self .., h⟩)) (fun h => tells_neg (by simp) (tells_iff (ih (j + 1) (by omega)) ⟨fun ⟨x, h1, h2⟩ => ⟨x, List.mem_cons_of_mem _ h1, h2⟩, fun ⟨x, h1, h2⟩ => ?_⟩))
  rcases List.mem_cons.1 h1 with rfl | h1
  ·exact absurd h2 h
  ·exact ⟨x, h1, h2⟩
theorem l7Meet_tells (a b : List Int) (hb : b.length ≤ 9223372036854775807) (ha : a.length ≤ 9223372036854775807) : Tells (fun k => spec_l7Meet.f k a b) (∃ x ∈ a, x ∈ b) := by
 have := l7Meet_l0 a b hb ha a.length 0 (by omega)
 rwa [List.drop_zero] at this
theorem isIncreasing_l0 (l : List Int) (b : Int) (hl : l.length ≤ 9223372036854775807) (d : Nat) : ∀ (j : Nat), j + d = l.length →
  Tells (fun k => impl_isIncreasing.l0 k l b l (l.length : Int) (j : Int)) (∀ i, j ≤ i → i < l.length → RiseAt l 0 (b - 1) i) := by
 induction d with
 | zero => exact fun j hd => tells_step (f := fun _ => some true) (fun k => by simp only [impl_isIncreasing.l0]; rw [if_neg (by omega)]) (tells_yes (fun i h1 h2 => by omega))
 | succ d ih =>
  intro j hd
  have hj : j < l.length := by omega
  refine tells_step (fun k => by simp only [impl_isIncreasing.l0]; rw [if_pos (by omega), if_pos (by omega), if_pos (by omega), wsucc (by omega), rd_nat]) ?_
  refine tells_iff ?_ (from_here hj).symm
  refine tells_if (fun h1 => tells_no (fun h => by have := h.1.1.1; omega)) (fun h1 => ?_)
  refine tells_if (fun h2 => tells_no (fun h => by have := h.1.1.2; omega)) (fun h2 => ?_)
  by_cases h0 : 0 < j
  ·refine tells_pos (by omega) ?_
   rw [wpred h0 (by omega), rd_nat]
   refine tells_pos (by omega) (tells_pos (by omega) (tells_if (fun hc => ?_) (fun hc => ?_)))
   ·exact tells_no (fun h => by have := h.1.2 h0; omega)
   ·exact tells_iff (ih (j + 1) (by omega)) ⟨fun h => ⟨⟨⟨by omega, by omega⟩, fun _ => by omega⟩, h⟩, fun h => h.2⟩
  ·refine tells_neg (by omega) ?_
   exact tells_iff (ih (j + 1) (by omega)) ⟨fun h => ⟨⟨⟨by omega, by omega⟩, fun h1 => absurd h1 h0⟩, h⟩, fun h => h.2⟩
theorem isIncreasing_tells (l : List Int) (b : Int) (hl : l.length ≤ 9223372036854775807) : Tells (fun k => impl_isIncreasing.f k l b) (Rising l 0 (b - 1)) :=
 (tells_iff (isIncreasing_l0 l b hl l.length 0 (by omega)) ⟨fun h i hi => h i (Nat.zero_le _) hi, fun h i _ hi => h i hi⟩)
theorem cloneInt_eq (l : List Int) (h : l.length < 17592186044416) : slices_Clone_int_int.f l = some l := by
 rw [slices_Clone_int_int.f, if_pos h]
theorem SP.nextOf_l0 {w v : Nat} {st : List S79} {co : List S95} (h : SP w v st co) {n : Nat} (hn : n < 2 ^ (w * v)) (d : Nat) : ∀ (j : Nat) (o : List Int), j + d = co.length → o.length ≤ j → (∀ x ∈ o, 0 ≤ x ∧ x < ((2 ^ (w * v) : Nat) : Int)) →
  ∃ r, Rg (2 ^ (w * v)) r ∧ (∀ x, x ∈ r ↔ (x ∈ o ∨ ∃ i, j ≤ i ∧ i < co.length ∧ can w v co n i ∧ x = (nxt' w v co n i : Int)) ∨ (x = (n : Int) ∧ o = [] ∧ ∀ i, j ≤ i → i < co.length → ¬ can w v co n i)) ∧ Ev (fun k => impl_Program_nextOf.l0 k (n : Int) (dig w v n) o co (co.length : Int) (j : Int) (w : Int) (v : Int) st co) r := by
 have h6 := h.prg.1.2.1
 induction d with
 | zero =>
  intro j o hj hl ho
  by_cases h0 : o = []
  ·subst h0
   exact ⟨[(n : Int)], ⟨by simp [Rise], fun y hy => by rw [List.mem_singleton.1 hy]; omega⟩, fun x => by
    simp only [List.mem_singleton, List.not_mem_nil, false_or]
    exact ⟨fun g => .inr ⟨g, trivial, fun i h1 h2 => by omega⟩, fun g => g.elim (fun ⟨i, h1, h2, _⟩ => by omega) (fun g => g.1)⟩, Ev.step (f := fun _ => some [(n : Int)]) (fun k => by simp only [impl_Program_nextOf.l0]; rw [if_neg (by omega), if_pos (by simp)]) (Ev.now _)⟩
  ·have hl0 : 0 < o.length := List.length_pos_iff.2 h0
   obtain ⟨s1, s2⟩ := sort_compact o
   have e1 : slices_Sort_int_int.f o = some (o.mergeSort fun x y => decide (x ≤ y)) := by rw [slices_Sort_int_int.f, if_pos (by omega)]
   have e2 : slices_Compact_int_int.f (o.mergeSort fun x y => decide (x ≤ y)) = some (Go.Lib.compact (o.mergeSort fun x y => decide (x ≤ y))) := by rw [slices_Compact_int_int.f, if_pos (by rw [List.length_mergeSort]; omega)]
   refine ⟨Go.Lib.compact (o.mergeSort fun x y => decide (x ≤ y)), ⟨s1, fun x hx => ho x ((s2 x).1 hx)⟩, fun x => (s2 x).trans ⟨fun g => .inl (.inl g), fun g => ?_⟩, Ev.step (f := fun _ => some (Go.Lib.compact (o.mergeSort fun x y => decide (x ≤ y)))) (fun k => by simp only [impl_Program_nextOf.l0]; rw [if_neg (by omega), if_neg (by omega), e1, Option.bind_some, e2, Option.bind_some]) (Ev.now _)⟩
   rcases g with (g | ⟨i, g1, g2, _⟩) | ⟨_, g, _⟩
   ·exact g
   ·omega
   ·exact absurd g h0
 | succ d ih =>
  intro j o hj hl ho
  have hjl : j < co.length := by omega
  obtain ⟨w1, w2⟩ := h.prg.when hjl
  have er : rd_T95 co (j : Int) = co.getD j z95 := by simp [rd_T95]
  obtain ⟨n1, n2⟩ := h.nxt_in n hjl
  have hS := dig_sta (v := v) h.w1 h.w2 n
  have hh := holds_impl st co w1 w2 hS
  by_cases hc : hold (w : Int) (co.getD j z95).f0 (dig w v n) = true
  ·obtain ⟨r, r1, r2, r3⟩ := ih (j + 1) (o ++ [(nxt' w v co n j : Int)]) (by omega) (by simp; omega) (fun x hx => by
    rcases List.mem_append.1 hx with hx | hx
    ·exact ho x hx
    ·rw [List.mem_singleton.1 hx]; omega)
   have ha := after_ev h.prg hS hjl
   rw [n2] at ha
   refine ⟨r, r1, fun x => ?_, Ev.step (fun k => by simp only [impl_Program_nextOf.l0]; rw [if_pos (by omega), if_pos (by omega), if_pos (by omega), wsucc (by omega), er]) ?_⟩
   ·rw [r2]
    simp only [List.mem_append, List.mem_singleton]
    constructor
    ·rintro (((g | g) | ⟨i, g1, g2, g3, g4⟩) | ⟨_, g, _⟩)
     ·exact .inl (.inl g)
     ·exact .inl (.inr ⟨j, Nat.le_refl _, hjl, hc, g⟩)
     ·exact .inl (.inr ⟨i, by omega, g2, g3, g4⟩)
     ·simp at g
    ·rintro ((g | ⟨i, g1, g2, g3, g4⟩) | ⟨_, _, g⟩)
     ·exact .inl (.inl (.inl g))
     ·rcases Nat.eq_or_lt_of_le g1 with e | e
      ·subst e; exact .inl (.inl (.inr g4))
      ·exact .inl (.inr ⟨i, e, g2, g3, g4⟩)
     ·exact absurd hc (g j (Nat.le_refl _) hjl)
   ·exact Ev.bind hh (ev_pos hc (Ev.bind ha (Ev.bind (no_both h.w1 h.v1 h.m n1 st co).1 (ev_pos (by omega) r3))))
  ·obtain ⟨r, r1, r2, r3⟩ := ih (j + 1) o (by omega) (by omega) ho
   refine ⟨r, r1, fun x => ?_, Ev.step (fun k => by simp only [impl_Program_nextOf.l0]; rw [if_pos (by omega), if_pos (by omega), if_pos (by omega), wsucc (by omega), er]) (Ev.bind hh (ev_neg hc r3))⟩
   rw [r2]
   constructor
   ·rintro ((g | ⟨i, g1, g2, g3, g4⟩) | ⟨g1, g2, g3⟩)
    ·exact .inl (.inl g)
    ·exact .inl (.inr ⟨i, by omega, g2, g3, g4⟩)
    ·exact .inr ⟨g1, g2, fun i h1 h2 => by
      rcases Nat.eq_or_lt_of_le h1 with e | e
      ·subst e; exact hc
      ·exact g3 i e h2⟩
   ·rintro ((g | ⟨i, g1, g2, g3, g4⟩) | ⟨g1, g2, g3⟩)
    ·exact .inl (.inl g)
    ·rcases Nat.eq_or_lt_of_le g1 with e | e
     ·subst e; exact absurd g3 hc
     ·exact .inl (.inr ⟨i, e, g2, g3, g4⟩)
    ·exact .inr ⟨g1, g2, fun i h1 h2 => g3 i (by omega) h2⟩
theorem SP.nextOf {w v : Nat} {st : List S79} {co : List S95} (h : SP w v st co) {n : Nat} (hn : n < 2 ^ (w * v)) : Ev (fun k => impl_Program_nextOf.f k (w : Int) (v : Int) st co (n : Int)) (nextS w v co n) := by
 obtain ⟨r, r1, r2, r3⟩ := h.nextOf_l0 hn _ 0 [] (Nat.zero_add _) (Nat.le_refl _) (by simp)
 have e : r = nextS w v co n := by
  refine r1.uniq (nextS_rg w v co n) (fun x => ?_)
  rw [r2, h.mem_nextS hn]
  unfold Nx
  simp only [List.not_mem_nil, false_or, Nat.zero_le, true_and, forall_const]
 rw [← e]
 exact Ev.bind (of_both h.w1 h.v1 h.m hn st co).1 r3
def Arr (g : List (List Int)) : Prop := ∀ x ∈ g, x.length ≤ 1048576 ∧ ∀ w ∈ x, 0 ≤ w ∧ w < (g.length : Int)
def Walk (g : List (List Int)) (fr : List Int) : Nat → Int → Prop
 | 0, v => v ∈ fr
 | n + 1, v => ∃ u : Nat, u < g.length ∧ Walk g fr n (u : Int) ∧ v ∈ g.getD u []
def Reach (g : List (List Int)) (fr : List Int) (v : Int) : Prop := ∃ n, Walk g fr n v
theorem Walk.in_ {g : List (List Int)} {fr : List Int} (ha : Arr g) (hf : ∀ v ∈ fr, 0 ≤ v ∧ v < (g.length : Int)) : ∀ {n : Nat} {v : Int}, Walk g fr n v → 0 ≤ v ∧ v < (g.length : Int)
 | 0, v, h => hf v h
 | n + 1, v, ⟨u, hu, _, hv⟩ => (ha _ (getD_mem hu [])).2 v hv
def negs (l : List Int) : Nat := l.countP (fun x => decide (x < 0))
theorem getD_set' {l : List Int} {i j : Nat} {x d : Int} : (l.set i x).getD j d = if i = j ∧ j < l.length then x else l.getD j d := by
 simp only [List.getD_eq_getElem?_getD, List.getElem?_set]
 by_cases h : i = j
 ·subst h
  by_cases h2 : i < l.length
  ·simp [h2]
  ·simp [h2]
 ·simp [h]
theorem negs_set {l : List Int} {i : Nat} {x : Int} (hi : i < l.length) (h : l.getD i 0 < 0) (hx : 0 ≤ x) : negs (l.set i x) + 1 = negs l := by
 have e : l.getD i 0 = l[i] := getD_eq hi 0
 rw [e] at h
 have h1 : 0 < l.countP (fun x => decide (x < 0)) := List.countP_pos_iff.2 ⟨l[i], List.getElem_mem hi, by simpa using h⟩
 unfold negs
 rw [List.countP_set hi]
 simp only [h, show ¬ x < 0 by omega, decide_true, decide_false, if_true]
 simp only [Bool.false_eq_true, if_false]
 omega
structure Bfs (g : List (List Int)) (fr : List Int) (N : Nat) (c : Int) (st q : List Int) : Prop where
 len : st.length = g.length
 lo : ∀ x ∈ st, -1 ≤ x
 hi : ∀ x ∈ st, x ≤ c
 ok : ∀ v ∈ q, 0 ≤ v ∧ v < (g.length : Int) ∧ 0 ≤ st.getD v.toNat 0
 sum : negs st + q.length ≤ N
 way : ∀ v : Nat, v < g.length → 0 ≤ st.getD v 0 → Walk g fr (st.getD v 0).toNat v
 start : ∀ v ∈ fr, st.getD v.toNat 0 = 0
 shut : ∀ v : Nat, v < g.length → 0 ≤ st.getD v 0 → (v : Int) ∉ q → ∀ w ∈ g.getD v [], 0 ≤ st.getD w.toNat 0 ∧ st.getD w.toNat 0 ≤ st.getD v 0 + 1
 mono : q.Pairwise fun a b => st.getD a.toNat 0 ≤ st.getD b.toNat 0
 top : ∀ a ∈ q, ∀ x ∈ st, x ≤ st.getD a.toNat 0 + 1
structure Dist (g : List (List Int)) (fr : List Int) (st : List Int) : Prop where
 len : st.length = g.length
 lo : ∀ x ∈ st, -1 ≤ x
 few : ∀ x ∈ st, x ≤ 4194304
 way : ∀ v : Nat, v < g.length → 0 ≤ st.getD v 0 → Walk g fr (st.getD v 0).toNat v
 least : ∀ (n : Nat) (v : Nat), v < g.length → Walk g fr n v → 0 ≤ st.getD v 0 ∧ st.getD v 0 ≤ n
theorem Bfs.done {g : List (List Int)} {fr : List Int} {N : Nat} {c : Int} {st : List Int} (h : Bfs g fr N c st []) (hc : c ≤ 4194304) : Dist g fr st := by
 refine ⟨h.len, h.lo, fun x hx => by have := h.hi x hx; omega, h.way, fun n => ?_⟩
 induction n with
 | zero =>
  intro v hv hw
  have := h.start v hw
  rw [Int.toNat_natCast] at this
  omega
 | succ n ih =>
  intro v hv ⟨u, hu, h1, h2⟩
  obtain ⟨h3, h4⟩ := ih u hu h1
  have := h.shut u hu h3 (by simp) v h2
  rw [Int.toNat_natCast] at this
  omega
structure Mid (g : List (List Int)) (fr : List Int) (N : Nat) (c : Int) (v j : Nat) (st q : List Int) : Prop where
 len : st.length = g.length
 lo : ∀ x ∈ st, -1 ≤ x
 hi : ∀ x ∈ st, x ≤ c
 ok : ∀ v ∈ q, 0 ≤ v ∧ v < (g.length : Int) ∧ 0 ≤ st.getD v.toNat 0
 sum : negs st + q.length ≤ N
 way : ∀ v : Nat, v < g.length → 0 ≤ st.getD v 0 → Walk g fr (st.getD v 0).toNat v
 start : ∀ v ∈ fr, st.getD v.toNat 0 = 0
 shut : ∀ u : Nat, u < g.length → 0 ≤ st.getD u 0 → u ≠ v → (u : Int) ∉ q → ∀ w ∈ g.getD u [], 0 ≤ st.getD w.toNat 0 ∧ st.getD w.toNat 0 ≤ st.getD u 0 + 1
 mono : q.Pairwise fun a b => st.getD a.toNat 0 ≤ st.getD b.toNat 0
 top : ∀ x ∈ st, x ≤ st.getD v 0 + 1
 ge : ∀ a ∈ q, st.getD v 0 ≤ st.getD a.toNat 0
 vin : v < g.length
 v0 : 0 ≤ st.getD v 0
 part : ∀ i, i < j → i < (g.getD v []).length → 0 ≤ st.getD ((g.getD v []).getD i 0).toNat 0
theorem Bfs.mid {g : List (List Int)} {fr : List Int} {N : Nat} {c : Int} {st q : List Int} {v : Nat} (h : Bfs g fr (N + 1) c st ((v : Int) :: q)) : Mid g fr N c v 0 st q := by
 obtain ⟨h1, h2, h3⟩ := h.ok v (by simp)
 rw [Int.toNat_natCast] at h3
 obtain ⟨m1, m2⟩ := List.pairwise_cons.1 h.mono
 have hs := h.sum
 simp only [List.length_cons] at hs
 exact ⟨h.len, h.lo, h.hi, fun x hx => h.ok x (by simp [hx]), by omega, h.way, h.start, fun u hu h0 hne hq => h.shut u hu h0 (fun g => by
  rcases List.mem_cons.1 g with e | e
  ·exact hne (by omega)
  ·exact hq e), m2, fun x hx => by have := h.top v (by simp) x hx; rwa [Int.toNat_natCast] at this, fun a ha => by have := m1 a ha; rwa [Int.toNat_natCast] at this, by omega, h3, fun i hi => by omega⟩
theorem Mid.skip {g : List (List Int)} {fr : List Int} {N : Nat} {c : Int} {st q : List Int} {v j : Nat} (h : Mid g fr N c v j st q) (hn : 0 ≤ st.getD ((g.getD v []).getD j 0).toNat 0) : Mid g fr N c v (j + 1) st q := by
 refine ⟨h.len, h.lo, h.hi, h.ok, h.sum, h.way, h.start, h.shut, h.mono, h.top, h.ge, h.vin, h.v0, fun i h1 h2 => ?_⟩
 rcases Nat.lt_or_ge i j with h3 | h3
 ·exact h.part i h3 h2
 ·obtain rfl : i = j := by omega
  exact hn
theorem Mid.put {g : List (List Int)} {fr : List Int} {N : Nat} {c : Int} {st q : List Int} {v j w : Nat} (h : Mid g fr N c v j st q) (hj : j < (g.getD v []).length) (hw : (g.getD v []).getD j 0 = (w : Int)) (hwl : w < g.length) (hn : st.getD w 0 < 0) (hc : st.getD v 0 + 1 ≤ c) :
  Mid g fr N c v (j + 1) (st.set w (st.getD v 0 + 1)) (q ++ [(w : Int)]) := by
 have hl := h.len
 have hwv : w ≠ v := fun e => by subst e; have := h.v0; omega
 have hv0 := h.v0
 have keep : ∀ x : Nat, x ≠ w → (st.set w (st.getD v 0 + 1)).getD x 0 = st.getD x 0 := fun x hx => by
  rw [getD_set', if_neg (fun g => hx g.1.symm)]
 have new : (st.set w (st.getD v 0 + 1)).getD w 0 = st.getD v 0 + 1 := by rw [getD_set', if_pos ⟨rfl, by omega⟩]
 have old : ∀ x : Nat, 0 ≤ st.getD x 0 → (st.set w (st.getD v 0 + 1)).getD x 0 = st.getD x 0 := fun x hx => keep x (fun e => by subst e; omega)
 have hq : ∀ a ∈ q, (st.set w (st.getD v 0 + 1)).getD a.toNat 0 = st.getD a.toNat 0 := fun a ha => old _ (h.ok a ha).2.2
 refine ⟨by simpa using hl, fun x hx => ?_, fun x hx => ?_, fun x hx => ?_, ?_, fun x hx h0 => ?_, fun x hx => ?_, fun u hu h0 hne hnq => ?_, ?_, fun x hx => ?_, fun a ha => ?_, h.vin, by rw [keep v hwv.symm]; exact hv0, fun i h1 h2 => ?_⟩
 ·rcases List.mem_or_eq_of_mem_set hx with hx | rfl
  ·exact h.lo x hx
  ·omega
 ·rcases List.mem_or_eq_of_mem_set hx with hx | rfl
  ·exact h.hi x hx
  ·exact hc
 ·rcases List.mem_append.1 hx with hx | hx
  ·obtain ⟨h1, h2, h3⟩ := h.ok x hx
   exact ⟨h1, h2, by rw [hq x hx]; exact h3⟩
  ·rw [List.mem_singleton.1 hx, Int.toNat_natCast, new]
   exact ⟨by omega, by omega, by omega⟩
 ·have h1 := negs_set (l := st) (i := w) (x := st.getD v 0 + 1) (by omega) hn (by omega)
  have h2 := h.sum
  simp only [List.length_append, List.length_singleton]; omega
 ·by_cases e : x = w
  ·subst e
   rw [new, show (st.getD v 0 + 1).toNat = (st.getD v 0).toNat + 1 by omega]
   exact ⟨v, h.vin, h.way v h.vin hv0, by rw [← hw]; exact getD_mem hj 0⟩
  ·rw [keep x e] at h0 ⊢
   exact h.way x hx h0
 ·have := h.start x hx
  rw [old _ (by omega)]; exact this
 ·have hu2 : u ≠ w := fun e => hnq (by rw [e]; simp)
  rw [keep u hu2] at h0 ⊢
  intro x hx
  obtain ⟨h1, h2⟩ := h.shut u hu h0 hne (fun g => hnq (by simp [g])) x hx
  rw [old _ h1]
  exact ⟨h1, h2⟩
 ·refine List.pairwise_append.2 ⟨h.mono.imp_of_mem (fun {a b} ha hb hab => by rw [hq a ha, hq b hb]; exact hab), by simp, fun a ha b hb => ?_⟩
  rw [List.mem_singleton.1 hb, Int.toNat_natCast, new, hq a ha]
  have h1 := (h.ok a ha).2
  exact h.top _ (getD_mem (by omega) 0)
 ·rw [keep v hwv.symm]
  rcases List.mem_or_eq_of_mem_set hx with hx | rfl
  ·exact h.top x hx
  ·omega
 ·rw [keep v hwv.symm]
  rcases List.mem_append.1 ha with ha | ha
  ·rw [hq a ha]; exact h.ge a ha
  ·rw [List.mem_singleton.1 ha, Int.toNat_natCast, new]; omega
 ·rcases Nat.lt_or_ge i j with h3 | h3
  ·have := h.part i h3 h2
   rw [old _ this]; exact this
  ·obtain rfl : i = j := by omega
   rw [hw, Int.toNat_natCast, new]; omega
theorem Mid.done {g : List (List Int)} {fr : List Int} {N : Nat} {c : Int} {st q : List Int} {v : Nat} (ha : Arr g) (h : Mid g fr N c v (g.getD v []).length st q) : Bfs g fr N c st q := by
 refine ⟨h.len, h.lo, h.hi, h.ok, h.sum, h.way, h.start, fun u hu h0 hq w hw => ?_, h.mono, fun a hm x hx => ?_⟩
 ·by_cases e : u = v
  ·subst e
   obtain ⟨i, hi, e2⟩ := List.getElem_of_mem hw
   have h1 := h.part i hi hi
   rw [getD_eq hi, e2] at h1
   have h2 := (ha _ (getD_mem hu [])).2 w hw
   have h3 := h.len
   exact ⟨h1, h.top _ (getD_mem (by omega) 0)⟩
  ·exact h.shut u hu h0 e hq w hw
 ·have h1 := h.top x hx
  have h2 := h.ge a hm
  omega
def dists : Nat → List Int → List Int
 | _, [] => []
 | j, x :: t => if 0 ≤ x then (j : Int) :: dists (j + 1) t else dists (j + 1) t
theorem mem_dists (x : Int) : ∀ (l : List Int) (j : Nat), x ∈ dists j l ↔ ∃ i : Nat, x = ((j + i : Nat) : Int) ∧ i < l.length ∧ 0 ≤ l.getD i 0
 | [], j => by simp [dists]
 | y :: t, j => by
  have ih := mem_dists x t (j + 1)
  have split : (∃ i : Nat, x = ((j + i : Nat) : Int) ∧ i < (y :: t).length ∧ 0 ≤ (y :: t).getD i 0) ↔ (x = (j : Int) ∧ 0 ≤ y) ∨ ∃ i : Nat, x = ((j + 1 + i : Nat) : Int) ∧ i < t.length ∧ 0 ≤ t.getD i 0 := by
   constructor
   ·rintro ⟨i, h1, h2, h3⟩
    cases i with
    | zero => exact .inl ⟨by simpa using h1, by simpa using h3⟩
    | succ i => exact .inr ⟨i, by rw [h1]; congr 1; omega, by simpa using h2, by simpa using h3⟩
   ·rintro (⟨h1, h2⟩ | ⟨i, h1, h2, h3⟩)
    ·exact ⟨0, by simpa using h1, by simp, by simpa using h2⟩
    ·exact ⟨i + 1, by rw [h1]; congr 1; omega, by simpa using h2, by simpa using h3⟩
  rw [split, ← ih, show dists j (y :: t) = if 0 ≤ y then (j : Int) :: dists (j + 1) t else dists (j + 1) t from rfl]
  by_cases h : 0 ≤ y
  ·rw [if_pos h, List.mem_cons]; exact ⟨fun g => g.imp (fun g => ⟨g, h⟩) id, fun g => g.imp (fun g => g.1) id⟩
  ·rw [if_neg h]; exact ⟨fun g => .inr g, fun g => g.elim (fun g => absurd g.2 h) id⟩
theorem dists_rise : ∀ (l : List Int) (j : Nat), (dists j l).Pairwise (· < ·)
 | [], j => by simp [dists]
 | y :: t, j => by
  have ih := dists_rise t (j + 1)
  rw [show dists j (y :: t) = if 0 ≤ y then (j : Int) :: dists (j + 1) t else dists (j + 1) t from rfl]
  split
  ·refine List.pairwise_cons.2 ⟨fun a ha => ?_, ih⟩
   obtain ⟨i, rfl, _⟩ := (mem_dists a t (j + 1)).1 ha
   omega
  ·exact ih
theorem Dist.reach {g : List (List Int)} {fr : List Int} {st : List Int} (ha : Arr g) (hf : ∀ v ∈ fr, 0 ≤ v ∧ v < (g.length : Int)) (h : Dist g fr st) (x : Int) : x ∈ dists 0 st ↔ Reach g fr x := by
 rw [mem_dists]
 have hl := h.len
 constructor
 ·rintro ⟨i, rfl, h1, h2⟩
  exact ⟨_, by rw [Nat.zero_add]; exact h.way i (by omega) h2⟩
 ·rintro ⟨n, hn⟩
  obtain ⟨h1, h2⟩ := Walk.in_ ha hf hn
  obtain ⟨i, rfl⟩ := Int.eq_ofNat_of_zero_le h1
  exact ⟨i, by rw [Nat.zero_add], by omega, (h.least n i (by omega) hn).1⟩
noncomputable def grS (w v : Nat) (co : List S95) : List (List Int) := (List.range (2 ^ (w * v))).map (nextS w v co)
theorem grS_length (w v : Nat) (co : List S95) : (grS w v co).length = 2 ^ (w * v) := by simp [grS]
theorem grS_at {w v : Nat} {co : List S95} {u : Nat} (hu : u < 2 ^ (w * v)) : (grS w v co).getD u [] = nextS w v co u := by
 rw [getD_eq (by rw [grS_length]; exact hu)]; simp [grS]
theorem SP.arr {w v : Nat} {st : List S79} {co : List S95} (h : SP w v st co) : Arr (grS w v co) := fun x hx => by
 obtain ⟨u, hu, rfl⟩ := List.getElem_of_mem hx
 rw [grS_length] at hu
 have hp := h.pow
 have e : (grS w v co)[u]'(by rw [grS_length]; exact hu) = nextS w v co u := by simp [grS]
 rw [e, grS_length]
 have hr := nextS_rg w v co u
 exact ⟨by have := hr.len; omega, hr.2⟩
theorem SP.graph_l0 {w v : Nat} {st : List S79} {co : List S95} (h : SP w v st co) (d : Nat) : ∀ (j : Nat) (o : List (List Int)), j + d = 2 ^ (w * v) → o.length ≤ j →
  Ev (fun k => impl_Program_graph.l0 k o ((2 ^ (w * v) : Nat) : Int) (j : Int) (w : Int) (v : Int) st co) (o ++ (List.range' j d).map (nextS w v co)) := by
 have hp := h.pow
 induction d with
 | zero => exact fun j o hj hl => ev_eq (Ev.step (f := fun _ => some o) (fun k => by simp only [impl_Program_graph.l0]; rw [if_neg (by omega)]) (Ev.now _)) (by simp)
 | succ d ih =>
  intro j o hj hl
  refine Ev.step (fun k => by simp only [impl_Program_graph.l0]; rw [if_pos (by omega), wsucc (by omega)]) ?_
  refine Ev.bind (h.nextOf (by omega)) (ev_pos (by omega) ?_)
  exact ev_eq (ih (j + 1) (o ++ [nextS w v co j]) (by omega) (by simp; omega)) (by rw [List.range'_succ]; simp)
theorem SP.graph {w v : Nat} {st : List S79} {co : List S95} (h : SP w v st co) : Ev (fun k => impl_Program_graph.f k (w : Int) (v : Int) st co) (grS w v co) := by
 refine Ev.bind (ev_const h.states) (ev_eq (h.graph_l0 _ 0 [] (Nat.zero_add _) (Nat.le_refl _)) ?_)
 rw [List.nil_append, ← List.range_eq_range']; rfl
theorem repeatNeg_is (n : Nat) (h : n ≤ 1048576) : slices_Repeat_int_int.f [(-1)] (n : Int) = some (List.replicate n (-1)) := by
 rw [slices_Repeat_int_int.f, if_pos ⟨rfl, by omega, by omega⟩]; rfl
theorem steps_l2 {g : List (List Int)} (hg : g.length ≤ 1048576) (ha : Arr g) (fr : List Int) {v : Nat} (hv : v < g.length) (N : Nat) (hN : N ≤ 4194304) (c : Int) (hc : c ≤ 4194304)
  (M : ∀ st q, Bfs g fr N (c + 1) st q → ∃ r, Dist g fr r ∧ Ev (fun k => impl_stepsFrom.l1 k g st q) r) (d : Nat) : ∀ (j : Nat) (st q : List Int), j + d = (g.getD v []).length → Mid g fr N (c + 1) v j st q → st.getD v 0 ≤ c →
  ∃ r, Dist g fr r ∧ Ev (fun k => impl_stepsFrom.l2 k g st ((v : Int) :: q) (g.getD v []) ((g.getD v []).length : Int) (j : Int)) r := by
 obtain ⟨hwl, hw⟩ := ha _ (getD_mem hv [])
 induction d with
 | zero =>
  intro j st q hj hm h1
  have hs := hm.sum
  obtain rfl : j = (g.getD v []).length := by omega
  obtain ⟨r, hr, e⟩ := M st q (hm.done ha)
  exact ⟨r, hr, Ev.step (fun k => by simp only [impl_stepsFrom.l2]; rw [if_neg (by omega), if_pos (by simp only [List.length_cons]; omega)]; rfl) e⟩
 | succ d ih =>
  intro j st q hj hm h1
  have hl := hm.len
  have h0 := hm.v0
  have hb := hw _ (getD_mem (l := g.getD v []) (j := j) (by omega) 0)
  have hs := hm.sum
  obtain ⟨u, hu⟩ := Int.eq_ofNat_of_zero_le hb.1
  have hug : u < g.length := by omega
  have eh : rd ((v : Int) :: q) 0 = v := by simp [rd]
  by_cases hn : st.getD u 0 < 0
  ·have hne : u ≠ v := fun e => by subst e; omega
   obtain ⟨r, hr, e1⟩ := ih (j + 1) _ _ (by omega) (hm.put (by omega) hu hug hn (by omega)) (by rw [getD_set', if_neg (fun h => hne h.1)]; exact h1)
   have ew : wrap64 (st.getD v 0 + 1) = st.getD v 0 + 1 := wid (by omega) (by omega)
   refine ⟨r, hr, Ev.step (fun k => ?_) e1⟩
   simp only [impl_stepsFrom.l2]
   rw [if_pos (by omega), if_pos (by omega), if_pos (by omega), rd_nat, hu, if_pos (by omega), if_pos (by omega), rd_nat, if_pos hn, if_pos (by simp only [List.length_cons]; omega), eh, if_pos (by omega), if_pos (by omega), if_pos (by simp only [List.length_cons]; omega), rd_nat, ew, wsucc (by omega), Int.toNat_natCast]
   rfl
  ·obtain ⟨r, hr, e1⟩ := ih (j + 1) st q (by omega) (hm.skip (by rw [hu, Int.toNat_natCast]; omega)) h1
   refine ⟨r, hr, Ev.step (fun k => ?_) e1⟩
   simp only [impl_stepsFrom.l2]
   rw [if_pos (by omega), if_pos (by omega), if_pos (by omega), rd_nat, hu, if_pos (by omega), if_pos (by omega), rd_nat, if_neg hn, wsucc (by omega)]
theorem steps_l1 {g : List (List Int)} (hg : g.length ≤ 1048576) (ha : Arr g) (fr : List Int) : ∀ (N : Nat) (st q : List Int) (c : Int), 0 ≤ c → c + N ≤ 4194304 → Bfs g fr N c st q → ∃ r, Dist g fr r ∧ Ev (fun k => impl_stepsFrom.l1 k g st q) r
 | N, st, [], c, _, hcc, hb => ⟨st, hb.done (by omega), Ev.step (f := fun _ => some st) (fun k => by simp only [impl_stepsFrom.l1]; rw [if_neg (by simp)]) (Ev.now _)⟩
 | 0, st, v :: q, c, _, _, hb => by have := hb.sum; simp only [List.length_cons] at this; omega
 | N + 1, st, v :: q, c, h0, hc, hb => by
  obtain ⟨h1, h2, h3⟩ := hb.ok v (by simp)
  have hl := hb.len
  obtain ⟨u, rfl⟩ := Int.eq_ofNat_of_zero_le h1
  rw [Int.toNat_natCast] at h3
  have hug : u < g.length := by omega
  have eh : rd ((u : Int) :: q) 0 = u := by simp [rd]
  have er : rd_L12 g (u : Int) = g.getD u [] := by simp [rd_L12]
  have hlv : st.getD u 0 ≤ c := hb.hi _ (getD_mem (by omega) 0)
  have hm : Mid g fr N (c + 1) u 0 st q := { hb.mid with hi := fun x hx => by have := hb.hi x hx; omega }
  obtain ⟨r, hr, e1⟩ := steps_l2 hg ha fr hug N (by omega) c (by omega) (fun st' q' hb' => steps_l1 hg ha fr N st' q' (c + 1) (by omega) (by omega) hb') (g.getD u []).length 0 st q (by omega) hm hlv
  refine ⟨r, hr, Ev.step (fun k => ?_) e1⟩
  simp only [impl_stepsFrom.l1]
  rw [if_pos (by simp only [List.length_cons]; omega), if_pos (by simp only [List.length_cons]; omega), eh, if_pos (by omega), if_pos (by omega), er]
  rfl
theorem steps_l0 {g : List (List Int)} (hg : g.length ≤ 1048576) (ha : Arr g) {fr : List Int} (hfr : ∀ v ∈ fr, 0 ≤ v ∧ v < (g.length : Int)) (hfl : fr.length ≤ 1048576) (d : Nat) : ∀ (j : Nat) (st : List Int), j + d = fr.length → st.length = g.length → (∀ x ∈ st, x ≤ 0) → (∀ x ∈ st, -1 ≤ x) → (∀ i, i < j → st.getD (fr.getD i 0).toNat 0 = 0) → (∀ v : Nat, v < g.length → 0 ≤ st.getD v 0 → (v : Int) ∈ fr) →
  ∃ r, Dist g fr r ∧ Ev (fun k => impl_stepsFrom.l0 k g st fr fr (fr.length : Int) (j : Int)) r := by
 induction d with
 | zero =>
  intro j st hj hl h1 h2 h3 h4
  have z : ∀ v ∈ fr, st.getD v.toNat 0 = 0 := fun v hv => by
   obtain ⟨i, hi, rfl⟩ := List.getElem_of_mem hv
   have := h3 i (by omega)
   rwa [getD_eq hi] at this
  have hb : Bfs g fr (g.length + fr.length) 0 st fr := by
   refine ⟨hl, h2, h1, fun v hv => ⟨(hfr v hv).1, (hfr v hv).2, by rw [z v hv]; omega⟩, ?_, fun v hv h0 => ?_, z, fun v hv h0 hq => absurd (h4 v hv h0) hq, ?_, fun a ha' x hx => ?_⟩
   ·have := List.countP_le_length (p := fun x : Int => decide (x < 0)) (l := st); unfold negs; omega
   ·have := h1 _ (getD_mem (l := st) (j := v) (by omega) 0)
    rw [show (st.getD v 0).toNat = 0 by omega]
    exact h4 v hv h0
   ·exact List.Pairwise.imp_of_mem (R := fun _ _ => True) (fun {a b} ha' hb' _ => by rw [z a ha', z b hb']; omega) (List.pairwise_of_forall (fun _ _ => trivial))
   ·rw [z a ha']; have := h1 x hx; omega
  obtain ⟨r, hr, e⟩ := steps_l1 hg ha fr (g.length + fr.length) st fr 0 (by omega) (by omega) hb
  exact ⟨r, hr, Ev.step (fun k => by simp only [impl_stepsFrom.l0]; rw [if_neg (by omega)]) e⟩
 | succ d ih =>
  intro j st hj hl h1 h2 h3 h4
  have hmem := getD_mem (l := fr) (j := j) (by omega) 0
  have hm := hfr _ hmem
  obtain ⟨r, hr, e⟩ := ih (j + 1) (st.set (fr.getD j 0).toNat 0) (by omega) (by simpa using hl)
   (fun x hx => by
    rcases List.mem_or_eq_of_mem_set hx with hx | rfl
    ·exact h1 x hx
    ·omega)
   (fun x hx => by
    rcases List.mem_or_eq_of_mem_set hx with hx | rfl
    ·exact h2 x hx
    ·omega)
   (fun i hi => by
    rw [getD_set']
    split
    ·rfl
    ·rename_i h
     rcases Nat.lt_or_ge i j with h5 | h5
     ·exact h3 i h5
     ·obtain rfl : i = j := by omega
      exact absurd ⟨rfl, by omega⟩ h)
   (fun v hv h0 => by
    rw [getD_set'] at h0
    by_cases h : (fr.getD j 0).toNat = v ∧ v < st.length
    ·rw [show (v : Int) = fr.getD j 0 by omega]; exact hmem
    ·rw [if_neg h] at h0; exact h4 v hv h0)
  exact ⟨r, hr, Ev.step (fun k => by simp only [impl_stepsFrom.l0]; rw [if_pos (by omega), if_pos (by omega), if_pos (by omega), rd_nat, if_pos hm.1, if_pos (by omega), wsucc (by omega)]) e⟩
theorem steps_dist {g : List (List Int)} (hg : g.length ≤ 1048576) (ha : Arr g) {fr : List Int} (hfr : ∀ v ∈ fr, 0 ≤ v ∧ v < (g.length : Int)) (hfl : fr.length ≤ 1048576) : ∃ r, Dist g fr r ∧ Ev (fun k => impl_stepsFrom.f k g fr) r := by
 have neg1 : ∀ v : Nat, v < g.length → (List.replicate g.length (-1 : Int)).getD v 0 = -1 := fun v hv => by rw [getD_eq (by simpa using hv)]; simp
 obtain ⟨r, hr, e⟩ := steps_l0 hg ha hfr hfl fr.length 0 (List.replicate g.length (-1)) (by omega) (by simp) (fun x hx => by rw [List.eq_of_mem_replicate hx]; omega) (fun x hx => by rw [List.eq_of_mem_replicate hx]; omega) (fun i hi => by omega) (fun v hv h0 => by rw [neg1 v hv] at h0; omega)
 exact ⟨r, hr, Ev.bind (ev_const (repeatNeg_is g.length hg)) (Ev.bind (ev_const (cloneInt_eq fr (by omega))) e)⟩
theorem reached_l0 (st : List Int) (hs : st.length ≤ 1048576) (d : Nat) : ∀ (j : Nat) (out : List Int), j + d = st.length → out.length ≤ j → Ev (fun k => impl_reachedFrom.l0 k out st (st.length : Int) (j : Int)) (out ++ dists j (st.drop j)) := by
 induction d with
 | zero =>
  intro j out hj ho
  refine ev_eq (Ev.step (f := fun _ => some out) (fun k => by simp only [impl_reachedFrom.l0]; rw [if_neg (by omega)]) (Ev.now _)) ?_
  rw [List.drop_of_length_le (by omega)]; simp [dists]
 | succ d ih =>
  intro j out hj ho
  rw [drop_cons (by omega) 0, dists]
  by_cases h : 0 ≤ st.getD j 0
  ·rw [if_pos h]
   refine Ev.step (fun k => by simp only [impl_reachedFrom.l0]; rw [if_pos (by omega), if_pos (by omega), if_pos (by omega), rd_nat, if_pos h, if_pos (by omega), wsucc (by omega)]) ?_
   exact ev_eq (ih (j + 1) (out ++ [(j : Int)]) (by omega) (by simp; omega)) (by simp)
  ·rw [if_neg h]
   exact Ev.step (fun k => by simp only [impl_reachedFrom.l0]; rw [if_pos (by omega), if_pos (by omega), if_pos (by omega), rd_nat, if_neg h, wsucc (by omega)]) (ih (j + 1) out (by omega) (by omega))
theorem reached_is {g : List (List Int)} (hg : g.length ≤ 1048576) (ha : Arr g) {fr : List Int} (hfr : ∀ v ∈ fr, 0 ≤ v ∧ v < (g.length : Int)) (hfl : fr.length ≤ 1048576) : ∃ r : List Int, r.Pairwise (· < ·) ∧ (∀ x, x ∈ r ↔ Reach g fr x) ∧ Ev (fun k => impl_reachedFrom.f k g fr) r := by
 obtain ⟨st, hs, e⟩ := steps_dist hg ha hfr hfl
 have hl := hs.len
 refine ⟨dists 0 st, dists_rise st 0, hs.reach ha hfr, Ev.bind e ?_⟩
 exact ev_eq (reached_l0 st (by omega) st.length 0 [] (by omega) (by simp)) (by simp)
theorem turnd_l1 {g : List (List Int)} (hg : g.length ≤ 1048576) (ha : Arr g) {c : Nat} (hc : ∀ x ∈ g, x.length ≤ c) (hcb : g.length * c ≤ 1048576) {j : Nat} (hj : j < g.length) (d : Nat) : ∀ (i : Nat) (T : List (List Int)), i + d = (g.getD j []).length → T.length = g.length → (∀ z ∈ T, z.length ≤ j * c + i) →
  ∃ T' : List (List Int), T'.length = g.length ∧ (∀ z ∈ T', z.length ≤ (j + 1) * c) ∧ (∀ (u : Nat) (x : Int), x ∈ T'.getD u [] ↔ x ∈ T.getD u [] ∨ (x = (j : Int) ∧ u < g.length ∧ (u : Int) ∈ (g.getD j []).drop i)) ∧
   ∀ r, Ev (fun k => impl_turned.l0 k T' g (g.length : Int) ((j + 1 : Nat) : Int)) r → Ev (fun k => impl_turned.l1 k T (j : Int) g (g.length : Int) (j : Int) (g.getD j []) ((g.getD j []).length : Int) (i : Int)) r := by
 obtain ⟨hwl, hw⟩ := ha _ (getD_mem hj [])
 have hcl := hc _ (getD_mem hj [])
 have hj2 : (j + 1) * c ≤ g.length * c := Nat.mul_le_mul_right _ (by omega)
 rw [Nat.add_mul, Nat.one_mul] at hj2 ⊢
 induction d with
 | zero => exact fun i T hi hT hz => ⟨T, hT, fun z h => by have := hz z h; omega, fun u x => by rw [List.drop_of_length_le (by omega)]; simp, fun r hr => Ev.step (fun k => by simp only [impl_turned.l1]; rw [if_neg (by omega), wsucc (by omega)]) hr⟩
 | succ d ih =>
  intro i T hi hT hz
  obtain ⟨h0, h1⟩ := hw _ (getD_mem (l := g.getD j []) (j := i) (by omega) 0)
  obtain ⟨u, hu⟩ := Int.eq_ofNat_of_zero_le h0
  have hug : u < g.length := by omega
  have hrow : (T.getD u []).length ≤ j * c + i := hz _ (getD_mem (by omega) [])
  have er : rd_L12 T (u : Int) = T.getD u [] := by simp [rd_L12]
  obtain ⟨T', t1, t2, t3, t4⟩ := ih (i + 1) (T.set u (T.getD u [] ++ [(j : Int)])) (by omega) (by simpa using hT) (fun z h => by
   rcases List.mem_or_eq_of_mem_set h with h | rfl
   ·have := hz z h; omega
   ·simp only [List.length_append, List.length_singleton]; omega)
  refine ⟨T', t1, t2, fun y x => ?_, fun r hr => Ev.step (fun k => ?_) (t4 r hr)⟩
  ·rw [t3, drop_cons (show i < (g.getD j []).length by omega) 0, hu]
   have e : (T.set u (T.getD u [] ++ [(j : Int)])).getD y [] = if u = y ∧ y < T.length then T.getD u [] ++ [(j : Int)] else T.getD y [] := by
    simp only [List.getD_eq_getElem?_getD, List.getElem?_set]
    by_cases h : u = y
    ·subst h
     rw [if_pos rfl, if_pos (by omega), if_pos ⟨rfl, by omega⟩]; rfl
    ·rw [if_neg h, if_neg (fun g => h g.1)]
   rw [e]
   by_cases h : u = y ∧ y < T.length
   ·rw [if_pos h]
    obtain ⟨rfl, h⟩ := h
    simp only [List.mem_append, List.mem_cons, List.not_mem_nil, or_false]
    constructor
    ·rintro ((g1 | g1) | ⟨g1, g2, g3⟩)
     ·exact .inl g1
     ·exact .inr ⟨g1, hug, .inl trivial⟩
     ·exact .inr ⟨g1, g2, .inr g3⟩
    ·rintro (g1 | ⟨g1, g2, g3⟩)
     ·exact .inl (.inl g1)
     ·exact .inl (.inr g1)
   ·rw [if_neg h]
    constructor
    ·rintro (g1 | ⟨g1, g2, g3⟩)
     ·exact .inl g1
     ·exact .inr ⟨g1, g2, List.mem_cons_of_mem _ g3⟩
    ·rintro (g1 | ⟨g1, g2, g3⟩)
     ·exact .inl g1
     ·rcases List.mem_cons.1 g3 with g3 | g3
      ·exact absurd ⟨by omega, by omega⟩ h
      ·exact .inr ⟨g1, g2, g3⟩
  ·simp only [impl_turned.l1]
   rw [if_pos (by omega), if_pos (by omega), if_pos (by omega), rd_nat, hu, if_pos (by omega), if_pos (by omega), er, if_pos (by omega), wsucc (by omega), Int.toNat_natCast]
theorem turnd_l0 {g : List (List Int)} (hg : g.length ≤ 1048576) (ha : Arr g) {c : Nat} (hc : ∀ x ∈ g, x.length ≤ c) (hcb : g.length * c ≤ 1048576) (d : Nat) : ∀ (j : Nat) (T : List (List Int)), j + d = g.length → T.length = g.length → (∀ z ∈ T, z.length ≤ j * c) →
  ∃ T' : List (List Int), T'.length = g.length ∧ (∀ z ∈ T', z.length ≤ g.length * c) ∧ (∀ (u : Nat) (x : Int), x ∈ T'.getD u [] ↔ x ∈ T.getD u [] ∨ ∃ i : Nat, x = (i : Int) ∧ j ≤ i ∧ i < g.length ∧ u < g.length ∧ (u : Int) ∈ g.getD i []) ∧ Ev (fun k => impl_turned.l0 k T g (g.length : Int) (j : Int)) T' := by
 induction d with
 | zero => exact fun j T hj hT hz => ⟨T, hT, fun z h => by have := hz z h; rwa [show j = g.length by omega] at this, fun u x => ⟨fun h => .inl h, fun h => h.elim id (fun ⟨i, _, h1, h2, _⟩ => by omega)⟩, Ev.step (f := fun _ => some T) (fun k => by simp only [impl_turned.l0]; rw [if_neg (by omega)]) (Ev.now _)⟩
 | succ d ih =>
  intro j T hj hT hz
  have hjg : j < g.length := by omega
  have er : rd_L12 g (j : Int) = g.getD j [] := by simp [rd_L12]
  obtain ⟨T1, a1, a2, a3, a4⟩ := turnd_l1 hg ha hc hcb hjg _ 0 T (Nat.zero_add _) hT hz
  obtain ⟨T', b1, b0, b2, b3⟩ := ih (j + 1) T1 (by omega) a1 a2
  refine ⟨T', b1, b0, fun u x => ?_, Ev.step (fun k => by simp only [impl_turned.l0]; rw [if_pos (by omega), if_pos (by omega), if_pos (by omega), er]; rfl) (a4 _ b3)⟩
  rw [b2, a3, List.drop_zero]
  constructor
  ·rintro ((h | ⟨h1, h2, h3⟩) | ⟨i, h1, h2, h3, h4, h5⟩)
   ·exact .inl h
   ·exact .inr ⟨j, h1, Nat.le_refl _, hjg, h2, h3⟩
   ·exact .inr ⟨i, h1, by omega, h3, h4, h5⟩
  ·rintro (h | ⟨i, h1, h2, h3, h4, h5⟩)
   ·exact .inl (.inl h)
   ·rcases Nat.eq_or_lt_of_le h2 with e | e
    ·subst e; exact .inl (.inr ⟨h1, h4, h5⟩)
    ·exact .inr ⟨i, h1, e, h3, h4, h5⟩
theorem turnd {g : List (List Int)} (hg : g.length ≤ 1048576) (ha : Arr g) {c : Nat} (hc : ∀ x ∈ g, x.length ≤ c) (hcb : g.length * c ≤ 1048576) : ∃ T : List (List Int), T.length = g.length ∧ (∀ z ∈ T, z.length ≤ 1048576) ∧ (∀ (u : Nat) (x : Int), x ∈ T.getD u [] ↔ ∃ i : Nat, x = (i : Int) ∧ i < g.length ∧ u < g.length ∧ (u : Int) ∈ g.getD i []) ∧ Ev (fun k => impl_turned.f k g) T := by
 obtain ⟨T, t1, t0, t2, t3⟩ := turnd_l0 hg ha hc hcb g.length 0 (List.replicate g.length []) (Nat.zero_add _) (by simp) (fun z h => by rw [List.eq_of_mem_replicate h]; simp)
 refine ⟨T, t1, fun z h => by have := t0 z h; omega, fun u x => ?_, Ev.congr (fun k => by simp only [impl_turned.f]; rw [if_pos (by omega), if_pos (by omega), Int.toNat_natCast]; rfl) t3⟩
 rw [t2]
 have e : ∀ y, y ∉ (List.replicate g.length ([] : List Int)).getD u [] := fun y h => by
  rw [List.getD_eq_getElem?_getD, List.getElem?_replicate] at h
  split at h <;> simp at h
 exact ⟨fun h => h.elim (fun h => absurd h (e x)) (fun ⟨i, h1, _, h2, h3, h4⟩ => ⟨i, h1, h2, h3, h4⟩), fun ⟨i, h1, h2, h3, h4⟩ => .inr ⟨i, h1, Nat.zero_le _, h2, h3, h4⟩⟩
theorem rising_rg {l : List Int} {n : Nat} (h : Rising l 0 ((n : Int) - 1)) : Rg n l := by
 have mono : ∀ (d i : Nat), i + 1 + d < l.length → l.getD i 0 < l.getD (i + 1 + d) 0 := by
  intro d
  induction d with
  | zero => exact fun i hi => by have := (h (i + 1) hi).2 (by omega); rwa [Nat.add_sub_cancel] at this
  | succ d ih =>
   intro i hi
   have h1 := ih i (by omega)
   have h2 := (h (i + 1 + d + 1) (by omega)).2 (by omega)
   rw [Nat.add_sub_cancel] at h2
   have : i + 1 + (d + 1) = i + 1 + d + 1 := by omega
   rw [this]; omega
 refine ⟨List.pairwise_iff_getElem.2 (fun i j hi hj hij => ?_), fun x hx => ?_⟩
 ·have := mono (j - i - 1) i (by omega)
  rw [show i + 1 + (j - i - 1) = j by omega, getD_eq hi, getD_eq hj] at this
  exact this
 ·obtain ⟨i, hi, rfl⟩ := List.getElem_of_mem hx
  have := (h i hi).1
  rw [getD_eq hi] at this
  omega
section
variable {w v : Nat} {st : List S79} {co : List S95} (h : SP w v st co) {B : Int → Prop} (hB : ∀ (i : Nat), i < 2 ^ (w * v) → (∃ x ∈ nextS w v co i, B x) → B i)
include h hB
theorem SP.back_l1 (d : Nat) : ∀ (j : Nat) (o : List Int) (m : Bool), j + d = 2 ^ (w * v) → Rg (2 ^ (w * v)) o → (∀ x ∈ o, B x) →
  ∃ o' m', Rg (2 ^ (w * v)) o' ∧ (∀ x ∈ o, x ∈ o') ∧ (∀ x ∈ o', B x) ∧ (m' = false → o' = o ∧ ∀ i, j ≤ i → i < 2 ^ (w * v) → (i : Int) ∉ o → ¬ ∃ x ∈ nextS w v co i, x ∈ o) ∧ (m' = true → m = true ∨ o.length < o'.length) ∧ (m = true → m' = true) ∧
   ∀ r, Ev (fun k => spec_l8Back.l0 k o' m' (w : Int) (v : Int) st co) r → Ev (fun k => spec_l8Back.l1 k o m (j : Int) (w : Int) (v : Int) st co) r := by
 have hp := h.pow
 have hM := h.many
 induction d with
 | zero =>
  intro j o m hj ho hb
  exact ⟨o, m, ho, fun _ g => g, hb, fun _ => ⟨rfl, fun i h1 h2 => by omega⟩, fun g => .inl g, id, fun r hr => Ev.step (fun k => by simp only [spec_l8Back.l1]; rw [hM, Option.bind_some, if_neg (by omega)]) hr⟩
 | succ d ih =>
  intro j o m hj ho hb
  have hjn : j < 2 ^ (w * v) := by omega
  have hl := ho.len
  have hnl := (nextS_rg w v co j).len
  have st' : ∀ r, Ev (fun k => (spec_l1Has.f k o (j : Int)).bind fun t785 => if t785 = true then spec_l8Back.l1 k o m ((j + 1 : Nat) : Int) (w : Int) (v : Int) st co else (spec_l8Next.f k (w : Int) (v : Int) st co (j : Int)).bind fun t786 => (spec_l7Meet.f k t786 o).bind fun t789 => if t789 = true then (spec_l1Put.f k o (j : Int)).bind fun t790 => spec_l8Back.l1 k t790 true ((j + 1 : Nat) : Int) (w : Int) (v : Int) st co else spec_l8Back.l1 k o m ((j + 1 : Nat) : Int) (w : Int) (v : Int) st co) r → Ev (fun k => spec_l8Back.l1 k o m (j : Int) (w : Int) (v : Int) st co) r := fun r hr =>
   Ev.step (fun k => by simp only [spec_l8Back.l1]; rw [hM, Option.bind_some, if_pos (by omega), wsucc (by omega)]) hr
  have hh := l1Has_tells o (j : Int) (by omega)
  by_cases hin : (j : Int) ∈ o
  ·obtain ⟨o', m', a1, a2, a3, a4, a5, a6, a7⟩ := ih (j + 1) o m (by omega) ho hb
   refine ⟨o', m', a1, a2, a3, fun g => ⟨(a4 g).1, fun i h1 h2 h3 => ?_⟩, a5, a6, fun r hr => st' r (Ev.bind (tells_ev hh hin) (ev_pos rfl (a7 r hr)))⟩
   rcases Nat.eq_or_lt_of_le h1 with e | e
   ·subst e; exact absurd hin h3
   ·exact (a4 g).2 i e h2 h3
  ·have hm := l7Meet_tells (nextS w v co j) o (by omega) (by omega)
   by_cases hmt : ∃ x ∈ nextS w v co j, x ∈ o
   ·obtain ⟨p, p1, p2, p3⟩ := ho.put (by omega) (n := (j : Int)) (by omega) (by omega)
    obtain ⟨x0, x1, x2⟩ := hmt
    obtain ⟨o', m', a1, a2, a3, a4, a5, a6, a7⟩ := ih (j + 1) p true (by omega) p1 (fun x hx => by
     rcases (p2 x).1 hx with rfl | hx
     ·exact hB j hjn ⟨x0, x1, hb x0 x2⟩
     ·exact hb x hx)
    have m1 := a6 rfl
    subst m1
    have hlen : o.length < o'.length := by
     obtain ⟨s1, s2⟩ := rise_sub ho.1 a1.1 (fun x hx => a2 x ((p2 x).2 (.inr hx)))
     rcases Nat.eq_or_lt_of_le s1 with e | e
     ·exact absurd (by rw [s2 e]; exact a2 _ ((p2 _).2 (.inl rfl))) hin
     ·exact e
    exact ⟨o', true, a1, fun x hx => a2 x ((p2 x).2 (.inr hx)), a3, fun g => (Bool.false_ne_true g.symm).elim, fun _ => .inr hlen, fun _ => rfl, fun r hr => st' r (Ev.bind (tells_ev_not hh hin) (ev_neg (by simp) (Ev.bind (h.l8Next hjn) (Ev.bind (tells_ev hm ⟨x0, x1, x2⟩) (ev_pos rfl (Ev.bind p3 (a7 r hr)))))))⟩
   ·obtain ⟨o', m', a1, a2, a3, a4, a5, a6, a7⟩ := ih (j + 1) o m (by omega) ho hb
    refine ⟨o', m', a1, a2, a3, fun g => ⟨(a4 g).1, fun i h1 h2 h3 => ?_⟩, a5, a6, fun r hr => st' r (Ev.bind (tells_ev_not hh hin) (ev_neg (by simp) (Ev.bind (h.l8Next hjn) (Ev.bind (tells_ev_not hm hmt) (ev_neg (by simp) (a7 r hr))))))⟩
    rcases Nat.eq_or_lt_of_le h1 with e | e
    ·subst e; exact hmt
    ·exact (a4 g).2 i e h2 h3
theorem SP.back_l0 (d : Nat) : ∀ (o : List Int), 2 ^ (w * v) ≤ o.length + d → Rg (2 ^ (w * v)) o → (∀ x ∈ o, B x) →
  ∃ r, Rg (2 ^ (w * v)) r ∧ (∀ x ∈ o, x ∈ r) ∧ (∀ x ∈ r, B x) ∧ (∀ i, i < 2 ^ (w * v) → (∃ x ∈ nextS w v co i, x ∈ r) → (i : Int) ∈ r) ∧ Ev (fun k => spec_l8Back.l0 k o true (w : Int) (v : Int) st co) r := by
 induction d with
 | zero =>
  intro o hd ho hb
  obtain ⟨o', m', a1, a2, a3, a4, a5, _, a7⟩ := SP.back_l1 h hB _ 0 o false (Nat.zero_add _) ho hb
  have hl := a1.len
  have : m' = false := by
   cases m' with
   | false => rfl
   | true =>
    rcases a5 rfl with g | g
    ·cases g
    ·omega
  subst this
  obtain ⟨e, c⟩ := a4 rfl
  subst e
  refine ⟨o', ho, fun _ g => g, hb, fun i h1 h2 => Classical.byContradiction (fun g => c i (Nat.zero_le _) h1 g h2), Ev.step (fun k => by simp only [spec_l8Back.l0, if_true]; rfl) (a7 _ ?_)⟩
  exact Ev.step (f := fun _ => some o') (fun k => by simp only [spec_l8Back.l0]; rw [if_neg (by simp)]) (Ev.now _)
 | succ d ih =>
  intro o hd ho hb
  obtain ⟨o', m', a1, a2, a3, a4, a5, _, a7⟩ := SP.back_l1 h hB _ 0 o false (Nat.zero_add _) ho hb
  cases m' with
  | false =>
   obtain ⟨e, c⟩ := a4 rfl
   subst e
   refine ⟨o', ho, fun _ g => g, hb, fun i h1 h2 => Classical.byContradiction (fun g => c i (Nat.zero_le _) h1 g h2), Ev.step (fun k => by simp only [spec_l8Back.l0, if_true]; rfl) (a7 _ ?_)⟩
   exact Ev.step (f := fun _ => some o') (fun k => by simp only [spec_l8Back.l0]; rw [if_neg (by simp)]) (Ev.now _)
  | true =>
   have g : o.length < o'.length := (a5 rfl).resolve_left (fun g => by cases g)
   obtain ⟨r, r1, r2, r3, r4, r5⟩ := ih o' (by omega) a1 a3
   exact ⟨r, r1, fun x hx => r2 x (a2 x hx), r3, r4, Ev.step (fun k => by simp only [spec_l8Back.l0, if_true]; rfl) (a7 _ r5)⟩
end
theorem BackFrom_both (wi va : Int) (st : List S79) (co : List S95) (so : List Int) (hsl : so.length ≤ 1048576) (hst : Wd st) (hco : ∀ c ∈ co, Wd c.f0 ∧ ∀ x ∈ c.f1, Wd x.f1) (hcl : ∀ c ∈ co, c.f1.length ≤ 9223372036854775807) :
  ∃ r : List Int × Bool, r.1.length ≤ 32 ∧ Ev (fun k => spec_BackFrom.f k wi va st co so) r ∧ Ev (fun k => impl_BackFrom.f k wi va st co so) r := by
 have n2 : Ev (fun k => impl_BackFrom.j0 k so true wi va st co) ([], false) := Ev.step (f := fun _ => some ([], false)) (fun k => by simp only [impl_BackFrom.j0, if_true]) (Ev.now _)
 have g1 := l7Small_tells wi va st co hst hco
 have g2 := isSmall_tells wi va st co hcl
 by_cases hsm : SmallP wi va st co
 ·have g3 := tells_ev g1 hsm
  have g4 := tells_ev g2 hsm
  obtain ⟨w, v, rfl, rfl, hS⟩ := SP.of hsm hst hco
  have hp := hS.pow
  have hpp : 0 < 2 ^ (w * v) := Nat.two_pow_pos _
  have e3 : wrap64 (((2 ^ (w * v) : Nat) : Int) - 1) = ((2 ^ (w * v) : Nat) : Int) - 1 := wid (by omega) (by omega)
  have t1 := l1Rising_tells so 0 (((2 ^ (w * v) : Nat) : Int) - 1) (by omega)
  have t2 := isIncreasing_tells so ((2 ^ (w * v) : Nat) : Int) (by omega)
  have s0 : ∀ r, Ev (fun k => (spec_l1Rising.f k so 0 (((2 ^ (w * v) : Nat) : Int) - 1)).bind fun t796 => if t796 = true then (spec_l8Back.f k (w : Int) (v : Int) st co so).bind fun t797 => some (t797, true) else some ([], false)) r → Ev (fun k => spec_BackFrom.f k (w : Int) (v : Int) st co so) r := fun r hr => by
   refine Ev.bind g3 (ev_pos rfl (Ev.bind (ev_const hS.many) ?_))
   rw [e3]; exact hr
  by_cases hr : Rising so 0 (((2 ^ (w * v) : Nat) : Int) - 1)
  ·have hso := rising_rg hr
   have hsl2 := hso.len
   obtain ⟨T, T1, T0, T2, T3⟩ := turnd (g := grS w v co) (by rw [grS_length]; omega) hS.arr (c := 32) (fun x hx => by
    obtain ⟨u, hu, rfl⟩ := List.getElem_of_mem hx
    rw [grS_length] at hu
    have e : (grS w v co)[u]'(by rw [grS_length]; exact hu) = nextS w v co u := by simp [grS]
    rw [e]
    have := (nextS_rg w v co u).len; omega) (by rw [grS_length]; omega)
   rw [grS_length] at T1
   have Tat : ∀ (u : Nat) (x : Int), x ∈ T.getD u [] ↔ ∃ i : Nat, x = (i : Int) ∧ i < 2 ^ (w * v) ∧ u < 2 ^ (w * v) ∧ (u : Int) ∈ nextS w v co i := fun u x => by
    rw [T2, grS_length]
    exact ⟨fun ⟨i, a, b, c, d⟩ => ⟨i, a, b, c, by rwa [grS_at b] at d⟩, fun ⟨i, a, b, c, d⟩ => ⟨i, a, b, c, by rwa [grS_at b]⟩⟩
   have Tarr : Arr T := fun x hx => by
    obtain ⟨u, hu, rfl⟩ := List.getElem_of_mem hx
    exact ⟨T0 _ hx, fun y hy => by
     rw [← getD_eq hu []] at hy
     obtain ⟨i, rfl, hi, _⟩ := (Tat u y).1 hy
     omega⟩
   obtain ⟨q, q1, q2, q3⟩ := reached_is (g := T) (by omega) Tarr (fr := so) (fun x hx => by rw [T1]; exact hso.2 x hx) (by omega)
   have hB : ∀ (i : Nat), i < 2 ^ (w * v) → (∃ x ∈ nextS w v co i, Reach T so x) → Reach T so i := fun i hi ⟨x, hx, n, hn⟩ => by
    have hx2 := (nextS_rg w v co i).2 x hx
    obtain ⟨u, rfl⟩ := Int.eq_ofNat_of_zero_le hx2.1
    exact ⟨n + 1, u, by omega, hn, (Tat u i).2 ⟨i, rfl, hi, by omega, hx⟩⟩
   obtain ⟨r, r1, r2, r3, r4, r5⟩ := hS.back_l0 hB (2 ^ (w * v)) so (by omega) hso (fun x hx => ⟨0, hx⟩)
   have all : ∀ (n : Nat) (x : Int), Walk T so n x → x ∈ r := by
    intro n
    induction n with
    | zero => exact fun x hx => r2 x hx
    | succ n ih =>
     intro x ⟨u, _, g1, g2⟩
     obtain ⟨i, rfl, hi, _, g3⟩ := (Tat u x).1 g2
     exact r4 i hi ⟨u, g3, ih u g1⟩
   have e : q = r := rise_uniq q1 r1.1 (fun x => (q2 x).trans ⟨fun ⟨n, hn⟩ => all n x hn, fun hx => r3 x hx⟩)
   subst e
   have hrl := r1.len
   refine ⟨(q, true), by show q.length ≤ 32; omega, s0 _ (Ev.bind (tells_ev t1 hr) (ev_pos rfl (Ev.bind (Ev.bind (ev_const (l1Own_eq so (by omega))) r5) (Ev.now _)))), Ev.bind g4 (ev_pos rfl (Ev.bind (ev_const hS.states) (Ev.bind (tells_ev t2 hr) ?_)))⟩
   refine Ev.step (fun k => by simp only [impl_BackFrom.j0]; rw [if_neg (by simp)]) ?_
   exact Ev.bind hS.graph (Ev.bind T3 (Ev.bind q3 (Ev.now _)))
  ·exact ⟨([], false), by simp, s0 _ (Ev.bind (tells_ev_not t1 hr) (ev_neg (by simp) (Ev.now _))), Ev.bind g4 (ev_pos rfl (Ev.bind (ev_const hS.states) (Ev.bind (tells_ev_not t2 hr) n2)))⟩
 ·exact ⟨([], false), by simp, Ev.bind (tells_ev_not g1 hsm) (ev_neg (by simp) (Ev.now _)), Ev.bind (tells_ev_not g2 hsm) (ev_neg (by simp) n2)⟩
structure Come (st : List S81) (co : List S104) : Prop where
 s1 : st.length ≤ 1048576
 s2 : co.length ≤ 1048576
 s3 : ∀ x ∈ co, SmallCo x
 wst : Wd (st.map cNode)
 wco : ∀ c ∈ co.map cCommand, Wd c.f0 ∧ ∀ x ∈ c.f1, Wd x.f1
 ok : ∀ x ∈ co.map cCommand, OkCo x
theorem come_in {st : List S81} {co : List S104} (hst : st.length ≤ 9223372036854775807 ∧ ∀ x ∈ st, In64 x.f0 ∧ InU64 x.f1)
  (hco : co.length ≤ 9223372036854775807 ∧ ∀ x ∈ co, (x.f0.length ≤ 9223372036854775807 ∧ ∀ y ∈ x.f0, In64 y.f0 ∧ InU64 y.f1) ∧ (x.f1.length ≤ 9223372036854775807 ∧ ∀ y ∈ x.f1, In64 y.f0 ∧ (y.f1.length ≤ 9223372036854775807 ∧ ∀ z ∈ y.f1, In64 z.f0 ∧ InU64 z.f1)))
  (h1 : st.length ≤ 1048576) (h2 : co.length ≤ 1048576) (h3 : ∀ x ∈ co, SmallCo x) : Come st co := by
 have wd : ∀ l : List S81, (∀ y ∈ l, InU64 y.f1) → Wd (l.map cNode) := fun l hl x hx => by
  obtain ⟨y, hy, rfl⟩ := List.mem_map.1 hx
  have := hl y hy
  unfold InU64 at this
  simp only [cNode]; omega
 refine ⟨h1, h2, h3, wd st (fun y hy => (hst.2 y hy).2), fun x hx => ?_, fun x hx => ?_⟩
 ·obtain ⟨y, hy, rfl⟩ := List.mem_map.1 hx
  refine ⟨wd y.f0 (fun z hz => ((hco.2 y hy).1.2 z hz).2), fun z hz => ?_⟩
  obtain ⟨u, hu, rfl⟩ := List.mem_map.1 hz
  exact wd u.f1 (fun q hq => (((hco.2 y hy).2.2 u hu).2.2 q hq).2)
 ·obtain ⟨y, hy, rfl⟩ := List.mem_map.1 hx
  obtain ⟨g1, g2, g3⟩ := h3 y hy
  refine ⟨by simpa [cCommand] using g1, by simpa [cCommand] using g2, fun z hz => ?_⟩
  obtain ⟨u, hu, rfl⟩ := List.mem_map.1 hz
  have := g3 u hu
  unfold SmallCh at this
  simpa [OkCh, cChange] using this
theorem Come.few {st : List S81} {co : List S104} (h : Come st co) : ∀ c ∈ co.map cCommand, c.f1.length ≤ 9223372036854775807 := fun x hx => by have := (h.ok x hx).2.1; omega

theorem FnExactBackFrom : ∀ (a0_0 : Int) (a0_1 : Int) (l0_2 : List (S81)) (l0_3 : List (S104)) (l1 : List (Int)), (In64 a0_0) → (In64 a0_1) → (l0_2.length ≤ 9223372036854775807 ∧ ∀ x ∈ l0_2, (In64 x.f0) ∧ (InU64 x.f1)) → (l0_3.length ≤ 9223372036854775807 ∧ ∀ x ∈ l0_3, (x.f0.length ≤ 9223372036854775807 ∧ ∀ y ∈ x.f0, (In64 y.f0) ∧ (InU64 y.f1)) ∧ (x.f1.length ≤ 9223372036854775807 ∧ ∀ y ∈ x.f1, (In64 y.f0) ∧ (y.f1.length ≤ 9223372036854775807 ∧ ∀ x ∈ y.f1, (In64 x.f0) ∧ (InU64 x.f1)))) → (l1.length ≤ 9223372036854775807 ∧ ∀ x ∈ l1, In64 x) → ∃ k, laws_FnExactBackFrom.Holds k a0_0 a0_1 l0_2 l0_3 l1 := by
  intro wi va st co s _ _ hst hco hs
  by_cases c : 1048576 < (s.length : Int)
  · exact ⟨0, .inl c⟩
  obtain ⟨t, ht, hp⟩ := szProgram_ev wi va st co hst.1 hco.1 (fun x hx => ⟨(hco.2 x hx).1.1, (hco.2 x hx).2.1, fun y hy => ((hco.2 x hx).2.2 y hy).2.1⟩)
  by_cases h : t < 0
  · obtain ⟨k, hk⟩ := (ev_late ht).ex
    exact ⟨k, .inr ⟨c, t, hk, .inl h⟩⟩
  obtain ⟨_, h1, h2, h3⟩ := hp (by omega)
  have C := come_in hst hco h1 h2 h3
  obtain ⟨⟨b1, b2⟩, hb, e1, e2⟩ := BackFrom_both wi va (st.map cNode) (co.map cCommand) s (by omega) C.wst C.wco C.few
  have hb : b1.length ≤ 32 := hb
  have hm := markProgram_ev wi va (st.map cNode) (co.map cCommand) (by simpa using h1) (by simpa using h2) C.ok
  have ht2 := mkTot_le (st.map cNode) (co.map cCommand) (by simpa using h1) (by simpa using h2) C.ok
  have hm2 := markIntS_ev' s (1 + mkTot (st.map cNode) (co.map cCommand)) (by omega) (by omega) (by omega)
  have hm3 := markIntS_ev b1 1 (by omega) (by omega) (by omega)
  have hh := heldIntS_ev b1.length 1 (by omega) (by omega) (by omega)
  obtain ⟨k, a1, a2, a3, a4, a5, a6, a7, a8, a9, a10, a11, a12⟩ := ((ev_late ht).and ((ev_late (toProgram_ev wi va st co h1 h2 h3)).and ((ev_late (toIntS_ev s (by omega))).and ((ev_late e1).and ((ev_late e2).and ((ev_late (eqIntS_ev b1 (by omega))).and ((ev_late (eqProgram_ev wi va (st.map cNode) (co.map cCommand) (by simpa using h1) (by simpa using h2) C.ok)).and ((ev_late (eqIntS_ev s (by omega))).and ((ev_late hm).and ((ev_late hm2).and ((ev_late hm3).and (ev_late hh)))))))))))).ex
  exact ⟨k, .inr ⟨c, t, a1, .inr ⟨h, _, _, b1, b2, _, _, _, _, _, a2, a3, a4, a5, a6, a7, a8, a9, a10, a11, a12, by omega, by omega⟩⟩⟩

end Go.Proofs.YtngefmofelengaaGreat.Pure
