/- What a search by a predicate answers, element by element, where the predicate itself may take rounds or fail. No condition. -/
import Derived.Test.YtgcglmkkfkjhhaaWWords
set_option linter.unusedVariables false
set_option linter.unusedSimpArgs false
namespace Go.Proofs.Ytgcglmkkfkjhhaa.Hof
open Go.RowKit Go.Proofs.YtgcglmkkfkjhhaaW.PrintWords
theorem am_ {p : Prop} (h : p) : Aside0 p := ⟨h⟩
section
variable {α : Type}
def anyO (q : α → Option Bool) : List α → Option Bool
  | [] => some false
  | x :: t => (q x).bind fun b => if b = true then some true else anyO q t
def idxO (q : α → Option Bool) : List α → Int → Option Int
  | [], _ => some (-1)
  | x :: t, i => (q x).bind fun b => if b = true then some i else idxO q t (i + 1)
theorem anyO_mono {q q' : α → Option Bool} (h : ∀ x, LeO (q x) (q' x)) : ∀ l, LeO (anyO q l) (anyO q' l)
  | [] => LeO.refl _
  | x :: t => by
    simp only [anyO]
    exact LeO.bind (h x) (fun b => LeO.ite (LeO.refl _) (anyO_mono h t))
theorem idxO_mono {q q' : α → Option Bool} (h : ∀ x, LeO (q x) (q' x)) : ∀ l i, LeO (idxO q l i) (idxO q' l i)
  | [], _ => LeO.refl _
  | x :: t, i => by
    simp only [idxO]
    exact LeO.bind (h x) (fun b => LeO.ite (LeO.refl _) (idxO_mono h t (i + 1)))
theorem idxO_of_anyO {q : α → Option Bool} : ∀ (l : List α) (b : Bool) (i : Int), 0 ≤ i → anyO q l = some b → ∃ r, idxO q l i = some r ∧ decide (0 ≤ r) = b
  | [], b, i, _, h => ⟨-1, rfl, by
    have : b = false := (Option.some.inj h).symm
    subst this
    decide⟩
  | x :: t, b, i, h0, h => by
    obtain ⟨c, hc, h⟩ := Option.bind_eq_some_iff.mp h
    cases c with
    | true =>
      have : b = true := by simpa using h.symm
      subst this
      exact ⟨i, by simp [idxO, hc], by simpa using h0⟩
    | false =>
      obtain ⟨r, hr, e⟩ := idxO_of_anyO t b (i + 1) (by omega) (by simpa using h)
      exact ⟨r, by simpa [idxO, hc] using hr, e⟩
theorem drop_getD {l : List α} {j : Nat} (h : j < l.length) (d : α) : l.drop j = l.getD j d :: l.drop (j + 1) := by
  rw [List.drop_eq_getElem_cons h]
  simp [List.getD_eq_getElem?_getD, List.getElem?_eq_getElem h]
theorem getD_in {l : List α} {j : Nat} (h : j < l.length) (d : α) : l.getD j d ∈ l := by
  rw [List.getD_eq_getElem?_getD, List.getElem?_eq_getElem h]
  exact List.getElem_mem h
end
end Go.Proofs.Ytgcglmkkfkjhhaa.Hof
