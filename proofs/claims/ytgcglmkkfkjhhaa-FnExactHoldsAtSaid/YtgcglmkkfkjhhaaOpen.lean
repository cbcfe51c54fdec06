/- Whatever the reader of data reads of a type is of the print's kind for that type: whole numbers, bools, strings, slices and structs, nested as they may be. No condition. -/
import Derived.Test.YtgcglmkkfkjhhaaWWords
import Derived.Deep.Slices
import Derived.ChangeArms
import Derived.DataReads
set_option linter.unusedVariables false
set_option linter.unusedSimpArgs false
namespace Go.Proofs.Ytgcglmkkfkjhhaa.Open
open Go.Proofs.YtgcglmkkfkjhhaaW.PrintWords Go.Deep Go.ChangeShapes

/-- Cells that read as a datum of type t are of kind k, and what they say is good. -/
def Opens {α : Type} (P : Program) (t : TypeId) (k : Kd α) (good : α → Prop) : Prop :=
  ∀ (H : Type) (enc : TypeId × Value → H) (w : World) (base : Nat) (spare : Nat → Bool) (held : Bool) (fuel : Nat) (cs : List Value) (x : DataW H × List MemPlace),
    DataW.trod enc P w base spare held fuel t cs = some x → ∃ a, k.K w a cs ∧ good a

theorem opens_int {P : Program} {t : TypeId} {ik : IntKind} (ht : P.underlying t = some (.int ik)) : Opens P t (Kd.int ik) (fun n => (Lit.int ik n).wf = true) := by
  intro H enc w base spare held fuel cs x h
  obtain ⟨n, rfl, _, hn⟩ := DataW.trod_int ht h
  exact ⟨n, rfl, hn⟩

theorem opens_bool {P : Program} {t : TypeId} (ht : P.underlying t = some .bool) : Opens P t Kd.bool (fun _ => True) := by
  intro H enc w base spare held fuel cs x h
  obtain ⟨b, rfl, _⟩ := DataW.trod_bool ht h
  exact ⟨b, rfl, trivial⟩

theorem opens_string {P : Program} {t : TypeId} (ht : P.underlying t = some .string) : Opens P t Kd.string (fun s => s.size ≤ maxLen) := by
  intro H enc w base spare held fuel cs x h
  obtain ⟨s, rfl, _, hs⟩ := DataW.trod_string ht h
  exact ⟨s, rfl, hs⟩

theorem choose_list {α : Type} {p : Nat → α → Prop} : ∀ n, (∀ i, i < n → ∃ a, p i a) → ∃ l : List α, l.length = n ∧ ∀ i a, l[i]? = some a → p i a
  | 0, _ => ⟨[], rfl, fun i a h => by simp at h⟩
  | n + 1, h => by
    obtain ⟨l, hl, hp⟩ := choose_list n (fun i hi => h i (by omega))
    obtain ⟨a, ha⟩ := h n (by omega)
    refine ⟨l ++ [a], by simp [hl], fun i b hb => ?_⟩
    rcases Nat.lt_trichotomy i n with hi | hi | hi
    · rw [List.getElem?_append_left (by omega)] at hb
      exact hp i b hb
    · subst hi
      rw [List.getElem?_append_right (by omega)] at hb
      simp [hl] at hb
      subst hb
      exact ha
    · rw [List.getElem?_append_right (by omega), List.getElem?_eq_none (by simp; omega)] at hb
      cases hb

theorem opens_slice {α : Type} {P : Program} {t e : TypeId} {k : Kd α} {good : α → Prop} (ht : P.underlying t = some (.slice e)) (hc : P.cellsOf e = k.sz) (he : Opens P e k good) :
    Opens P t (Kd.slice e k) (fun l => l.length ≤ 9223372036854775807 ∧ ∀ x ∈ l, good x) := by
  intro H enc w base spare held fuel cs x h
  rcases open_slice ht h with ⟨rfl, _⟩ | ⟨a, len, cap, m, n, D, Pl, rfl, hb, hl, hm, hmm, _, hx⟩
  · exact ⟨[], ⟨none, 0, rfl, Nat.le_refl _, Kd.C_nil k w⟩, by simp, by simp⟩
  · have hlm : len ≤ m := by rw [hmm]; split <;> omega
    obtain ⟨l, hll, hp⟩ := choose_list (p := fun i y => (∃ c : List Value, c.length = k.sz ∧ k.K w y c ∧ ∀ j u, c[j]? = some u → w.cell? (a.add (i * k.sz + j)) = some u) ∧ good y) len (fun i hi => by
      obtain ⟨cs', h1, h2⟩ := hx i (by omega)
      obtain ⟨y, hK, hg⟩ := he H enc w base spare held n cs' _ h2
      rw [hc] at h1
      obtain ⟨_, hlen, hat⟩ := World.cells?_some h1
      refine ⟨y, ⟨cs', hlen, hK, fun j u hu => ?_⟩, hg⟩
      have hj : j < k.sz := by
        rcases Nat.lt_or_ge j k.sz with hj | hj
        · exact hj
        · rw [List.getElem?_eq_none (by omega)] at hu
          cases hu
      rw [← Go.Deep.add_add, hat j hj]
      exact hu)
    have hcap : cap ≤ 9223372036854775807 := by unfold maxLen at hm; omega
    refine ⟨l, ⟨some a, cap, by rw [hll], by omega, ?_⟩, by omega, fun x hx => ?_⟩
    · refine ⟨rfl, by omega, fun _ => ⟨a, rfl, fun j p hj => (hp j p hj).1⟩⟩
    · obtain ⟨i, hi, rfl⟩ := List.getElem_of_mem hx
      exact (hp i _ (List.getElem?_eq_getElem hi)).2

theorem opens_mono {α : Type} {P : Program} {t : TypeId} {k : Kd α} {good good' : α → Prop} (h : Opens P t k good) (hg : ∀ a, good a → good' a) : Opens P t k good' := by
  intro H enc w base spare held fuel cs x hx
  obtain ⟨a, h1, h2⟩ := h H enc w base spare held fuel cs x hx
  exact ⟨a, h1, hg a h2⟩

/-- A field: its type's cells lie at its offset. -/
theorem field_part {α : Type} {P : Program} {k : Kd α} {good : α → Prop} {f : Field} {off n : Nat} (hk : Opens P f.type k good) (ho : f.offset = off) (hc : P.cellsOf f.type = k.sz)
    {H : Type} {enc : TypeId × Value → H} {w : World} {base : Nat} {spare : Nat → Bool} {held : Bool} {cs : List Value} {xs : List (DataW H × List MemPlace)} {i : Nat} (hi : i < xs.length)
    (h : DataW.trod enc P w base spare held n f.type ((cs.drop f.offset).take (P.cellsOf f.type)) = xs[i]?) : ∃ a, k.K w a ((cs.drop off).take k.sz) ∧ good a := by
  rw [List.getElem?_eq_getElem hi, ho, hc] at h
  exact hk H enc w base spare held n _ _ h

theorem opens_struct1 {α β : Type} {P : Program} {t : TypeId} {f0 : Field} {k0 : Kd α} {g0 : α → Prop} (fn : β → α) (back : α → β) (hback : ∀ a, fn (back a) = a)
    (ht : P.underlying t = some (.struct #[f0])) (hC : P.cellsOf t = k0.sz) (o0 : f0.offset = 0) (c0 : P.cellsOf f0.type = k0.sz) (h0 : Opens P f0.type k0 g0) :
    Opens P t (Kd.iso k0 fn) (fun y => g0 (fn y)) := by
  intro H enc w base spare held fuel cs x h
  obtain ⟨xs, n, _, _, hl, hxl, hf⟩ := DataW.trod_struct ht h
  obtain ⟨a, ha, ga⟩ := field_part h0 o0 c0 (i := 0) (by rw [hxl]; simp) (hf 0 f0 rfl)
  refine ⟨back a, ?_, by show g0 (fn (back a)); rw [hback]; exact ga⟩
  show k0.K w (fn (back a)) cs
  rw [hback]
  rw [List.drop_zero, List.take_of_length_le (by omega)] at ha
  exact ha

theorem opens_struct2 {α0 α1 β : Type} {P : Program} {t : TypeId} {f0 f1 : Field} {k0 : Kd α0} {k1 : Kd α1} {g0 : α0 → Prop} {g1 : α1 → Prop} (fn : β → α0 × α1) (back : α0 × α1 → β) (hback : ∀ a, fn (back a) = a)
    (ht : P.underlying t = some (.struct #[f0, f1])) (hC : P.cellsOf t = k0.sz + k1.sz) (o0 : f0.offset = 0) (o1 : f1.offset = k0.sz) (c0 : P.cellsOf f0.type = k0.sz) (c1 : P.cellsOf f1.type = k1.sz)
    (h0 : Opens P f0.type k0 g0) (h1 : Opens P f1.type k1 g1) :
    Opens P t (Kd.iso (Kd.pair k0 k1) fn) (fun y => g0 (fn y).1 ∧ g1 (fn y).2) := by
  intro H enc w base spare held fuel cs x h
  obtain ⟨xs, n, _, _, hl, hxl, hf⟩ := DataW.trod_struct ht h
  obtain ⟨a, ha, ga⟩ := field_part h0 o0 c0 (i := 0) (by rw [hxl]; simp) (hf 0 f0 rfl)
  obtain ⟨b, hb, gb⟩ := field_part h1 o1 c1 (i := 1) (by rw [hxl]; simp) (hf 1 f1 rfl)
  refine ⟨back (a, b), ?_, by show g0 (fn (back (a, b))).1 ∧ g1 (fn (back (a, b))).2; rw [hback]; exact ⟨ga, gb⟩⟩
  show (Kd.pair k0 k1).K w (fn (back (a, b))) cs
  rw [hback]
  refine ⟨(cs.drop 0).take k0.sz, (cs.drop k0.sz).take k1.sz, ?_, ha, hb⟩
  rw [List.drop_zero, List.take_of_length_le (l := cs.drop k0.sz) (by rw [List.length_drop]; omega), List.take_append_drop]

theorem split3 {cs : List Value} {n0 n1 n2 : Nat} (h : cs.length = n0 + (n1 + n2)) : cs = (cs.drop 0).take n0 ++ ((cs.drop n0).take n1 ++ (cs.drop (n0 + n1)).take n2) := by
  rw [List.take_of_length_le (l := cs.drop (n0 + n1)) (by rw [List.length_drop]; omega), ← List.drop_drop, List.take_append_drop, List.drop_zero, List.take_append_drop]

theorem opens_struct3 {α0 α1 α2 β : Type} {P : Program} {t : TypeId} {f0 f1 f2 : Field} {k0 : Kd α0} {k1 : Kd α1} {k2 : Kd α2} {g0 : α0 → Prop} {g1 : α1 → Prop} {g2 : α2 → Prop} (fn : β → α0 × α1 × α2) (back : α0 × α1 × α2 → β) (hback : ∀ a, fn (back a) = a)
    (ht : P.underlying t = some (.struct #[f0, f1, f2])) (hC : P.cellsOf t = k0.sz + (k1.sz + k2.sz)) (o0 : f0.offset = 0) (o1 : f1.offset = k0.sz) (o2 : f2.offset = k0.sz + k1.sz)
    (c0 : P.cellsOf f0.type = k0.sz) (c1 : P.cellsOf f1.type = k1.sz) (c2 : P.cellsOf f2.type = k2.sz)
    (h0 : Opens P f0.type k0 g0) (h1 : Opens P f1.type k1 g1) (h2 : Opens P f2.type k2 g2) :
    Opens P t (Kd.iso (Kd.pair k0 (Kd.pair k1 k2)) fn) (fun y => g0 (fn y).1 ∧ g1 (fn y).2.1 ∧ g2 (fn y).2.2) := by
  intro H enc w base spare held fuel cs x h
  obtain ⟨xs, n, _, _, hl, hxl, hf⟩ := DataW.trod_struct ht h
  obtain ⟨a, ha, ga⟩ := field_part h0 o0 c0 (i := 0) (by rw [hxl]; simp) (hf 0 f0 rfl)
  obtain ⟨b, hb, gb⟩ := field_part h1 o1 c1 (i := 1) (by rw [hxl]; simp) (hf 1 f1 rfl)
  obtain ⟨c, hc, gc⟩ := field_part h2 o2 c2 (i := 2) (by rw [hxl]; simp) (hf 2 f2 rfl)
  refine ⟨back (a, b, c), ?_, by show g0 (fn (back (a, b, c))).1 ∧ g1 (fn (back (a, b, c))).2.1 ∧ g2 (fn (back (a, b, c))).2.2; rw [hback]; exact ⟨ga, gb, gc⟩⟩
  show (Kd.pair k0 (Kd.pair k1 k2)).K w (fn (back (a, b, c))) cs
  rw [hback]
  exact ⟨_, _, split3 (by omega), ha, _, _, rfl, hb, hc⟩

theorem split4 {cs : List Value} {n0 n1 n2 n3 : Nat} (h : cs.length = n0 + (n1 + (n2 + n3))) : cs = (cs.drop 0).take n0 ++ ((cs.drop n0).take n1 ++ ((cs.drop (n0 + n1)).take n2 ++ (cs.drop (n0 + n1 + n2)).take n3)) := by
  rw [List.take_of_length_le (l := cs.drop (n0 + n1 + n2)) (by rw [List.length_drop]; omega), ← List.drop_drop (i := n2) (j := n0 + n1), List.take_append_drop, ← List.drop_drop, List.take_append_drop, List.drop_zero, List.take_append_drop]

theorem opens_struct4 {α0 α1 α2 α3 β : Type} {P : Program} {t : TypeId} {f0 f1 f2 f3 : Field} {k0 : Kd α0} {k1 : Kd α1} {k2 : Kd α2} {k3 : Kd α3} {g0 : α0 → Prop} {g1 : α1 → Prop} {g2 : α2 → Prop} {g3 : α3 → Prop} (fn : β → α0 × α1 × α2 × α3) (back : α0 × α1 × α2 × α3 → β) (hback : ∀ a, fn (back a) = a)
    (ht : P.underlying t = some (.struct #[f0, f1, f2, f3])) (hC : P.cellsOf t = k0.sz + (k1.sz + (k2.sz + k3.sz))) (o0 : f0.offset = 0) (o1 : f1.offset = k0.sz) (o2 : f2.offset = k0.sz + k1.sz) (o3 : f3.offset = k0.sz + k1.sz + k2.sz)
    (c0 : P.cellsOf f0.type = k0.sz) (c1 : P.cellsOf f1.type = k1.sz) (c2 : P.cellsOf f2.type = k2.sz) (c3 : P.cellsOf f3.type = k3.sz)
    (h0 : Opens P f0.type k0 g0) (h1 : Opens P f1.type k1 g1) (h2 : Opens P f2.type k2 g2) (h3 : Opens P f3.type k3 g3) :
    Opens P t (Kd.iso (Kd.pair k0 (Kd.pair k1 (Kd.pair k2 k3))) fn) (fun y => g0 (fn y).1 ∧ g1 (fn y).2.1 ∧ g2 (fn y).2.2.1 ∧ g3 (fn y).2.2.2) := by
  intro H enc w base spare held fuel cs x h
  obtain ⟨xs, n, _, _, hl, hxl, hf⟩ := DataW.trod_struct ht h
  obtain ⟨a, ha, ga⟩ := field_part h0 o0 c0 (i := 0) (by rw [hxl]; simp) (hf 0 f0 rfl)
  obtain ⟨b, hb, gb⟩ := field_part h1 o1 c1 (i := 1) (by rw [hxl]; simp) (hf 1 f1 rfl)
  obtain ⟨c, hc, gc⟩ := field_part h2 o2 c2 (i := 2) (by rw [hxl]; simp) (hf 2 f2 rfl)
  obtain ⟨d, hd, gd⟩ := field_part h3 o3 c3 (i := 3) (by rw [hxl]; simp) (hf 3 f3 rfl)
  refine ⟨back (a, b, c, d), ?_, by show g0 (fn (back (a, b, c, d))).1 ∧ g1 (fn (back (a, b, c, d))).2.1 ∧ g2 (fn (back (a, b, c, d))).2.2.1 ∧ g3 (fn (back (a, b, c, d))).2.2.2; rw [hback]; exact ⟨ga, gb, gc, gd⟩⟩
  show (Kd.pair k0 (Kd.pair k1 (Kd.pair k2 k3))).K w (fn (back (a, b, c, d))) cs
  rw [hback]
  exact ⟨_, _, split4 (by omega), ha, _, _, rfl, hb, _, _, rfl, hc, hd⟩
/-! ### ranges -/
def In64 (x : Int) : Prop := -9223372036854775808 ≤ x ∧ x ≤ 9223372036854775807
def InU64 (x : Int) : Prop := 0 ≤ x ∧ x ≤ 18446744073709551615
def InU8 (x : Int) : Prop := 0 ≤ x ∧ x ≤ 255
theorem in64_wf {x : Int} (h : (Lit.int .i64 x).wf = true) : In64 x := by
  have h1 : (decide (IntKind.i64.min ≤ x) && decide (x ≤ IntKind.i64.max)) = true := h
  simp only [Bool.and_eq_true, decide_eq_true_eq] at h1
  exact h1
theorem inU64_wf {x : Int} (h : (Lit.int .u64 x).wf = true) : InU64 x := by
  have h1 : (decide (IntKind.u64.min ≤ x) && decide (x ≤ IntKind.u64.max)) = true := h
  simp only [Bool.and_eq_true, decide_eq_true_eq] at h1
  exact h1
theorem inU8_wf {x : Int} (h : (Lit.int .u8 x).wf = true) : InU8 x := by
  have h1 : (decide (IntKind.u8.min ≤ x) && decide (x ≤ IntKind.u8.max)) = true := h
  simp only [Bool.and_eq_true, decide_eq_true_eq] at h1
  exact h1
theorem opens_i64 {P : Program} {t : TypeId} (ht : P.underlying t = some (.int .i64)) : Opens P t (Kd.int .i64) In64 := opens_mono (opens_int ht) (fun _ h => in64_wf h)
theorem opens_u64 {P : Program} {t : TypeId} (ht : P.underlying t = some (.int .u64)) : Opens P t (Kd.int .u64) InU64 := opens_mono (opens_int ht) (fun _ h => inU64_wf h)
theorem opens_u8 {P : Program} {t : TypeId} (ht : P.underlying t = some (.int .u8)) : Opens P t (Kd.int .u8) InU8 := opens_mono (opens_int ht) (fun _ h => inU8_wf h)
end Go.Proofs.Ytgcglmkkfkjhhaa.Open
