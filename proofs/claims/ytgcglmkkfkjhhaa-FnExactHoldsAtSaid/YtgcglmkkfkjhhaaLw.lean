/- Where the rows of a law lie: each in an interval of the blocks, from the size that memory had before the call that made it to the size behind it; and what moves such facts. No condition. -/
import Derived.Test.YtgcglmkkfkjhhaaWMore
import Derived.Test.YtgcglmkkfkjhhaaWTab
set_option linter.unusedVariables false
set_option linter.unusedSimpArgs false
namespace Go.Proofs.Ytgcglmkkfkjhhaa.Lw
open Go.RowKit Go.Proofs.YtgcglmkkfkjhhaaW.PrintWords Go.Proofs.YtgcglmkkfkjhhaaW.PrintLast Go.Proofs.YtgcglmkkfkjhhaaW.PrintMore
/-- A row of one's own, in the blocks from lo on, below hi. -/
structure Held {α : Type} (d : Kd α) (e : Nat) (W : World) (base lo hi : Nat) (v : Value) (l : List α) : Prop where
  r : d.R e W base (fun k => lo ≤ k ∧ k < hi) v l
  le : hi ≤ W.heap.size
/-- The same, where the elements' rows lie apart. -/
structure HeldS {α : Type} (d : Kd α) (e : Nat) (W : World) (base lo hi : Nat) (v : Value) (l : List α) : Prop where
  r : Kd.S d e W base (fun k => lo ≤ k ∧ k < hi) v l
  le : hi ≤ W.heap.size
/-- The same, with what else holds of their blocks. -/
structure HeldQ {α : Type} (d : Kd α) (e : Nat) (W : World) (base lo hi : Nat) (Q : Nat → Prop) (v : Value) (l : List α) : Prop where
  r : Kd.S d e W base (fun k => (lo ≤ k ∧ k < hi) ∧ Q k) v l
  le : hi ≤ W.heap.size
/-- The same, in its own block alone. -/
structure HeldO {α : Type} (d : Kd α) (e : Nat) (W : World) (base lo hi : Nat) (v : Value) (l : List α) : Prop where
  r : d.R e W base (fun k => (lo ≤ k ∧ k < hi) ∧ some k = v.ownBlock) v l
  le : hi ≤ W.heap.size
/-- A variable's block. -/
structure Box (W : World) (base g : Nat) (cs : Array Value) (t : TypeId) : Prop where
  b : W.heap[g]? = some (.cells cs t (0, 0))
  ge : base ≤ g
section
variable {α : Type} {d : Kd α} {e base lo hi a b m g : Nat} {w W W' : World} {v : Value} {l : List α} {ok : Nat → Prop} {cs cs' : Array Value} {t : TypeId}
theorem Held.move (h : Held d e W base lo hi v l) (hk : Kept W W' (fun k => a ≤ k ∧ k < b)) (hd : hi ≤ a ∨ b ≤ lo) : Held d e W' base lo hi v l :=
  ⟨Kd.R_kept h.r hk (fun k h1 h2 => by omega), Nat.le_trans h.le hk.1⟩
theorem HeldS.move (h : HeldS d e W base lo hi v l) (hk : Kept W W' (fun k => a ≤ k ∧ k < b)) (hd : hi ≤ a ∨ b ≤ lo) : HeldS d e W' base lo hi v l :=
  ⟨Kd.S_kept h.r hk (fun k h1 h2 => by omega), Nat.le_trans h.le hk.1⟩
theorem Box.move (h : Box W base g cs t) (hk : Kept W W' (fun k => a ≤ k ∧ k < b)) (hd : g < a ∨ b ≤ g) : Box W' base g cs t := ⟨blk_kept h.b hk (by omega), h.ge⟩
theorem Held.same (h : Held d e W base lo hi v l) (hb : Below W.heap.size W W') : Held d e W' base lo hi v l := h.move (a := 0) (b := 0) (Kept.of_below hb _) (.inr (Nat.zero_le _))
theorem HeldS.same (h : HeldS d e W base lo hi v l) (hb : Below W.heap.size W W') : HeldS d e W' base lo hi v l := h.move (a := 0) (b := 0) (Kept.of_below hb _) (.inr (Nat.zero_le _))
theorem Box.same (h : Box W base g cs t) (hb : Below W.heap.size W W') : Box W' base g cs t := h.move (a := 0) (b := 0) (Kept.of_below hb _) (.inr (Nat.zero_le _))
theorem HeldS.held (h : HeldS d e W base lo hi v l) : Held d e W base lo hi v l := ⟨Kd.S_R h.r, h.le⟩
/-- Behind a call that made it. -/
theorem held_new (ho : d.R e W' W.heap.size ok v l) (hb : Below W.heap.size W W') (hB : Below w.heap.size w W) : Held d e W' w.heap.size W.heap.size W'.heap.size v l :=
  ⟨Kd.R_lower (Kd.R_mono (Kd.R_bound ho) (fun _ hk => ⟨hk.2.1, hk.2.2.1⟩)) hB.size, Nat.le_refl _⟩
theorem heldS_new (ho : Kd.S d e W' W.heap.size ok v l) (hb : Below W.heap.size W W') (hB : Below w.heap.size w W) : HeldS d e W' w.heap.size W.heap.size W'.heap.size v l :=
  ⟨Kd.S_lower (Kd.S_mono (Kd.S_bound ho) (fun _ hk => ⟨hk.2.1, hk.2.2.1⟩)) hB.size, Nat.le_refl _⟩
theorem new1 {F : Nat → Nat → Prop} (h : F W.heap.size W'.heap.size) (hb : Below W.heap.size W W') (hm : m ≤ W.heap.size) : ∃ lo hi, F lo hi ∧ m ≤ lo ∧ lo ≤ hi ∧ hi ≤ W'.heap.size :=
  ⟨_, _, h, hm, hb.size, Nat.le_refl _⟩
theorem Held.slice (h : Held d e W base lo hi v l) : ∃ A c, v = .slice A l.length c := Kd.R_slice h.r
theorem HeldS.slice (h : HeldS d e W base lo hi v l) : ∃ A c, v = .slice A l.length c := h.held.slice
theorem Held.C {A : Option Addr} {n c : Nat} (h : Held d e W base lo hi (.slice A n c) l) : d.C W A l.length l := (Kd.R_reads' h.r).2.2
theorem Held.n {A : Option Addr} {n c : Nat} (h : Held d e W base lo hi (.slice A n c) l) : n = l.length := (Kd.R_reads' h.r).1
theorem Held.c {A : Option Addr} {n c : Nat} (h : Held d e W base lo hi (.slice A n c) l) : l.length ≤ c := by rw [← h.n]; exact (Kd.R_reads' h.r).2.1
theorem HeldS.C {A : Option Addr} {n c : Nat} (h : HeldS d e W base lo hi (.slice A n c) l) : d.C W A l.length l := h.held.C
theorem HeldS.c {A : Option Addr} {n c : Nat} (h : HeldS d e W base lo hi (.slice A n c) l) : l.length ≤ c := h.held.c
theorem HeldS.n {A : Option Addr} {n c : Nat} (h : HeldS d e W base lo hi (.slice A n c) l) : n = l.length := h.held.n
/-- Behind a call that wrote it: its elements lead nowhere. -/
theorem Held.marked (h : Held d e W base lo hi v l) (hE : d.E = []) {l' : List α} (hR : d.R e W' base ok v l') (hk : Kept W W' (fun k => lo ≤ k ∧ k < hi)) : Held d e W' base lo hi v l' :=
  ⟨Kd.R_reok hE hR h.r.1, Nat.le_trans h.le hk.1⟩
theorem HeldS.marked (h : HeldS d e W base lo hi v l) {l' : List α} (hS : Kd.S d e W' base (fun k => lo ≤ k ∧ k < hi) v l') (hk : Kept W W' (fun k => lo ≤ k ∧ k < hi)) : HeldS d e W' base lo hi v l' :=
  ⟨hS, Nat.le_trans h.le hk.1⟩
section
variable {S : Nat → Prop}
theorem HeldO.held (h : HeldO d e W base lo hi v l) : Held d e W base lo hi v l := ⟨Kd.R_mono h.r (fun _ hk => hk.1), h.le⟩
theorem HeldO.part (h : HeldO d e W base lo hi v l) {P : Nat → Prop} (hk : Kept W W' (fun k => S k ∧ P k)) (hd : ∀ k, some k = v.ownBlock → P k → False) : HeldO d e W' base lo hi v l :=
  ⟨Kd.R_kept h.r hk (fun k h1 h2 => hd k h1.2 h2.2), Nat.le_trans h.le hk.1⟩
theorem HeldO.move (h : HeldO d e W base lo hi v l) (hk : Kept W W' (fun k => a ≤ k ∧ k < b)) (hd : hi ≤ a ∨ b ≤ lo) : HeldO d e W' base lo hi v l :=
  ⟨Kd.R_kept h.r hk (fun k h1 h2 => by have := h1.1; omega), Nat.le_trans h.le hk.1⟩
theorem HeldO.same (h : HeldO d e W base lo hi v l) (hb : Below W.heap.size W W') : HeldO d e W' base lo hi v l := h.move (a := 0) (b := 0) (Kept.of_below hb _) (.inr (Nat.zero_le _))
theorem heldO_new (hE : d.E = []) (ho : d.R e W' W.heap.size ok v l) (hb : Below W.heap.size W W') (hB : Below w.heap.size w W) : HeldO d e W' w.heap.size W.heap.size W'.heap.size v l :=
  ⟨Kd.R_lower (Kd.R_reok hE ho (fun k hk => ⟨⟨((Kd.R_bound ho).1 k hk).2.1, ((Kd.R_bound ho).1 k hk).2.2.1⟩, hk.symm⟩)) hB.size, Nat.le_refl _⟩
theorem HeldO.slice (h : HeldO d e W base lo hi v l) : ∃ A c, v = .slice A l.length c := h.held.slice
theorem HeldO.C {A : Option Addr} {n c : Nat} (h : HeldO d e W base lo hi (.slice A n c) l) : d.C W A l.length l := h.held.C
theorem HeldO.c {A : Option Addr} {n c : Nat} (h : HeldO d e W base lo hi (.slice A n c) l) : l.length ≤ c := h.held.c
theorem HeldO.n {A : Option Addr} {n c : Nat} (h : HeldO d e W base lo hi (.slice A n c) l) : n = l.length := h.held.n
theorem HeldO.marked (h : HeldO d e W base lo hi v l) (hE : d.E = []) {l' : List α} (hR : d.R e W' base ok v l') (hk : Kept W W' S) : HeldO d e W' base lo hi v l' :=
  ⟨Kd.R_reok hE hR h.r.1, Nat.le_trans h.le hk.1⟩
end
section
variable {Q : Nat → Prop}
theorem HeldQ.heldS (h : HeldQ d e W base lo hi Q v l) : HeldS d e W base lo hi v l := ⟨Kd.S_mono h.r (fun _ hk => hk.1), h.le⟩
theorem HeldQ.move (h : HeldQ d e W base lo hi Q v l) (hk : Kept W W' (fun k => a ≤ k ∧ k < b)) (hd : hi ≤ a ∨ b ≤ lo) : HeldQ d e W' base lo hi Q v l :=
  ⟨Kd.S_kept h.r hk (fun k h1 h2 => by have := h1.1; omega), Nat.le_trans h.le hk.1⟩
theorem HeldQ.same (h : HeldQ d e W base lo hi Q v l) (hb : Below W.heap.size W W') : HeldQ d e W' base lo hi Q v l := h.move (a := 0) (b := 0) (Kept.of_below hb _) (.inr (Nat.zero_le _))
theorem heldQ_new (ho : Kd.S d e W' W.heap.size ok v l) (hb : Below W.heap.size W W') (hB : Below w.heap.size w W) : HeldQ d e W' w.heap.size W.heap.size W'.heap.size ok v l :=
  ⟨Kd.S_lower (Kd.S_mono (Kd.S_bound ho) (fun _ hk => ⟨⟨hk.2.1, hk.2.2.1⟩, hk.1⟩)) hB.size, Nat.le_refl _⟩
theorem HeldQ.part (h : HeldQ d e W base lo hi Q v l) {S P : Nat → Prop} (hk : Kept W W' (fun k => S k ∧ P k)) (hd : ∀ k, Q k → P k → False) : HeldQ d e W' base lo hi Q v l :=
  ⟨Kd.S_kept h.r hk (fun k h1 h2 => hd k h1.2 h2.2), Nat.le_trans h.le hk.1⟩
theorem HeldQ.marked (h : HeldQ d e W base lo hi Q v l) {S : Nat → Prop} {l' : List α} (hS : Kd.S d e W' base (fun k => (lo ≤ k ∧ k < hi) ∧ Q k) v l') (hk : Kept W W' S) : HeldQ d e W' base lo hi Q v l' :=
  ⟨hS, Nat.le_trans h.le hk.1⟩
theorem HeldQ.slice (h : HeldQ d e W base lo hi Q v l) : ∃ A c, v = .slice A l.length c := h.heldS.slice
theorem HeldQ.C {A : Option Addr} {n c : Nat} (h : HeldQ d e W base lo hi Q (.slice A n c) l) : d.C W A l.length l := h.heldS.C
theorem HeldQ.c {A : Option Addr} {n c : Nat} (h : HeldQ d e W base lo hi Q (.slice A n c) l) : l.length ≤ c := h.heldS.c
theorem HeldQ.n {A : Option Addr} {n c : Nat} (h : HeldQ d e W base lo hi Q (.slice A n c) l) : n = l.length := h.heldS.n
end
theorem box_new (hB : Below w.heap.size w W) (hg : g = W.heap.size) (hb : W'.heap[g]? = some (.cells cs t (0, 0))) : Box W' w.heap.size g cs t := ⟨hb, by rw [hg]; exact hB.size⟩
theorem new_g (hg : g = W.heap.size) (hm : m ≤ W.heap.size) : m ≤ g := by omega
theorem Box.lt (h : Box W base g cs t) : g + 1 ≤ W.heap.size := blk_lt h.b
end
section
variable {P : Program} {ops : Array Oper} {rest : List Oper} {o : Oper} {a : Act} {Q : Exit → Act → World → Prop}
/-- A struct is stored into a variable. -/
theorem store_event {W : World} {base g : Nat} {cs : Array Value} {t : TypeId} (p : Tmp) (x : Operand) (ho : o.op = .store t (.tmp p) x) (hN : o.dst = none) (hgd : o.guard = none) (hb : Box W base g cs t)
    (haddr : a.eval (.tmp p) = .pointer (some ⟨g, 0, none⟩)) (seg : List Value) (hx : a.eval x = .agg seg.toArray) (hu : (Value.agg seg.toArray).cells.toList = seg) (ht : (P.info? t).map (·.size) = some seg.length) (hl : seg.length = cs.size) (h1 : ∀ q ∈ seg, q.oneCell' = true)
    (h : ∀ w1, Box w1 base g seg.toArray t → Below base W w1 → Kept W w1 (fun k => g ≤ k ∧ k < g + 1) → wpList P ops Q rest a w1) : wpList P ops Q (o :: rest) a W := by
  refine wpList_plain hgd fun K hK => ?_
  have hrun : (Instr.storeAt t (.pointer (some ⟨g, 0, none⟩)) (.agg seg.toArray)).run P W = .ok () (W.setCells g 0 seg) := run_store_run t _ seg hb.b hu ht (by omega) h1
  unfold Oper.wp execOp
  simp only [ho, haddr, hx, Sem.run_bind, Sem.run_pure, Result.andThen_ok, hrun]
  show K (a.put o.dst undef) _
  rw [hN]
  obtain ⟨cur', h3, h4, h5⟩ := setCells_row seg 0 W cs hb.b (by omega)
  obtain ⟨s1, s2, s3, s4⟩ := setCells_same g seg 0 W
  have e1 : cur' = seg.toArray := by
    apply Array.ext'
    rw [h5, List.take_zero, List.nil_append, Nat.zero_add, List.drop_of_length_le (by simp; omega), List.append_nil]
  subst e1
  refine hK a _ (h _ ⟨h3, hb.ge⟩ ⟨s1, s2, s3, by rw [s4]; exact Nat.le_refl _, fun k hk => setCells_far _ _ k (by have := hb.ge; omega)⟩ ⟨by rw [s4]; exact Nat.le_refl _, fun k _ hk => setCells_far _ _ k (by omega)⟩)
end
end Go.Proofs.Ytgcglmkkfkjhhaa.Lw
