/- The steps of a region in open order, in few words: what follows from the text is found at once. No condition. -/
import Derived.Test.YtgcglmkkfkjhhaaWTab
import Derived.Test.YtgcglmkkfkjhhaaWMore
set_option linter.unusedVariables false
set_option linter.unusedSimpArgs false
namespace Go.Proofs.Ytgcglmkkfkjhhaa.Sh
open Go.RowKit Go.Proofs.YtgcglmkkfkjhhaaW.PrintWords Go.Proofs.YtgcglmkkfkjhhaaW.PrintLast Go.Proofs.YtgcglmkkfkjhhaaW.PrintMore
/-- The first q of n. -/
def pre (n q : Nat) : Array Bool := (List.replicate q true ++ List.replicate (n - q) false).toArray
section
variable {P : Program} {md : Region.Mode} {ops : Array Oper} {Q : Exit → Act → World → Prop} {S : World → Prop} {ds : List Nat}
theorem pA {oi : Oper} {v : Value} {fuel : Nat} {l : Array Bool} {a a' : Act} {w : World} (i : Nat) (N : Tmp) (l' : Array Bool) (hc : anyB md ops l l' i = true) (h : wpAnyLast P md ops Q S ds fuel l' a' w)
    (hi : ops[i]? = some oi := by exact rfl) (hN : oi.dst = some N := by exact rfl) (hQ : ∀ c a w, Q (.panic c) (a.put oi.dst v) w → Q (.panic c) a w := by exact fun _ _ _ h => h)
    (hw : Region.wanted oi (yielded ops a.tmps) = true := by rfl) (hy : ∀ w' : World, (execOp a.eval oi).run P w' = .ok (.value v) w' := by (intro w'; go_simp; with_reducible rfl))
    (ha : a.put (some N) v = a' := by (simp only [Act.put, List.setIfInBounds_toArray, List.set_cons_zero, List.set_cons_succ, i64_w, i32_w]; rfl)) : wpAnyLast P md ops Q S ds (fuel + 1) l a w :=
  pure_ l' hi hN hc hQ (Or.inl ⟨hw, hy⟩) ha h
theorem pU {oi : Oper} {fuel : Nat} {l : Array Bool} {a a' : Act} {w : World} (i : Nat) (N : Tmp) (l' : Array Bool) (hc : anyB md ops l l' i = true) (h : wpAnyLast P md ops Q S ds fuel l' a' w)
    (hi : ops[i]? = some oi := by exact rfl) (hN : oi.dst = some N := by exact rfl) (hQ : ∀ c a w, Q (.panic c) (a.put oi.dst undef) w → Q (.panic c) a w := by exact fun _ _ _ h => h)
    (hw : Region.wanted oi (yielded ops a.tmps) = false := by rfl)
    (ha : a.put (some N) undef = a' := by (simp only [Act.put, List.setIfInBounds_toArray, List.set_cons_zero, List.set_cons_succ, i64_w, i32_w]; rfl)) : wpAnyLast P md ops Q S ds (fuel + 1) l a w :=
  pure_ l' hi hN hc hQ (Or.inr ⟨hw, rfl⟩) ha h
theorem tA {oi : Oper} {v : Value} {fuel : Nat} {l : Array Bool} {a a' : Act} {w : World} (i : Nat) (N : Tmp) (l' : Array Bool) (hc : takeB md ops ds l l' i = true) (hS : S w) (h : wpAnyLast P md ops Q S ds fuel l' a' w)
    (hi : ops[i]? = some oi := by exact rfl) (hN : oi.dst = some N := by exact rfl) (hQ : ∀ c a w, Q (.panic c) (a.put oi.dst v) w → Q (.panic c) a w := by exact fun _ _ _ h => h)
    (hw : Region.wanted oi (yielded ops a.tmps) = true := by rfl) (hy : ∀ w' : World, S w' → (execOp a.eval oi).run P w' = .ok (.value v) w')
    (ha : a.put (some N) v = a' := by (simp only [Act.put, List.setIfInBounds_toArray, List.set_cons_zero, List.set_cons_succ, i64_w, i32_w]; rfl)) : wpAnyLast P md ops Q S ds (fuel + 1) l a w :=
  take_ l' hi hN hc hQ (Or.inl ⟨hw, hy⟩) hS ha h
end
/-- What was there when the call began is as it was (HB: so it was in an earlier world). -/
theorem bw {w W : World} (h : Below w.heap.size w W := by repeat (first | (with_reducible first | exact HB.out | apply below_alloc | apply pw_below_drewN | apply below_drew1 | refine below_set ?_ (Aside0.out (by assumption))) | exact HB.out)) : Below w.heap.size w W := h
theorem eR {α : Type} {a b : α} (h : a = b := by first | rfl | (simp [errW_none, errW_some] <;> rfl) | (simp [*, errW_none, errW_some] <;> rfl)) : a = b := h
section
variable {α : Type} {d : Kd α} {w W W' : World} {A : Option Addr} {n : Nat} {l : List α}
theorem cB (h : d.C w A n l) (hb : Below w.heap.size w W := by repeat (first | (with_reducible first | exact HB.out | apply below_alloc | apply pw_below_drewN | apply below_drew1 | refine below_set ?_ (Aside0.out (by assumption))) | exact HB.out)) : d.C W A n l := Kd.C_below h hb
theorem cR (h : d.C W A n l) (hb : Below W.heap.size W W' := by repeat (with_reducible first | exact Below.refl _ _ | apply below_alloc | apply pw_below_drewN | apply below_drew1)) : d.C W' A n l := Kd.C_below h hb
end
section
variable {P : Program} {ops : Array Oper} {rest : List Oper} {oi : Oper} {a : Act} {Q : Exit → Act → World → Prop} {W : World}
/-- A call. -/
theorem gL (N : Option Tmp) {f : FuncId} {fn : Func} {as : Array Operand} {ts : Array TypeId} (hf : P.funcs[f]? = some fn) (args : Array Value) (hd : oi.dst = N := by exact rfl) (hg : oi.guard = none := by exact rfl) (hname : (fn.name == "runtime.NumGoroutine") = false := by kernel_rfl) (hb : fn.body.isSome = true := by exact rfl)
    (hop : oi.op = .call { callee := .value (.func f), args := as, argTypes := ts } := by exact rfl) (hargs : as.map a.eval = args := by ((try simp only [List.map_toArray, List.map_cons, List.map_nil]); first | done | rfl | (simp only [List.length_drop, List.length_take]; rfl)))
    (h : Calls P f args W fun e w' => ∃ v, e = .returned v ∧ wpList P ops Q rest (a.put N v) w') : wpList P ops Q (oi :: rest) a W := goesL_ N hd hg hf hname hb args hop hargs h
/-- A variable in memory. -/
theorem bx {N : Tmp} {cs : Array Value} {t : TypeId} (hg : oi.guard = none := by rfl) (hd : oi.dst = some N := by rfl)
    (hr : (execOp a.eval oi).run P W = .ok (.value (.pointer (some ⟨W.heap.size, 0, none⟩))) (W.alloc (.cells cs t (0, 0))) := by first | (go_simp; done) | (go_simp; rfl))
    (h : ∀ g, g = W.heap.size → ∀ w1, w1.heap[g]? = some (.cells cs t (0, 0)) → Below W.heap.size W w1 → wpList P ops Q rest (a.put oi.dst (.pointer (some ⟨g, 0, none⟩))) w1) : wpList P ops Q (oi :: rest) a W := box_event hg hd hr h
end
section
variable {w w0 W W' : World} {g g' : Nat} {o : Obj} {cs : Array Value} {t : TypeId} {v : Value}
/-- A variable's block behind a call (.. what was made in between). -/
theorem bb (h : w.heap[g]? = some o) (hb : Below W.heap.size W W') (hs : Below w.heap.size w W := by repeat (with_reducible first | exact Below.refl _ _ | apply below_alloc | apply pw_below_drewN | apply below_drew1)) : W'.heap[g]? = some o :=
  blk_below (blk_below h hs) hb
theorem bc (h : w.heap[g]? = some (.cells cs t (0, 0))) (j : Nat) (e : cs[j]? = some v := by exact rfl) : w.cell? ⟨g, j, none⟩ = some v := (blk_cell h j).trans e
theorem gw (hg : g = W.heap.size) (h : Below w.heap.size w W := by repeat (first | (with_reducible first | exact HB.out | apply below_alloc | apply pw_below_drewN | apply below_drew1 | refine below_set ?_ (Aside0.out (by assumption))) | exact HB.out)) : w.heap.size ≤ g := by rw [hg]; exact below_size h
theorem nl (hg : g' = W.heap.size) (h : w.heap[g]? = some o) (hs : Below w.heap.size w W := by repeat (with_reducible first | exact Below.refl _ _ | apply below_alloc | apply pw_below_drewN | apply below_drew1)) : g ≠ g' := by
  have := blk_lt (blk_below h hs); omega
theorem ng (hg : g' = W.heap.size) (h : w.heap[g]? = some o) (hs : Below w.heap.size w W := by repeat (with_reducible first | exact Below.refl _ _ | apply below_alloc | apply pw_below_drewN | apply below_drew1)) : g' ≠ g := by
  have := blk_lt (blk_below h hs); omega
end
/-! ### shorter still -/
theorem nf {α : Sort _} {a b : α} [inst : Decidable (false = true)] : (if false = true then a else b) = b := if_neg Bool.false_ne_true
theorem bd {α β : Type _} {x : Option α} {f : α → Option β} {r : β} (h : x.bind f = some r) : ∃ a, x = some a ∧ f a = some r := Option.bind_eq_some_iff.mp h
theorem od {p : Prop} [Decidable p] (h : decide p = true := by first | (with_reducible assumption) | assumption) : p := of_decide_eq_true h
theorem dr {w w' : World} (h : Drawn0 w w' := by repeat (first | exact Drawn0.refl _ | apply Drawn0.step)) : Drawn0 w w' := h
theorem om {a b : Nat} (h : a ≤ b := by first | omega | exact Nat.le_refl _) : a ≤ b := h
theorem es {p : Prop} (h : p := by first | rfl | (simp; done) | (simp [*]; done)) : p := h
theorem e1 {p : Prop} (h : p := by first | rfl | (simp; done)) : p := h
theorem cs {p : Prop} (h : p := by (repeat' with_reducible apply And.intro) <;> first | exact (blk_cell (Aside0.out (by assumption)) _).trans rfl | exact (HB.out.cell (World.block_lt_of_cell? w _ (by assumption))).trans (by assumption)) : p := h
section
variable {w : World} {g : Nat} {c : Array Value} {t : TypeId} {v0 v1 v2 v3 v4 : Value}
theorem b2 (h : w.heap[g]? = some (.cells c t (0, 0))) (e0 : c[0]? = some v0 := by exact rfl) (e1 : c[1]? = some v1 := by exact rfl) : w.cell? ⟨g, 0, none⟩ = some v0 ∧ w.cell? ⟨g, 1, none⟩ = some v1 ∧ w.frozen? ⟨g, 0, none⟩ = false ∧ w.frozen? ⟨g, 1, none⟩ = false :=
  ⟨bc h 0 e0, bc h 1 e1, blk_frozen h 0, blk_frozen h 1⟩
theorem b3 (h : w.heap[g]? = some (.cells c t (0, 0))) (e0 : c[0]? = some v0 := by exact rfl) (e1 : c[1]? = some v1 := by exact rfl) (e2 : c[2]? = some v2 := by exact rfl) : w.cell? ⟨g, 0, none⟩ = some v0 ∧ w.cell? ⟨g, 1, none⟩ = some v1 ∧ w.cell? ⟨g, 2, none⟩ = some v2 ∧ w.frozen? ⟨g, 0, none⟩ = false ∧ w.frozen? ⟨g, 1, none⟩ = false ∧ w.frozen? ⟨g, 2, none⟩ = false :=
  ⟨bc h 0 e0, bc h 1 e1, bc h 2 e2, blk_frozen h 0, blk_frozen h 1, blk_frozen h 2⟩
theorem b4 (h : w.heap[g]? = some (.cells c t (0, 0))) (e0 : c[0]? = some v0 := by exact rfl) (e1 : c[1]? = some v1 := by exact rfl) (e2 : c[2]? = some v2 := by exact rfl) (e3 : c[3]? = some v3 := by exact rfl) : w.cell? ⟨g, 0, none⟩ = some v0 ∧ w.cell? ⟨g, 1, none⟩ = some v1 ∧ w.cell? ⟨g, 2, none⟩ = some v2 ∧ w.cell? ⟨g, 3, none⟩ = some v3 ∧ w.frozen? ⟨g, 0, none⟩ = false ∧ w.frozen? ⟨g, 1, none⟩ = false ∧ w.frozen? ⟨g, 2, none⟩ = false ∧ w.frozen? ⟨g, 3, none⟩ = false :=
  ⟨bc h 0 e0, bc h 1 e1, bc h 2 e2, bc h 3 e3, blk_frozen h 0, blk_frozen h 1, blk_frozen h 2, blk_frozen h 3⟩
theorem b5 (h : w.heap[g]? = some (.cells c t (0, 0))) (e0 : c[0]? = some v0 := by exact rfl) (e1 : c[1]? = some v1 := by exact rfl) (e2 : c[2]? = some v2 := by exact rfl) (e3 : c[3]? = some v3 := by exact rfl) (e4 : c[4]? = some v4 := by exact rfl) : w.cell? ⟨g, 0, none⟩ = some v0 ∧ w.cell? ⟨g, 1, none⟩ = some v1 ∧ w.cell? ⟨g, 2, none⟩ = some v2 ∧ w.cell? ⟨g, 3, none⟩ = some v3 ∧ w.cell? ⟨g, 4, none⟩ = some v4 ∧ w.frozen? ⟨g, 0, none⟩ = false ∧ w.frozen? ⟨g, 1, none⟩ = false ∧ w.frozen? ⟨g, 2, none⟩ = false ∧ w.frozen? ⟨g, 3, none⟩ = false ∧ w.frozen? ⟨g, 4, none⟩ = false :=
  ⟨bc h 0 e0, bc h 1 e1, bc h 2 e2, bc h 3 e3, bc h 4 e4, blk_frozen h 0, blk_frozen h 1, blk_frozen h 2, blk_frozen h 3, blk_frozen h 4⟩
end
/-- What is done of a region, as a number. -/
def nm (n m : Nat) : Array Bool := ((List.range n).map fun i => m.testBit i).toArray
section
variable {P : Program} {md : Region.Mode} {ops : Array Oper} {Q : Exit → Act → World → Prop} {S : World → Prop} {ds : List Nat}
theorem qA {oi : Oper} {N : Tmp} {v : Value} {fuel n m m' : Nat} {a a' : Act} {w : World} (i : Nat) (h : wpAnyLast P md ops Q S ds fuel (nm n m') a' w) (hm : m ||| (1 <<< i) = m' := by (simp only [Nat.reduceShiftLeft, Nat.reduceOr]; rfl))
    (hi : ops[i]? = some oi := by exact rfl) (hN : oi.dst = some N := by exact rfl) (hc : anyB md ops (nm n m) (nm n m') i = true := by exact any_of HT_.out (by kernel_rfl)) (hQ : ∀ c a w, Q (.panic c) (a.put oi.dst v) w → Q (.panic c) a w := by exact fun _ _ _ h => h)
    (hw : Region.wanted oi (yielded ops a.tmps) = true := by rfl) (hy : ∀ w' : World, (execOp a.eval oi).run P w' = .ok (.value v) w' := by (intro w'; go_simp; with_reducible rfl))
    (ha : a.put (some N) v = a' := by (first | simp only [Act.put, List.setIfInBounds_toArray, List.set_cons_zero, List.set_cons_succ, i64_w, i32_w, hj1, hj2, hj3, hj4, hj5, hj6] | simp only [Act.put, List.setIfInBounds_toArray, List.set_cons_zero, List.set_cons_succ, i64_w, i32_w, hj1, hj2, hj3, hj4, hj5] | simp only [Act.put, List.setIfInBounds_toArray, List.set_cons_zero, List.set_cons_succ, i64_w, i32_w, hj1, hj2, hj3, hj4] | simp only [Act.put, List.setIfInBounds_toArray, List.set_cons_zero, List.set_cons_succ, i64_w, i32_w, hj1, hj2, hj3] | simp only [Act.put, List.setIfInBounds_toArray, List.set_cons_zero, List.set_cons_succ, i64_w, i32_w, hj1, hj2] | simp only [Act.put, List.setIfInBounds_toArray, List.set_cons_zero, List.set_cons_succ, i64_w, i32_w, hj1] | simp only [Act.put, List.setIfInBounds_toArray, List.set_cons_zero, List.set_cons_succ, i64_w, i32_w]); rfl) : wpAnyLast P md ops Q S ds (fuel + 1) (nm n m) a w :=
  pure_ (nm n m') hi hN hc hQ (Or.inl ⟨hw, hy⟩) ha h
theorem qU {oi : Oper} {N : Tmp} {fuel n m m' : Nat} {a a' : Act} {w : World} (i : Nat) (h : wpAnyLast P md ops Q S ds fuel (nm n m') a' w) (hm : m ||| (1 <<< i) = m' := by (simp only [Nat.reduceShiftLeft, Nat.reduceOr]; rfl))
    (hi : ops[i]? = some oi := by exact rfl) (hN : oi.dst = some N := by exact rfl) (hc : anyB md ops (nm n m) (nm n m') i = true := by exact any_of HT_.out (by kernel_rfl)) (hQ : ∀ c a w, Q (.panic c) (a.put oi.dst undef) w → Q (.panic c) a w := by exact fun _ _ _ h => h)
    (hw : Region.wanted oi (yielded ops a.tmps) = false := by rfl)
    (ha : a.put (some N) undef = a' := by simp only [Act.put, List.setIfInBounds_toArray, List.set_cons_zero, List.set_cons_succ, i64_w, i32_w]; rfl) : wpAnyLast P md ops Q S ds (fuel + 1) (nm n m) a w :=
  pure_ (nm n m') hi hN hc hQ (Or.inr ⟨hw, rfl⟩) ha h
theorem qT {oi : Oper} {N : Tmp} {v : Value} {fuel n m m' : Nat} {a a' : Act} {w : World} (i : Nat) (hS : S w) (h : wpAnyLast P md ops Q S ds fuel (nm n m') a' w) (hm : m ||| (1 <<< i) = m' := by (simp only [Nat.reduceShiftLeft, Nat.reduceOr]; rfl))
    (hi : ops[i]? = some oi := by exact rfl) (hN : oi.dst = some N := by exact rfl) (hc : takeB md ops ds (nm n m) (nm n m') i = true := by exact take_ofW HT_.out HW_.out (by kernel_rfl)) (hQ : ∀ c a w, Q (.panic c) (a.put oi.dst v) w → Q (.panic c) a w := by exact fun _ _ _ h => h)
    (hw : Region.wanted oi (yielded ops a.tmps) = true := by rfl) (hy : ∀ w' : World, S w' → (execOp a.eval oi).run P w' = .ok (.value v) w' := by (intro w' hs_; go_simp; with_reducible rfl))
    (ha : a.put (some N) v = a' := by (first | simp only [Act.put, List.setIfInBounds_toArray, List.set_cons_zero, List.set_cons_succ, i64_w, i32_w, hj1, hj2, hj3, hj4, hj5, hj6] | simp only [Act.put, List.setIfInBounds_toArray, List.set_cons_zero, List.set_cons_succ, i64_w, i32_w, hj1, hj2, hj3, hj4, hj5] | simp only [Act.put, List.setIfInBounds_toArray, List.set_cons_zero, List.set_cons_succ, i64_w, i32_w, hj1, hj2, hj3, hj4] | simp only [Act.put, List.setIfInBounds_toArray, List.set_cons_zero, List.set_cons_succ, i64_w, i32_w, hj1, hj2, hj3] | simp only [Act.put, List.setIfInBounds_toArray, List.set_cons_zero, List.set_cons_succ, i64_w, i32_w, hj1, hj2] | simp only [Act.put, List.setIfInBounds_toArray, List.set_cons_zero, List.set_cons_succ, i64_w, i32_w, hj1] | simp only [Act.put, List.setIfInBounds_toArray, List.set_cons_zero, List.set_cons_succ, i64_w, i32_w]); rfl) : wpAnyLast P md ops Q S ds (fuel + 1) (nm n m) a w :=
  take_ (nm n m') hi hN hc hQ (Or.inl ⟨hw, hy⟩) hS ha h
theorem oC {oi : Oper} {N : Option Tmp} {fuel n m m' : Nat} {a : Act} {w : World} {f : FuncId} {fn : Func} {as : Array Operand} {ts : Array TypeId} (i : Nat) (hf : P.funcs[f]? = some fn) (args : Array Value)
    (h : ∀ K : Act → World → Prop, Shut (∀ a' w', S w' → (S w' → wpAnyLast P md ops Q S ds fuel (nm n m') a' w') → K a' w') → Calls P f args w fun e w' => ∃ v, e = .returned v ∧ K (a.put N v) w')
    (hm : m ||| (1 <<< i) = m' := by (simp only [Nat.reduceShiftLeft, Nat.reduceOr]; rfl)) (hi : ops[i]? = some oi := by exact rfl) (hN : oi.dst = N := by exact rfl) (hc : readyB md ops (nm n m) (nm n m') i = true := by exact one_of HT_.out (by kernel_rfl)) (hd : i ∉ ds := by decide)
    (hname : (fn.name == "runtime.NumGoroutine") = false := by kernel_rfl) (hb : fn.body.isSome = true := by exact rfl) (hw : Region.wanted oi (yielded ops a.tmps) = true := by rfl)
    (hop : oi.op = .call { callee := .value (.func f), args := as, argTypes := ts } := by exact rfl) (hargs : as.map a.eval = args := by ((try simp only [List.map_toArray, List.map_cons, List.map_nil]); first | done | rfl | (simp only [List.length_drop, List.length_take]; rfl))) : wpAnyLast P md ops Q S ds (fuel + 1) (nm n m) a w :=
  one_ (nm n m') hi hN hc hd fun K hK => goes_ hf hname hb args hw hN hop hargs (h K hK)
theorem kN {fuel : Nat} {l : Array Bool} {a a' : Act} {N : Tmp} {v : Value} {w' : World} {K : Act → World → Prop} (hK : Shut (∀ a' w', S w' → (S w' → wpAnyLast P md ops Q S ds fuel l a' w') → K a' w')) (hS : S w') (h : S w' → wpAnyLast P md ops Q S ds fuel l a' w')
    (ha : a.put (some N) v = a' := by (first | simp only [Act.put, List.setIfInBounds_toArray, List.set_cons_zero, List.set_cons_succ, i64_w, i32_w, hj1, hj2, hj3, hj4, hj5, hj6] | simp only [Act.put, List.setIfInBounds_toArray, List.set_cons_zero, List.set_cons_succ, i64_w, i32_w, hj1, hj2, hj3, hj4, hj5] | simp only [Act.put, List.setIfInBounds_toArray, List.set_cons_zero, List.set_cons_succ, i64_w, i32_w, hj1, hj2, hj3, hj4] | simp only [Act.put, List.setIfInBounds_toArray, List.set_cons_zero, List.set_cons_succ, i64_w, i32_w, hj1, hj2, hj3] | simp only [Act.put, List.setIfInBounds_toArray, List.set_cons_zero, List.set_cons_succ, i64_w, i32_w, hj1, hj2] | simp only [Act.put, List.setIfInBounds_toArray, List.set_cons_zero, List.set_cons_succ, i64_w, i32_w, hj1] | simp only [Act.put, List.setIfInBounds_toArray, List.set_cons_zero, List.set_cons_succ, i64_w, i32_w]); rfl) : K (a.put (some N) v) w' := by
  subst ha
  exact hK.out _ _ hS h
theorem kM {fuel : Nat} {l : Array Bool} {a a' : Act} {N : Tmp} {v : Value} {w' : World} {K : Act → World → Prop} (hK : Shut (∀ a' w', wpAnyLast P md ops Q S ds fuel l a' w' → K a' w')) (h : wpAnyLast P md ops Q S ds fuel l a' w')
    (ha : a.put (some N) v = a' := by (first | simp only [Act.put, List.setIfInBounds_toArray, List.set_cons_zero, List.set_cons_succ, i64_w, i32_w, hj1, hj2, hj3, hj4, hj5, hj6] | simp only [Act.put, List.setIfInBounds_toArray, List.set_cons_zero, List.set_cons_succ, i64_w, i32_w, hj1, hj2, hj3, hj4, hj5] | simp only [Act.put, List.setIfInBounds_toArray, List.set_cons_zero, List.set_cons_succ, i64_w, i32_w, hj1, hj2, hj3, hj4] | simp only [Act.put, List.setIfInBounds_toArray, List.set_cons_zero, List.set_cons_succ, i64_w, i32_w, hj1, hj2, hj3] | simp only [Act.put, List.setIfInBounds_toArray, List.set_cons_zero, List.set_cons_succ, i64_w, i32_w, hj1, hj2] | simp only [Act.put, List.setIfInBounds_toArray, List.set_cons_zero, List.set_cons_succ, i64_w, i32_w, hj1] | simp only [Act.put, List.setIfInBounds_toArray, List.set_cons_zero, List.set_cons_succ, i64_w, i32_w]); rfl) : K (a.put (some N) v) w' := by
  subst ha
  exact hK.out _ _ h
end
section
variable {P : Program} {md : Region.Mode} {ops : Array Oper} {Q : Exit → Act → World → Prop} {S : World → Prop} {ds : List Nat}
/-- A load as the one that is ready. -/
theorem lO {oi : Oper} {N : Tmp} {v : Value} {fuel n m m' : Nat} {a a' : Act} {w : World} (i : Nat) (hS : S w) (h : wpAnyLast P md ops Q S ds fuel (nm n m') a' w) (hm : m ||| (1 <<< i) = m' := by (simp only [Nat.reduceShiftLeft, Nat.reduceOr]; rfl))
    (hi : ops[i]? = some oi := by exact rfl) (hN : oi.dst = some N := by exact rfl) (hc : readyB md ops (nm n m) (nm n m') i = true := by exact one_of HT_.out (by kernel_rfl)) (hd : i ∉ ds := by decide)
    (hw : Region.wanted oi (yielded ops a.tmps) = true := by rfl) (hy : (execOp a.eval oi).run P w = .ok (.value v) w := by (go_simp; with_reducible rfl))
    (ha : a.put (some N) v = a' := by (first | simp only [Act.put, List.setIfInBounds_toArray, List.set_cons_zero, List.set_cons_succ, i64_w, i32_w, hj1, hj2, hj3, hj4, hj5, hj6] | simp only [Act.put, List.setIfInBounds_toArray, List.set_cons_zero, List.set_cons_succ, i64_w, i32_w, hj1, hj2, hj3, hj4, hj5] | simp only [Act.put, List.setIfInBounds_toArray, List.set_cons_zero, List.set_cons_succ, i64_w, i32_w, hj1, hj2, hj3, hj4] | simp only [Act.put, List.setIfInBounds_toArray, List.set_cons_zero, List.set_cons_succ, i64_w, i32_w, hj1, hj2, hj3] | simp only [Act.put, List.setIfInBounds_toArray, List.set_cons_zero, List.set_cons_succ, i64_w, i32_w, hj1, hj2] | simp only [Act.put, List.setIfInBounds_toArray, List.set_cons_zero, List.set_cons_succ, i64_w, i32_w, hj1] | simp only [Act.put, List.setIfInBounds_toArray, List.set_cons_zero, List.set_cons_succ, i64_w, i32_w]); rfl) : wpAnyLast P md ops Q S ds (fuel + 1) (nm n m) a w :=
  one_ (nm n m') hi rfl hc hd fun K hK => by
    rw [if_pos hw]
    unfold Oper.wp
    rw [hy, Oper.upon_value, hN]
    exact hK.out _ _ hS (fun _ => by rw [ha]; exact h)
end
section
variable {w W W' : World} {g g' : Nat} {o : Obj} {α β : Type}
theorem pl (h : w.heap[g]? = some o) (hs : Below w.heap.size w W := by (repeat (with_reducible first | apply below_alloc | apply pw_below_drewN | apply below_drew1)); exact Below.refl _ _) : W.heap[g]? = some o := blk_below h hs
theorem rl {d : Kd α} {e base : Nat} {ok : Nat → Prop} {v : Value} {xs : List α} (h : d.R e w base ok v xs) (hs : Below w.heap.size w W := by (repeat (with_reducible first | apply below_alloc | apply pw_below_drewN | apply below_drew1)); exact Below.refl _ _) : d.R e W base ok v xs := Kd.R_below h hs
theorem ba {x : Option α} {f : α → Option β} {r : β} (h : x.bind f = some r) : ∃ a, Aside0 (x = some a) ∧ f a = some r := by
  obtain ⟨a, h1, h2⟩ := Option.bind_eq_some_iff.mp h
  exact ⟨a, ⟨h1⟩, h2⟩
theorem hb (hb : Below W.heap.size W W') (h : Below w.heap.size w W := by repeat (first | (with_reducible first | exact HB.out | apply below_alloc | apply pw_below_drewN | apply below_drew1 | refine below_set ?_ (Aside0.out (by assumption))) | exact HB.out)) : Aside0 (Below w.heap.size w W') := ⟨below_step h hb⟩
theorem ab (h : Aside0 (w.heap[g]? = some o)) (hb : Below W.heap.size W W') (hs : Below w.heap.size w W := by repeat (with_reducible first | exact Below.refl _ _ | apply below_alloc | apply pw_below_drewN | apply below_drew1)) : Aside0 (W'.heap[g]? = some o) := ⟨bb h.out hb hs⟩
theorem ag (w : World) (hg : g = W.heap.size) (h : Below w.heap.size w W := by repeat (first | (with_reducible first | exact HB.out | apply below_alloc | apply pw_below_drewN | apply below_drew1 | refine below_set ?_ (Aside0.out (by assumption))) | exact HB.out)) : Aside0 (w.heap.size ≤ g) := ⟨gw hg h⟩
theorem cw {a : Addr} {v : Value} (h : w.cell? a = some v) (hb : Below w.heap.size w W := by exact HB.out) : W.cell? a = some v := (hb.cell (World.block_lt_of_cell? w _ h)).trans h
end
section
variable {P : Program} {ops : Array Oper} {rest : List Oper} {oi : Oper} {a : Act} {Q : Exit → Act → World → Prop} {W : World}
theorem k (f : FuncId) {as : Array Operand} {ts : Array TypeId} (h : wpList P ops Q (oi :: rest) a W) (_ho : oi.op = .call { callee := .value (.func f), args := as, argTypes := ts } := by rfl) : wpList P ops Q (oi :: rest) a W := h
theorem d (N : Tmp) (h : wpList P ops Q (oi :: rest) a W) (_hN : oi.dst = some N := by rfl) : wpList P ops Q (oi :: rest) a W := h
theorem bz (w : World) {N : Tmp} {cs : Array Value} {t : TypeId} (hg : oi.guard = none := by rfl) (hd : oi.dst = some N := by rfl)
    (hr : (execOp a.eval oi).run P W = .ok (.value (.pointer (some ⟨W.heap.size, 0, none⟩))) (W.alloc (.cells cs t (0, 0))) := by first | (go_simp; done) | (go_simp; rfl))
    (hB : Below w.heap.size w W := by repeat (first | (with_reducible first | exact HB.out | apply below_alloc | apply pw_below_drewN | apply below_drew1 | refine below_set ?_ (Aside0.out (by assumption))) | exact HB.out))
    (h : ∀ (g : Nat) (w1 : World), Aside0 (w1.heap[g]? = some (.cells cs t (0, 0))) → Aside0 (w.heap.size ≤ g) → Aside0 (Below w.heap.size w w1) → wpList P ops Q rest (a.put oi.dst (.pointer (some ⟨g, 0, none⟩))) w1) : wpList P ops Q (oi :: rest) a W :=
  box_event hg hd hr fun g hg w1 hbox hb => h g w1 ⟨hbox⟩ (ag w hg hB) (Sh.hb hb hB)
theorem gD (N : Option Tmp) {f : FuncId} {fn : Func} {as : Array Operand} {ts : Array TypeId} {v : Value} (hf : P.funcs[f]? = some fn) (args : Array Value) (hc : Calls P f args W fun e w' => e = .returned v ∧ Drawn0 W w') (h : ∀ nd, wpList P ops Q rest (a.put N v) (W.drewN nd))
    (hd : oi.dst = N := by exact rfl) (hg : oi.guard = none := by exact rfl) (hname : (fn.name == "runtime.NumGoroutine") = false := by kernel_rfl) (hb : fn.body.isSome = true := by exact rfl)
    (hop : oi.op = .call { callee := .value (.func f), args := as, argTypes := ts } := by exact rfl) (hargs : as.map a.eval = args := by ((try simp only [List.map_toArray, List.map_cons, List.map_nil]); first | done | rfl | (simp only [List.length_drop, List.length_take]; rfl))) : wpList P ops Q (oi :: rest) a W :=
  goesL_ N hd hg hf hname hb args hop hargs (hc.mono fun e w' => fun ⟨h1, ⟨nd, h2⟩⟩ => ⟨v, h1, h2 ▸ h nd⟩)
theorem gB (N : Option Tmp) {f : FuncId} {fn : Func} {as : Array Operand} {ts : Array TypeId} {v : Value} (hf : P.funcs[f]? = some fn) (args : Array Value) (hc : Calls P f args W fun e w' => e = .returned v ∧ Below W.heap.size W w') (h : ∀ w', Below W.heap.size W w' → wpList P ops Q rest (a.put N v) w')
    (hd : oi.dst = N := by exact rfl) (hg : oi.guard = none := by exact rfl) (hname : (fn.name == "runtime.NumGoroutine") = false := by kernel_rfl) (hb : fn.body.isSome = true := by exact rfl)
    (hop : oi.op = .call { callee := .value (.func f), args := as, argTypes := ts } := by exact rfl) (hargs : as.map a.eval = args := by ((try simp only [List.map_toArray, List.map_cons, List.map_nil]); first | done | rfl | (simp only [List.length_drop, List.length_take]; rfl))) : wpList P ops Q (oi :: rest) a W :=
  goesL_ N hd hg hf hname hb args hop hargs (hc.mono fun e w' => fun ⟨h1, h2⟩ => ⟨v, h1, h w' h2⟩)
end
/-- A store over a store into the same cell. -/
theorem ss (w : World) (b o : Nat) (v v' : Value) : (w.setCell ⟨b, o, none⟩ v).setCell ⟨b, o, none⟩ v' = w.setCell ⟨b, o, none⟩ v' := by
  unfold World.setCell
  congr 1
  apply Array.ext
  · simp
  · intro i h1 h2
    simp only [Array.getElem_modify]
    by_cases hi : b = i
    · simp only [hi, if_true]
      generalize w.heap[i]'(by simpa using h1) = x
      cases x <;> simp
    · simp only [hi, if_false]
end Go.Proofs.Ytgcglmkkfkjhhaa.Sh
