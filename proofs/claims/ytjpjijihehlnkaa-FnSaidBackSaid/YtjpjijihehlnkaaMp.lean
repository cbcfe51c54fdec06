/- A map of two constants with numbers as keys, made and looked up at once: what the walk does there. No condition. -/
import Derived.Test.YtjpjijihehlnkaaWMore
import Derived.Test.YtjpjijihehlnkaaWTab
import Derived.MapKept
set_option linter.unusedVariables false
set_option linter.unusedSimpArgs false
namespace Go.Proofs.Ytjpjijihehlnkaa.Hof
open Go.RowKit Go.Proofs.YtjpjijihehlnkaaW.PrintWords Go.Proofs.YtjpjijihehlnkaaW.PrintLast Go.Proofs.YtjpjijihehlnkaaW.PrintMore
/-- What stands under a key. -/
def mapAt.f (a0 : Int) : Option ByteArray := if a0 = 1 then some ⟨#[112, 113, 114]⟩ else if a0 = 2 then some ⟨#[48, 49]⟩ else none
def mapAt.es : Array MapEntry := #[{ key := .int .i64 1, val := .string ⟨#[112, 113, 114]⟩, born := 0 }, { key := .int .i64 2, val := .string ⟨#[48, 49]⟩, born := 1 }]
section
variable {P : Program} {ops : Array Oper} {rest : List Oper} {oi o2 o3 : Oper} {a : Act} {Q : Exit → Act → World → Prop} {W : World} {t kt et : TypeId} {es : Array MapEntry} {clock r : Nat}
theorem mapAt.put (ht : P.underlying t = some (.map kt et)) (hk : P.underlying kt = some (.int .i64)) (x : Int) (val : Value) (hb : W.heap[r]? = some (.map es clock)) (hf : Instr.findNow (.int .i64) (.int .i64 x) es.toList 0 = some none) :
    (Instr.mapUpdate t (.map (some r)) (.int .i64 x) val).run P W = .ok () { W with heap := W.heap.setIfInBounds r (.map (es.push { key := .int .i64 x, val := val, born := clock }) (clock + 1)) } := by
  have hc : (Instr.checkKey false 10000 kt (.int .i64 x)).run P W = .ok () W := MapKept.run_checkKey (k := .int .i64 x) hk (by simp [MapKept.IsKey]) false 9999
  simp [Instr.mapUpdate, run_underlying ht, MapKept.run_getObj_map hb, hc, MapKept.run_findKey hk hf, MapKept.run_setObj_map _ hb, Result.andThen]
theorem mapAt.get (ht : P.underlying t = some (.map kt et)) (hk : P.underlying kt = some (.int .i64)) (x : Int) {s : ByteArray} (hb : W.heap[r]? = some (.map mapAt.es clock)) (h : mapAt.f x = some s) :
    (Instr.lookup t (.map (some r)) (.int .i64 x) false).run P W = .ok (.string s) W := by
  have hc : (Instr.checkKey mapAt.es.isEmpty 10000 kt (.int .i64 x)).run P W = .ok () W := MapKept.run_checkKey (k := .int .i64 x) hk (by simp [MapKept.IsKey]) _ 9999
  have hf : ∃ i, Instr.findNow (.int .i64) (.int .i64 x) mapAt.es.toList 0 = some (some (i, .string s)) := by
    unfold mapAt.f at h
    by_cases h1 : x = 1
    · rw [if_pos h1] at h
      obtain rfl := Option.some.inj h
      subst h1; exact ⟨0, rfl⟩
    · rw [if_neg h1] at h
      by_cases h2 : x = 2
      · rw [if_pos h2] at h
        obtain rfl := Option.some.inj h
        subst h2; exact ⟨1, rfl⟩
      · rw [if_neg h2] at h; cases h
  obtain ⟨i, hf⟩ := hf
  simp [Instr.lookup, run_underlying ht, MapKept.run_getObj_map hb, hc, MapKept.run_findKey hk hf, Result.andThen]
theorem gmk (t : TypeId) (h : wpList P ops Q (oi :: rest) a W) (_ho : oi.op = .makeMap t none := by rfl) : wpList P ops Q (oi :: rest) a W := h
theorem glk (t : TypeId) {x y : Operand} (h : wpList P ops Q (oi :: rest) a W) (_ho : oi.op = .lookup t x y false := by rfl) : wpList P ops Q (oi :: rest) a W := h
/-- The map is made and filled. -/
theorem mapAt.made (N : Tmp) (ht : P.underlying t = some (.map kt et)) (hk : P.underlying kt = some (.int .i64)) (h : ∀ g w', Below W.heap.size W w' → w'.heap[g]? = some (.map mapAt.es 2) → wpList P ops Q rest (a.put (some N) (.map (some g))) w')
    (h1 : oi.op = .makeMap t none := by rfl) (d1 : oi.dst = some N := by rfl) (g1 : oi.guard = none := by rfl)
    (h2 : o2.op = .insert t (.tmp N) (.const (.int .i64 1)) (.const (.string ⟨#[112, 113, 114]⟩)) := by rfl) (d2 : o2.dst = none := by rfl) (g2 : o2.guard = none := by rfl)
    (h3 : o3.op = .insert t (.tmp N) (.const (.int .i64 2)) (.const (.string ⟨#[48, 49]⟩)) := by rfl) (d3 : o3.dst = none := by rfl) (g3 : o3.guard = none := by rfl)
    (he : (a.put (some N) (.map (some W.heap.size))).eval (.tmp N) = .map (some W.heap.size) := by rfl) : wpList P ops Q (oi :: o2 :: o3 :: rest) a W := by
  have r1 : (execOp a.eval oi).run P W = .ok (.value (.map (some W.heap.size))) (W.alloc (.map #[] 0)) := by
    unfold execOp
    simp [h1, Instr.makeMap]
  refine Kd.event_run g1 r1 ?_
  rw [d1]
  have b1 : (W.alloc (.map #[] 0)).heap[W.heap.size]? = some (.map #[] 0) := heap_alloc_new W _
  have u1 := mapAt.put (P := P) (W := W.alloc (.map #[] 0)) ht hk 1 (.string ⟨#[112, 113, 114]⟩) b1 rfl
  have r2 : (execOp (a.put (some N) (.map (some W.heap.size))).eval o2).run P (W.alloc (.map #[] 0)) = .ok .skip { W.alloc (.map #[] 0) with heap := (W.alloc (.map #[] 0)).heap.setIfInBounds W.heap.size (.map (#[].push { key := .int .i64 1, val := .string ⟨#[112, 113, 114]⟩, born := 0 }) (0 + 1)) } := by
    unfold execOp
    simp only [h2]
    rw [he]
    simp [Act.eval, u1, Result.andThen]
  refine wpList_plain g2 fun K hK => ?_
  unfold Oper.wp
  rw [r2]
  show K ((a.put (some N) (.map (some W.heap.size))).put o2.dst undef) _
  rw [d2]
  refine hK _ _ ?_
  generalize hW1 : ({ W.alloc (.map #[] 0) with heap := (W.alloc (.map #[] 0)).heap.setIfInBounds W.heap.size (.map (#[].push { key := .int .i64 1, val := .string ⟨#[112, 113, 114]⟩, born := 0 }) (0 + 1)) } : World) = W1
  have hs : W.heap.size < (W.alloc (.map #[] 0)).heap.size := by show W.heap.size < (W.heap.push _).size; simp
  have b2 : W1.heap[W.heap.size]? = some (.map #[{ key := .int .i64 1, val := .string ⟨#[112, 113, 114]⟩, born := 0 }] 1) := by
    rw [← hW1]
    show ((W.alloc (.map #[] 0)).heap.setIfInBounds W.heap.size _)[W.heap.size]? = _
    rw [Array.getElem?_setIfInBounds, if_pos rfl, if_pos hs]; rfl
  have f1 : Below W.heap.size W W1 := by
    rw [← hW1]
    refine ⟨rfl, rfl, rfl, by show W.heap.size ≤ ((W.heap.push _).setIfInBounds _ _).size; simp, fun i hi => ?_⟩
    show ((W.heap.push _).setIfInBounds W.heap.size _)[i]? = _
    rw [Array.getElem?_setIfInBounds, if_neg (by omega), Array.getElem?_push, if_neg (by omega)]
  have u2 := mapAt.put (P := P) (W := W1) ht hk 2 (.string ⟨#[48, 49]⟩) b2 rfl
  have r3 : (execOp (a.put (some N) (.map (some W.heap.size))).eval o3).run P W1 = .ok .skip { W1 with heap := W1.heap.setIfInBounds W.heap.size (.map (#[{ key := .int .i64 1, val := .string ⟨#[112, 113, 114]⟩, born := 0 }].push { key := .int .i64 2, val := .string ⟨#[48, 49]⟩, born := 1 }) (1 + 1)) } := by
    unfold execOp
    simp only [h3]
    rw [he]
    simp [Act.eval, u2, Result.andThen]
  refine wpList_plain g3 fun K hK => ?_
  unfold Oper.wp
  show Oper.upon _ _ _ _ _ ((execOp (a.put (some N) (.map (some W.heap.size))).eval o3).run P W1)
  rw [r3]
  show K ((a.put (some N) (.map (some W.heap.size))).put o3.dst undef) _
  rw [d3]
  refine hK _ _ (h _ _ ?_ ?_)
  · refine ⟨f1.os, f1.tape, f1.output, by show W.heap.size ≤ (W1.heap.setIfInBounds _ _).size; rw [Array.size_setIfInBounds]; exact f1.size, fun i hi => ?_⟩
    show (W1.heap.setIfInBounds W.heap.size _)[i]? = _
    rw [Array.getElem?_setIfInBounds, if_neg (by omega)]
    exact f1.block i hi
  · have hs1 : W.heap.size < W1.heap.size := (Array.getElem?_eq_some_iff.1 b2).1
    show (W1.heap.setIfInBounds W.heap.size _)[W.heap.size]? = _
    rw [Array.getElem?_setIfInBounds, if_pos rfl, if_pos hs1]; rfl
/-- .. and looked up. -/
theorem mapAt.look (N : Tmp) {g : Nat} {x : Int} {s : ByteArray} {p q : Operand} (ht : P.underlying t = some (.map kt et)) (hk : P.underlying kt = some (.int .i64)) (hb : W.heap[g]? = some (.map mapAt.es 2)) (hs : mapAt.f x = some s) (h : wpList P ops Q rest (a.put (some N) (.string s)) W)
    (h1 : oi.op = .lookup t p q false := by rfl) (d1 : oi.dst = some N := by rfl) (g1 : oi.guard = none := by rfl) (hp : a.eval p = .map (some g) := by rfl) (hq : a.eval q = .int .i64 x := by rfl) : wpList P ops Q (oi :: rest) a W := by
  have r1 : (execOp a.eval oi).run P W = .ok (.value (.string s)) W := by
    unfold execOp
    simp only [h1]
    rw [hp, hq]
    simp [mapAt.get ht hk x hb hs, Result.andThen]
  refine Kd.event_run g1 r1 ?_
  rw [d1]; exact h
end
end Go.Proofs.Ytjpjijihehlnkaa.Hof
