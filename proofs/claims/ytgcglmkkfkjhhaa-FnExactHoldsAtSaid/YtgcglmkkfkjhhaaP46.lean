/- Go functions of this seat as Lean functions, and the proofs that the calls come to what these say; printed by a program of this session. No condition. -/
import Derived.RangeFuncBox
import Derived.RangeFuncLeaves
import Derived.RangeFuncCalls
import Derived.RangeFuncNested
import Derived.Shelf.RegionOpen
import Derived.WalkKit
import Derived.OwnWalkIn
import Derived.TacticsInMore
import Derived.LoopNIn
import Derived.LoopIn
import Derived.Maps.AppendAt
import Derived.Test.YtgcglmkkfkjhhaaP0
import Derived.Test.YtgcglmkkfkjhhaaP21
import Derived.Test.YtgcglmkkfkjhhaaP31
import Derived.Test.YtgcglmkkfkjhhaaP32
import Derived.Test.YtgcglmkkfkjhhaaP33
import Derived.Test.YtgcglmkkfkjhhaaP37
import Derived.Test.YtgcglmkkfkjhhaaP43
namespace Go.Proofs.Ytgcglmkkfkjhhaa.P
open Go.RowKit Go.Proofs.YtgcglmkkfkjhhaaW.PrintWords Go.Proofs.YtgcglmkkfkjhhaaW.PrintLast Go.Proofs.YtgcglmkkfkjhhaaW.PrintMore Go.Proofs.Ytgcglmkkfkjhhaa.Hof
open Go.Shelf
attribute [local go_sem] Oper.semAt_some
attribute [local go_sem] max2_int min2_int max_two min_two max_three min_three max_four min_four   -- for this text's walks alone
set_option linter.unusedVariables false
set_option linter.unusedSimpArgs false

/-! ### impl_Lasso_along: function 22 -/
/-! ### Functions 51 and 49 (slices.Backward); a region of open order within a round, by the plain words -/
def ha_nodefer (ops : Array Oper) : Bool := ops.toList.all fun o => match o.op with | .defer _ => false | _ => true
theorem ha_wpOpIn {P : Program} {ops : Array Oper} {Q : Exit → Act → World → Prop} {l n i : Nat} {K : Act → World → Prop} {a : Act} {w : World} (hd : ha_nodefer ops = true) (hQ : ¬ LetsOut Q) (h : wpOp P ops Q i K a w) : wpOpIn (Fence.wide.inRound l) n P ops Q i K a w := by
  unfold wpOp at h
  unfold wpOpIn
  cases ho : ops[i]? with
  | none => simpa [ho] using h
  | some o =>
    simp only [ho] at h ⊢
    have hm : ∀ c, o.op ≠ .defer c := by
      intro c hc
      have h1 := List.all_eq_true.1 hd o (by rw [← Array.getElem?_toList] at ho; exact List.mem_of_getElem? ho)
      rw [hc] at h1
      cases h1
    split at h
    · rename_i hw
      rw [if_pos hw]
      rcases h with h | h
      · refine ⟨fun _ _ => trivial, ?_⟩
        unfold Oper.wp at h
        rw [Oper.semAt_eq _ _ _ hm]
        generalize (execOp a.eval o).run P w = r at *
        cases r with
        | ok x w' =>
          cases x <;> simp only [Oper.upon, Oper.uponIn] at h ⊢ <;> first
            | exact h
            | exact ⟨fun h_ => (by cases h_), CallsIn.inRound l (callsIn_wide.2 h)⟩
            | exact ⟨fun h_ => (by cases h_), fun c cs _ => let ⟨v, w'', r, s⟩ := h c cs; ⟨v, w'', r, (stepsIn_wide (P := P)).2 s⟩⟩
            | exact h.elim
        | halt x w' => cases x <;> simp only [Oper.upon, Oper.uponIn] at h ⊢ <;> exact h
      · exact absurd h.2 hQ
    · rename_i hw
      rw [if_neg hw]
      exact ⟨fun _ _ => trivial, h⟩
theorem ha_anyIn {P : Program} {ops : Array Oper} {Q : Exit → Act → World → Prop} {md : Region.Mode} {l n : Nat} (hd : ha_nodefer ops = true) (hQ : ¬ LetsOut Q) : ∀ (fuel : Nat) (listed : Array Bool) (a : Act) (w : World), wpAny P md ops Q fuel listed a w → wpAnyIn (Fence.wide.inRound l) n P md ops Q fuel listed a w
  | 0, _, _, _, h => h
  | fuel + 1, listed, a, w, h => ⟨h.1, fun i hi => ha_wpOpIn hd hQ (wpOp_mono (fun a' w' h' => ha_anyIn hd hQ fuel _ a' w' h') (h.2 i hi))⟩
/-- start_ within a round. -/
theorem ha_start {P : Program} {ops : Array Oper} {Q : Exit → Act → World → Prop} {S : World → Prop} {ds : List Nat} {id n m r : Nat} {a : Act} {w : World} (l : Array Bool) (hm : P.follows .mixedOrders = true) (hd : ha_nodefer ops = true) (hQ : ¬ LetsOut Q) (hn : ops.size = n) (hl : Array.replicate n false = l) (hS : S w.drew)
    (h : S w.drew → wpAnyLast P .any ops Q S ds n l a w.drew) : (Code.region id ops true).wpIn (Fence.wide.inRound r) m P Q a w := by
  subst hn
  subst hl
  exact wpIn_region_any hm (ha_anyIn hd hQ _ _ _ _ (wpAny_of_last _ _ _ _ (h hS)))
/-- Box B holds the slice of row g, of n cells, each a Bool. -/
def HaRow (n g c B : Nat) (W : World) : Prop := Boxed W B 48 (.slice (some ⟨g, 0, none⟩) n c) ∧ ∀ i < n, ∃ b, W.cell? ⟨g, i, none⟩ = some (.bool b)
set_option maxRecDepth 1000000 in
set_option maxHeartbeats 2000000 in
theorem ha_back1 (F : Fence) (d : Nat) (h51 : F.fn 51) (hro : F.round = none) (hd : 1 ≤ d) (l B g n c : Nat) (hn : n ≤ 1048576) (hnc : n ≤ c) (J Jx : List (Fin n × Bool) → World → Prop)
    (hY : ∀ pre (x : Fin n × Bool) W, J pre W → pre.length < n → YieldAt F (d - 1) Try.prog l #[.int .i64 (x.1.1 : Int), .bool x.2] W fun e W' =>
      (e = .returned (.bool true) ∧ J (pre ++ [x]) W' ∧ (HaRow n g c B W → HaRow n g c B W')) ∨ (e = .returned (.bool false) ∧ Jx (pre ++ [x]) W'))
    (W : World) (hH : HaRow n g c B W) (h0 : J [] W) :
    CallsIn F d Try.prog 51 #[.func (.yield l) #[] #[], .pointer (some ⟨B, 0, none⟩)] W fun e W' => (∃ v, e = .returned v) ∧
      ((∃ ys : List (Fin n × Bool), ys.map (·.1.1) = (List.range n).reverse ∧ J ys W') ∨ (∃ pre, True ∧ Jx pre W')) := by
  refine callsIn_of_wp Try.func51 rfl h51 ?_ hro
  simp only [Try.ntmps51, List.size_toArray, List.length_cons, List.length_nil, Nat.reduceAdd, Nat.reduceSub, Array.replicate_succ, Array.replicate_zero, List.push_toArray, List.append_toArray, List.nil_append, List.cons_append]
  have hcB := hH.1.cell
  gi_wp2
  gi_loopw [3] (fun i wr => ∃ (k : Nat) (j : Int) (pre : List (Fin n × Bool)), k ≤ n ∧ j = (k : Int) - 1 ∧ pre.map (·.1.1) ++ (List.range k).reverse = (List.range n).reverse ∧ i = .int .i64 j ∧ J pre wr ∧ HaRow n g c B wr)
    (fun i _ => (intOf i + 1).toNat)
  case atStart => exact ⟨n, _, [], Nat.le_refl _, rfl, by simp, rfl, h0, hH⟩
  case round =>
    obtain ⟨k, j, pre, hk, hj, hpre, rfl, hJs, hHs⟩ := hrel
    have hcs := hHs.1.cell
    cases k with
    | zero =>
      have hjn : ¬ (j ≥ 0) := by omega
      have hjb := decide_eq_false hjn
      gi_wp2
      go_end0
      exact ⟨⟨_, rfl⟩, .inl ⟨pre, by simpa using hpre, hJs⟩⟩
    | succ m =>
      obtain rfl : j = (m : Int) := by omega
      have hjn : (m : Int) ≥ 0 := by omega
      have hjb := decide_eq_true hjn
      have hmn : m < n := by omega
      have MN := hmn
      have hmz : (m : Int) < (n : Int) := by omega
      obtain ⟨b, hb⟩ := hHs.2 m hmn
      have hlen : pre.length < n := by have := congrArg List.length hpre; simp at this; omega
      obtain ⟨fn, tmps, assign, body, hy, hR⟩ := hY pre (⟨m, MN⟩, b) wr hJs hlen
      dsimp only at hy
      have HPRE := am_ hpre
      have HLEN := am_ hlen
      clear hpre hlen hcB hmn hj
      gi_wp2
      refine hR.mono ?_
      rintro e W3 (⟨rfl, hJ3, hk3⟩ | ⟨rfl, hJx3⟩)
      · have hH3 := hk3 hHs
        have hcs3 := hH3.1.cell
        gi_wp2
        go_roundw
        case rel => exact ⟨m, _, pre ++ [(⟨m, MN⟩, b)], by omega, rfl, by rw [← HPRE.out, List.map_append, List.range_succ, List.reverse_append]; simp, rfl, hJ3, hH3⟩
        case measure => simp [intOf]
      · gi_wp2
        refine bodyPost_ret (results_none rfl _ _ _) rfl ?_
        exact ⟨⟨_, rfl⟩, .inr ⟨_, trivial, hJx3⟩⟩
set_option maxHeartbeats 1000000 in
theorem ha_back (F : Fence) (n : Nat) (h49 : F.fn 49) (hro : F.round = none) (A : Option Addr) (m c : Nat) (w : World) :
    CallsIn F n Try.prog 49 #[.slice A m c] w fun e w' => e = .returned (.func (.func 51) #[] #[.pointer (some ⟨w.heap.size, 0, none⟩)]) ∧ w' = w.alloc (.cells #[.slice A m c] 48) := by
  refine callsIn_of_wp Try.func49 rfl h49 ?_ hro
  simp only [Try.ntmps49, List.size_toArray, List.length_cons, List.length_nil, Nat.reduceAdd, Nat.reduceSub, Array.replicate_succ, Array.replicate_zero, List.push_toArray, List.append_toArray, List.nil_append, List.cons_append]
  gi_wp2
  go_ret
  exact ⟨rfl, rfl⟩
theorem HaRow.below {n g c B : Nat} {W W' : World} (h : HaRow n g c B W) (hb : Below W.heap.size W W') : HaRow n g c B W' :=
  ⟨(hb.block B h.1.lt).trans h.1, fun i hi => by obtain ⟨b, hc⟩ := h.2 i hi; exact ⟨b, (hb.cell (p := ⟨g, i, none⟩) (World.block_lt_of_cell? W _ hc)).trans hc⟩⟩
theorem ha_stops (d : Nat) (hd : 1 ≤ d) (B g n c : Nat) (hn : n ≤ 1048576) (hnc : n ≤ c) (w0 : World) (hH : HaRow n g c B w0) :
    SeqStopsK Fence.wide d Try.prog 51 #[.pointer (some ⟨B, 0, none⟩)] (fun x : Fin n × Bool => #[.int .i64 (x.1.1 : Int), .bool x.2]) (fun X Y => HaRow n g c B X → HaRow n g c B Y) (fun ys => ys.map (·.1.1) = (List.range n).reverse) (fun _ => True) n w0 := fun l J Jx W hW _ _ hY h0 =>
  ha_back1 Fence.wide d trivial rfl hd l B g n c hn hnc J Jx hY W (hH.below hW) h0

/-! ### impl_Lasso_fixed: function 41, whatever the rule -/
def ha_next (n s k : Nat) : Nat := if k + 1 < n then k + 1 else s
def ha_step (n s : Nat) (R : Nat → Bool → Bool) (xs : List Bool) (k : Nat) : List Bool := xs.set k (R k (xs.getD (ha_next n s k) false))
def ha_turn (n s : Nat) (R : Nat → Bool → Bool) (xs : List Bool) : List Bool := ((List.range n).reverse).foldl (ha_step n s R) xs
def ha_fixed (s l : Nat) (b : Bool) (R : Nat → Bool → Bool) : List Bool := ha_turn (s + l) s R (ha_turn (s + l) s R (List.replicate (s + l) b))
theorem ha_next_eq (S L : List Int) (hs : S.length ≤ 24) (hl : L.length ≤ 24) (k : Nat) (hk : k < S.length + L.length) : impl_Lasso_nextPlace.f S L (k : Int) = some ((ha_next (S.length + L.length) S.length k : Nat) : Int) := by
  unfold impl_Lasso_nextPlace.f ha_next
  rw [show wrap64 ((k : Int) + 1) = (k : Int) + 1 by unfold wrap64; omega, show wrap64 ((S.length : Int) + (L.length : Int)) = (S.length : Int) + (L.length : Int) by unfold wrap64; omega]
  by_cases h : k + 1 < S.length + L.length
  · rw [if_pos (by omega), if_pos h]; rfl
  · rw [if_neg (by omega), if_neg h]
theorem ha_next_lt {n s k : Nat} (hs : s < n) : ha_next n s k < n := by unfold ha_next; split <;> omega
theorem ha_step_length (n s : Nat) (R : Nat → Bool → Bool) (xs : List Bool) (k : Nat) : (ha_step n s R xs k).length = xs.length := by simp [ha_step]
theorem ha_fold_length (n s : Nat) (R : Nat → Bool → Bool) : ∀ (ks : List Nat) (xs : List Bool), (ks.foldl (ha_step n s R) xs).length = xs.length
  | [], _ => rfl
  | k :: ks, xs => by rw [List.foldl_cons, ha_fold_length n s R ks, ha_step_length]
/-- Between two rounds: what lies in memory. -/
structure HaSt (w : World) (n c g bl br bO : Nat) (VS VL fv : Value) (xs : List Bool) (W : World) : Prop where
  b : Below w.heap.size w W
  hl : W.heap[bl]? = some (.cells #[VS, VL] 32 (0, 0))
  hr : W.heap[br]? = some (.cells #[fv] 64 (0, 0))
  ho : W.heap[bO]? = some (.cells #[.slice (some ⟨g, 0, none⟩) n c] 48 (0, 0))
  hR : Kd.R Kd.bool 4 W w.heap.size (fun k => k = g) (.slice (some ⟨g, 0, none⟩) n c) xs
  ne : bl ≠ g ∧ br ≠ g ∧ bO ≠ g
section
variable {w W W1 : World} {n c g bl br bO : Nat} {VS VL fv : Value} {xs : List Bool}
theorem ha_keep {X Y : World} {row : Option Nat} {B b : Nat} {cs : Array Value} {t : TypeId} (hb : X.heap[b]? = some (.cells cs t (0, 0))) (hg : X.grownBy Y row) (hr : ∀ r, row = some r → B ≤ r ∧ ∃ o : Obj, X.heap[r]? = some o ∧ o.isCells = false) : some b ≠ row ∧ Y.heap[b]? = some (.cells cs t (0, 0)) := by
  have h1 : some b ≠ row := fun e => by
    obtain ⟨_, o, ho, hc⟩ := hr b e.symm
    rw [hb] at ho
    cases ho
    cases hc
  exact ⟨h1, (hg.block b (blk_lt hb) h1).trans hb⟩
theorem ha_bg {w0 W W2 : World} {row : Option Nat} (hB : Below w0.heap.size w0 W) (hg : W.grownBy W2 row) (hr : ∀ k, row = some k → w0.heap.size ≤ k) : Below w0.heap.size w0 W2 :=
  ⟨hg.os.trans hB.os, hg.tape.trans hB.tape, hg.output.trans hB.output, Nat.le_trans hB.size hg.size, fun i hi => (hg.block i (Nat.lt_of_lt_of_le hi hB.size) (fun e => by have := hr i e.symm; omega)).trans (hB.block i hi)⟩
theorem HaSt.below (h : HaSt w n c g bl br bO VS VL fv xs W) (hb : Below W.heap.size W W1) : HaSt w n c g bl br bO VS VL fv xs W1 :=
  ⟨below_step h.b hb, blk_below h.hl hb, blk_below h.hr hb, blk_below h.ho hb, Kd.R_below h.hR hb, h.ne⟩
theorem HaSt.own {β : Type} (B : Nat) (hB : w.heap.size ≤ B) (f : β → List Bool) : OwnFrom B (fun s W => HaSt w n c g bl br bO VS VL fv (f s) W) := fun s X Y row hs hg hr =>
  ⟨ha_bg hs.b hg (fun k e => Nat.le_trans hB (hr k e).1), (ha_keep hs.hl hg hr).2, (ha_keep hs.hr hg hr).2, (ha_keep hs.ho hg hr).2, Kd.R_grown hs.hR hg (fun k hk => by
    obtain ⟨cells, hc⟩ := Kd.R_typed hs.hR g rfl
    rw [hk]
    exact (ha_keep hc hg hr).1), hs.ne⟩
theorem HaSt.len (h : HaSt w n c g bl br bO VS VL fv xs W) : xs.length = n := (Kd.R_reads' h.hR).1.symm
theorem HaSt.base (h : HaSt w n c g bl br bO VS VL fv xs W) : w.heap.size ≤ g := Kd.R_base h.hR g rfl
theorem HaSt.set (h : HaSt w n c g bl br bO VS VL fv xs W) (i : Nat) (y : Bool) : HaSt w n c g bl br bO VS VL fv (xs.set i y) (W.setCell ⟨g, i, none⟩ (.bool y)) := by
  have hp := Kd.R_putn h.hR (i : Int) y
  rw [Int.toNat_natCast] at hp
  exact ⟨h.b.setCell (p := ⟨g, i, none⟩) h.base _, blk_far h.hl h.ne.1 _, blk_far h.hr h.ne.2.1 _, blk_far h.ho h.ne.2.2 _, hp, h.ne⟩
theorem HaSt.cell (h : HaSt w n c g bl br bO VS VL fv xs W) (i : Nat) (hi : i < n) : W.cell? ⟨g, i, none⟩ = some (.bool (xs.getD i false)) ∧ W.frozen? ⟨g, i, none⟩ = false := by
  have := Kd.R_celln false h.hR (i : Int) (by omega) (by omega)
  rw [Int.toNat_natCast] at this
  simpa [rdOf] using this
theorem HaSt.row (h : HaSt w n c g bl br bO VS VL fv xs W) : ∀ i < n, ∃ b, W.cell? ⟨g, i, none⟩ = some (.bool b) := fun i hi => ⟨_, (h.cell i hi).1⟩
end
theorem ha_keeps {W W2 : World} (h : Below W.heap.size W W2) : KeepsOthers W W2 := ⟨h.size, fun k o hk _ => (h.block k (Array.getElem?_eq_some_iff.1 hk).1).trans hk⟩
def impl_Lasso_fixed.T6 : Bool × List (List Nat × List Nat) := (true, [([], []), ([], []), ([], []), ([], []), ([], []), ([], []), ([], []), ([5, 6], [5, 6]), ([4, 7], [4, 7]), ([8], [8]), ([2, 3, 9, 7], [2, 3, 9]), ([0, 1, 0, 1, 2, 3, 4, 5, 6, 7, 8, 9, 10], [0, 1]), ([11, 10, 10, 0, 1, 2, 3, 4, 5, 6, 7, 8, 9, 10], [10, 11])])
def impl_Lasso_fixed.B6 : List Nat := [0, 0, 0, 0, 0, 0, 0, 96, 240, 496, 1020, 2047, 4095]
def ha_marks (ds : List Nat) (W : World) : Prop := ∀ D ∈ ds, W.heap[D]? = some (.deferred (some []))
theorem ha_marks.own {β : Type} {ds : List Nat} {B : Nat} (hB : ∀ D ∈ ds, D < B) : OwnFrom B (fun (_ : β) W => ha_marks ds W) := fun _ X Y row hs hg hr D hD =>
  (hg.block D (Array.getElem?_eq_some_iff.1 (hs D hD)).1 (fun e => by have := (hr D e.symm).1; have := hB D hD; omega)).trans (hs D hD)
theorem ha_marks.keeps {ds : List Nat} {W W' : World} (h : ha_marks ds W) (hk : KeepsOthers W W') : ha_marks ds W' := fun D hD => hk.same D _ (h D hD) rfl
theorem ha_marks.lt {ds : List Nat} {W : World} (h : ha_marks ds W) : ∀ D ∈ ds, D < W.heap.size := fun D hD => (Array.getElem?_eq_some_iff.1 (h D hD)).1
theorem ha_marks.below {ds : List Nat} {W W' : World} (h : ha_marks ds W) (hb : Below W.heap.size W W') : ha_marks ds W' := fun D hD => (hb.block D (h.lt D hD)).trans (h D hD)
theorem ha_one (W : World) (b : Bool) : Kd.C Kd.bool (W.alloc (.cells #[.bool b] 4 (0, 0))) (some ⟨W.heap.size, 0, none⟩) 1 [b] := by
  have ho : (W.alloc (.cells #[.bool b] 4 (0, 0))).ownsRow W.heap.size 4 1 (.slice (some ⟨W.heap.size, 0, none⟩) 1 1) 1 [.bool b] :=
    ⟨rfl, .inr ⟨W.heap.size, 1, #[.bool b], rfl, Nat.le_refl _, World.alloc_heap_new _ _, Nat.le_refl _, by simp [maxLen], rfl, rfl⟩⟩
  have hR : Kd.R Kd.bool 4 (W.alloc (.cells #[.bool b] 4 (0, 0))) W.heap.size (fun _ => True) (.slice (some ⟨W.heap.size, 0, none⟩) 1 1) [b] := Kd.R_of_own (h1 := fun _ => rfl) (xs := [b]) ho (fun _ _ => trivial)
  exact (Kd.R_reads' hR).2.2
set_option maxRecDepth 100000 in
set_option maxHeartbeats 4000000 in
theorem impl_Lasso_fixed.gen (gf : Nat) (lb : Array Value) (eg : ∀ args w, (callFunc gf args).run Try.prog w = .ok (.enter gf args) w) (R : Nat → Bool → Bool) (from_ : Bool) (A0 : Option Addr) (c0 : Nat) (S : List Int) (A1 : Option Addr) (c1 : Nat) (L : List Int) (w : World) (hr0 : Kd.C (Kd.int .i64) w A0 S.length S) (hc0 : S.length ≤ c0) (hr1 : Kd.C (Kd.int .i64) w A1 L.length L) (hc1 : L.length ≤ c1) (hS : S.length ≤ 24) (hL1 : 1 ≤ L.length) (hL : L.length ≤ 24)
  (hp : ∀ (W : World) (i : Nat) (x : Bool), Below w.heap.size w W → i < S.length + L.length → Calls Try.prog gf (#[.int .i64 (i : Int), .bool x] ++ lb) W fun e w' => e = .returned (.bool (R i x)) ∧ Below W.heap.size W w') :
  Calls Try.prog 41 #[.agg #[.slice A0 S.length c0, .slice A1 L.length c1], .bool from_, .func (.func gf) #[] lb] w fun e w' => ∃ v, e = .returned v ∧ Kd.R Kd.bool 4 w' w.heap.size (fun _ => True) v (ha_fixed S.length L.length from_ R) ∧ Below w.heap.size w w' := by
  have HN := am_ (ha_next_eq S L hS hL)
  have HR0 := am_ hr0
  have HC0 := am_ hc0
  have HR1 := am_ hr1
  have HC1 := am_ hc1
  have HP := am_ hp
  clear hr0 hc0 hr1 hc1 hp
  have HB := am_ (Below.refl w.heap.size w)
  obtain ⟨n, hn⟩ : ∃ n, n = S.length + L.length := ⟨_, rfl⟩
  have hzw : IntKind.i64.wrap ((S.length : Int) + (L.length : Int)) = (n : Int) := by rw [i64_w]; unfold wrap64; omega
  have hF : slices_Repeat_bool_bool.f [from_] (n : Int) = some (List.replicate n from_) := by
    unfold slices_Repeat_bool_bool.f
    rw [if_pos ⟨rfl, by omega, by omega⟩, Int.toNat_natCast]
    rfl
  have HF := am_ hF
  have HNN := am_ hn
  clear hF hn
  have hd : 1 ≤ 5 := by omega
  refine (callsIn_wide (n := 5)).1 ?_
  refine callsIn_of_wp_marks Try.func41 rfl trivial ?_ rfl
  simp only [Try.ntmps41, List.size_toArray, List.length_cons, List.length_nil, Nat.reduceAdd, Nat.reduceSub, Array.replicate_succ, Array.replicate_zero, List.push_toArray, List.append_toArray, List.nil_append, List.cons_append]
  gi_wp2
  refine ⟨trivial, (callsIn_wide.2 (slices_Repeat_bool_bool.calls (some ⟨w.heap.size + 1 + 1, 0, none⟩) 1 [from_] (n : Int) (List.replicate n from_) _ ?hc (Nat.le_refl _) HF.out)).mono ?_⟩
  case hc =>
    have h_ := ha_one ((w.alloc (.cells #[.slice A0 S.length c0, .slice A1 L.length c1] 32)).alloc (.cells #[.func (.func gf) #[] lb] 64)) from_
    rw [World.size_alloc, World.size_alloc] at h_
    exact h_
  rintro e w3 ⟨v3, rfl, ho, hb⟩
  obtain ⟨g, c, rfl, hg1, hg2, _⟩ := Kd.R_form ho (by rw [List.length_replicate]; have := HNN.out; omega)
  rw [List.length_replicate] at ho ⊢
  simp only [World.size_alloc] at hg1
  have hl1 := World.alloc_heap_new w (.cells #[.slice A0 S.length c0, .slice A1 L.length c1] 32)
  have hr1 := World.alloc_heap_new (w.alloc (.cells #[.slice A0 S.length c0, .slice A1 L.length c1] 32)) (.cells #[.func (.func gf) #[] lb] 64)
  rw [World.size_alloc] at hr1
  have HS0 := am_ (show HaSt w n c g w.heap.size (w.heap.size + 1) w3.heap.size (.slice A0 S.length c0) (.slice A1 L.length c1) (.func (.func gf) #[] lb) (List.replicate n from_) (w3.alloc (.cells #[.slice (some ⟨g, 0, none⟩) n c] 48)) from
    ⟨below_alloc (below_step (below_alloc (below_alloc (below_alloc (Below.refl _ _) _) _) _) hb) _,
     blk_below (blk_below (blk_below (blk_below hl1 (below_alloc (Below.refl _ _) _)) (below_alloc (Below.refl _ _) _)) hb) (below_alloc (Below.refl _ _) _),
     blk_below (blk_below (blk_below hr1 (below_alloc (Below.refl _ _) _)) hb) (below_alloc (Below.refl _ _) _),
     World.alloc_heap_new _ _,
     Kd.R_flat (fun h => h) (Kd.R_lower (Kd.R_alloc ho _) (by simp only [World.size_alloc]; omega)) (fun k hk _ => by cases hk; rfl),
     by omega, by omega, by omega⟩)
  clear ho hg1 hg2 hb hl1 hr1 hzw
  gi_wp2
  generalize w3.alloc (.cells #[.slice (some ⟨g, 0, none⟩) n c] 48) = X0 at HS0 ⊢
  generalize w3.heap.size = bO at HS0 ⊢
  have hcO := Sh.bc HS0.out.ho 0
  refine wpIn_loop_rounds 3 ?_
  rw [roundsIn_succ]
  gi_wp2
  refine ⟨trivial, (ha_back Fence.wide _ trivial rfl _ _ _ _).mono ?_⟩
  rintro e w4 ⟨rfl, rfl⟩
  have HB0 := am_ (Boxed.new X0 48 (.slice (some ⟨g, 0, none⟩) n c))
  have HM0 := am_ (show ha_marks [] (X0.alloc (.cells #[.slice (some ⟨g, 0, none⟩) n c] 48)) from ha_marks.below (W := X0) (fun D hD => (by cases hD)) (below_alloc (Below.refl _ _) _))
  have HT0 := am_ (HS0.out.below (below_alloc (Below.refl _ _) (.cells #[.slice (some ⟨g, 0, none⟩) n c] 48)))
  gi_wp2
  generalize X0.alloc (.cells #[.slice (some ⟨g, 0, none⟩) n c] 48) = Y0 at HB0 HT0 HM0 ⊢
  generalize X0.heap.size = B0 at HB0 ⊢
  refine wpIn_rangeFunc_ownG rfl hd (gf := 51) (lb := #[.pointer (some ⟨B0, 0, none⟩)]) rfl trivial (enters_of Try.func51 (by kernel_rfl) rfl)
    (ha_stops (5 - 1) (by omega) B0 g n c (by have := HNN.out; omega) (Kd.R_reads' HT0.out.hR).2.1 Y0 ⟨HB0.out, HT0.out.row⟩) (fun h k x => k (h x))
    (fun W l o o' _ hl hc _ hH => ⟨(World.putObj_heap_other (fun e => by subst e; rw [show W.heap[B0]? = _ from hH.1] at hl; cases hl; cases hc)).trans hH.1, fun i hi => by obtain ⟨b, hb⟩ := hH.2 i hi; exact ⟨b, cell_kept hb (grownBy_putObj' W l o') (fun r e => by cases e; exact ⟨_, hl, hc⟩)⟩⟩) (Below.refl _ _) (fun _ => rfl)
    (fun pre W => HaSt w n c g w.heap.size (w.heap.size + 1) bO (.slice A0 S.length c0) (.slice A1 L.length c1) (.func (.func gf) #[] lb) ((pre.map (·.1.1)).foldl (ha_step n S.length R) (List.replicate n from_)) W ∧ ha_marks [] W)
    (fun _ _ _ => False) (OwnFrom.and (HaSt.own _ HT0.out.b.size _) (ha_marks.own HM0.out.lt)) (fun _ _ _ _ _ hs _ _ => hs) ⟨HT0.out, HM0.out⟩ ?a1_0 ?assign ?body ?done ?stop
  case assign =>
    intro l x W K hK
    gi_wp2
    exact hK
  case stop =>
    rintro D c pre W hD _ h _
    exact h.elim
  case body =>
    rintro l pre ⟨⟨i, hin⟩, bx⟩ W ⟨hSt, hMk⟩ hlt
    obtain ⟨xs, hxs⟩ : ∃ xs, xs = (pre.map (·.1.1)).foldl (ha_step n S.length R) (List.replicate n from_) := ⟨_, rfl⟩
    rw [← hxs] at hSt
    have HX := am_ hxs
    have HW := am_ hSt
    have HMk := am_ hMk
    clear hxs hSt hlt hMk
    have hcO := Sh.bc HW.out.ho 0
    gi_wp2
    have hmx : Try.prog.follows .mixedOrders = true := by kernel_rfl
    obtain ⟨nx, hnx⟩ : ∃ nx, nx = ha_next n S.length i := ⟨_, rfl⟩
    have nxn : nx < n := by rw [hnx]; exact ha_next_lt (by have := HNN.out; omega)
    have hNx := HN.out i (by have := HNN.out; omega)
    rw [← HNN.out, ← hnx] at hNx
    have HNx := am_ hNx
    have HNX := am_ hnx
    clear hNx hnx hcO
    have HW1 := am_ (HW.out.below (below_drew (Below.refl _ W)))
    have HBW := am_ (below_drew (Below.refl W.heap.size W))
    have pn := eq_true (show 0 ≤ (nx : Int) by omega)
    have qn := eq_true (show (nx : Int) < (n : Int) by omega)
    have pi := eq_true (show 0 ≤ (i : Int) by omega)
    have qi := eq_true (show (i : Int) < (n : Int) by omega)
    refine ha_start (n := 13) (S := fun w' => w'.cell? ⟨bO, 0, none⟩ = some (.slice (some ⟨g, 0, none⟩) n c) ∧ w'.cell? ⟨w.heap.size + 1, 0, none⟩ = some (.func (.func gf) #[] lb) ∧ w'.cell? ⟨w.heap.size, 0, none⟩ = some (.slice A0 S.length c0) ∧ w'.cell? ⟨w.heap.size, 1, none⟩ = some (.slice A1 L.length c1) ∧ w'.cell? ⟨g, nx, none⟩ = some (.bool (xs.getD nx false))) (ds := [12]) (Sh.nm 13 0) hmx (by kernel_rfl) (by rintro ⟨_, _, h_⟩; exact h_) rfl rfl ⟨Sh.bc HW1.out.ho 0, Sh.bc HW1.out.hr 0, Sh.bc HW1.out.hl 0, Sh.bc HW1.out.hl 1, (HW1.out.cell nx nxn).1⟩ (fun hHeld => ?_)
    refine with_tabW (T := impl_Lasso_fixed.T6) (B := impl_Lasso_fixed.B6) (by kernel_rfl) (by kernel_rfl) (fun HT_ HW_ => ?_)
    generalize W.drew = w1 at HW1 HBW hHeld ⊢
    refine Sh.qA 1 ?_; refine Sh.qA 3 ?_; refine Sh.qA 6 ?_; refine Sh.qT 0 hHeld ?_; refine Sh.qT 2 hHeld ?_; refine Sh.qT 4 hHeld ?_; refine Sh.qT 5 hHeld ?_
    refine Sh.oC 7 Try.func45 #[.agg #[.slice A0 S.length c0, .slice A1 L.length c1], .int .i64 (i : Int)] fun K hK => ?_
    with_reducible refine (impl_Lasso_nextPlace.calls _ _ S _ _ L (i : Int) (nx : Int) _ (Kd.C_below HR0.out HW1.out.b) HC0.out (Kd.C_below HR1.out HW1.out.b) HC1.out HNx.out).mono ?_
    rintro e w2 ⟨rfl, hb⟩
    refine ⟨_, rfl, ?_⟩
    have HW2 := am_ (HW1.out.below hb)
    replace HBW := am_ (below_step HBW.out hb)
    clear hb HW1
    refine Sh.kN hK ⟨Sh.bc HW2.out.ho 0, Sh.bc HW2.out.hr 0, Sh.bc HW2.out.hl 0, Sh.bc HW2.out.hl 1, (HW2.out.cell nx nxn).1⟩ fun hHeld => ?_
    clear hK K
    refine Sh.qA 8 ?_; refine Sh.qT 9 hHeld ?_
    refine one_ (i := 10) (N := some 35) (Sh.nm 13 2047) rfl rfl (one_of HT_.out (by kernel_rfl)) (by decide) (fun K hK => ?_)
    refine call_ gf (#[.int .i64 (i : Int), .bool (xs.getD nx false)] ++ lb) (by rfl) rfl (by unfold execOp; simp [resolve, Deferred.ofValue, invoke, Act.eval, eg]) ?_
    refine (HP.out _ i _ HW2.out.b (by have := HNN.out; omega)).mono ?_
    rintro e w3 ⟨rfl, hb⟩
    refine ⟨_, rfl, ?_⟩
    have HW3 := am_ (HW2.out.below hb)
    replace HBW := am_ (below_step HBW.out hb)
    clear hb HW2
    refine Sh.kN hK ⟨Sh.bc HW3.out.ho 0, Sh.bc HW3.out.hr 0, Sh.bc HW3.out.hl 0, Sh.bc HW3.out.hl 1, (HW3.out.cell nx nxn).1⟩ fun hHeld => ?_
    clear hK K
    refine Sh.qA 11 ?_
    obtain ⟨hxi, hfi⟩ := HW3.out.cell i hin
    refine last_ (i := 12) (N := none) (Sh.nm 13 8191) rfl rfl (one_of HT_.out (by kernel_rfl)) (by decide) (fun K hK => ?_)
    refine skip_ (w1 := ?_) (by rfl) rfl ?_ ?_
    rotate_left
    · go_simp
      rfl
    refine hK.out _ _ ?_
    clear hK K
    refine done_ (done_of HT_.out (by kernel_rfl)) ?_
    have HW4 := HW3.out.set i (R i (xs.getD nx false))
    have e_ : ((pre ++ [((⟨i, hin⟩, bx) : Fin n × Bool)]).map (·.1.1)).foldl (ha_step n S.length R) (List.replicate n from_) = xs.set i (R i (xs.getD nx false)) := by
      rw [List.map_append, List.foldl_append, ← HX.out, HNX.out]
      rfl
    rw [← e_] at HW4
    have hKO := (ha_keeps HBW.out).trans (KeepsOthers.setCell w3 ⟨g, i, none⟩ (.bool (R i (xs.getD nx false))))
    exact ⟨hKO.from _, fun hH => ⟨blk_far (blk_below hH.1 HBW.out) (fun e => Kd.R_ne HW.out.hR hH.1 (by decide) (by rw [e]; rfl)) _, HW4.row⟩, HW4, HMk.out.keeps hKO⟩
  case done =>
    rintro D0 ys X1 hD0 hys ⟨hSt, hm0⟩ hK0
    rw [hys] at hSt
    have HS1 := am_ (show HaSt w n c g w.heap.size (w.heap.size + 1) bO (.slice A0 S.length c0) (.slice A1 L.length c1) (.func (.func gf) #[] lb) (ha_turn n S.length R (List.replicate n from_)) X1 from hSt)
    clear hSt hys
    have hcO := Sh.bc HS1.out.ho 0
    have HK0 := am_ hK0
    have HD0 := am_ hD0
    have HMM0 := am_ hm0
    clear hK0 hD0 hm0
    gi_wp2
    rw [roundsIn_succ]
    gi_wp2
    refine ⟨trivial, (ha_back Fence.wide _ trivial rfl _ _ _ _).mono ?_⟩
    rintro e w4 ⟨rfl, rfl⟩
    have HB1 := am_ (Boxed.new X1 48 (.slice (some ⟨g, 0, none⟩) n c))
    have HM1 := am_ (show ha_marks [D0] (X1.alloc (.cells #[.slice (some ⟨g, 0, none⟩) n c] 48)) from ha_marks.below (W := X1) (fun D hD => (by rw [List.mem_singleton.1 hD]; exact HK0.out)) (below_alloc (Below.refl _ _) _))
    have HT1 := am_ (HS1.out.below (below_alloc (Below.refl _ _) (.cells #[.slice (some ⟨g, 0, none⟩) n c] 48)))
    gi_wp2
    generalize X1.alloc (.cells #[.slice (some ⟨g, 0, none⟩) n c] 48) = Y1 at HB1 HT1 HM1 ⊢
    generalize X1.heap.size = B1 at HB1 ⊢
    refine wpIn_rangeFunc_ownG rfl hd (gf := 51) (lb := #[.pointer (some ⟨B1, 0, none⟩)]) rfl trivial (enters_of Try.func51 (by kernel_rfl) rfl)
      (ha_stops (5 - 1) (by omega) B1 g n c (by have := HNN.out; omega) (Kd.R_reads' HT1.out.hR).2.1 Y1 ⟨HB1.out, HT1.out.row⟩) (fun h k x => k (h x))
      (fun W l o o' _ hl hc _ hH => ⟨(World.putObj_heap_other (fun e => by subst e; rw [show W.heap[B1]? = _ from hH.1] at hl; cases hl; cases hc)).trans hH.1, fun i hi => by obtain ⟨b, hb⟩ := hH.2 i hi; exact ⟨b, cell_kept hb (grownBy_putObj' W l o') (fun r e => by cases e; exact ⟨_, hl, hc⟩)⟩⟩) (Below.refl _ _) (fun _ => rfl)
      (fun pre W => HaSt w n c g w.heap.size (w.heap.size + 1) bO (.slice A0 S.length c0) (.slice A1 L.length c1) (.func (.func gf) #[] lb) ((pre.map (·.1.1)).foldl (ha_step n S.length R) (ha_turn n S.length R (List.replicate n from_))) W ∧ ha_marks [D0] W)
      (fun _ _ _ => False) (OwnFrom.and (HaSt.own _ HT1.out.b.size _) (ha_marks.own HM1.out.lt)) (fun _ _ _ _ _ hs _ _ => hs) ⟨HT1.out, HM1.out⟩ ?a1_1 ?assign ?body ?done ?stop
    case assign =>
      intro l x W K hK
      gi_wp2
      exact hK
    case stop =>
      rintro D c pre W hD _ h _
      exact h.elim
    case body =>
      rintro l pre ⟨⟨i, hin⟩, bx⟩ W ⟨hSt, hMk⟩ hlt
      obtain ⟨xs, hxs⟩ : ∃ xs, xs = (pre.map (·.1.1)).foldl (ha_step n S.length R) (ha_turn n S.length R (List.replicate n from_)) := ⟨_, rfl⟩
      rw [← hxs] at hSt
      have HX := am_ hxs
      have HW := am_ hSt
      have HMk := am_ hMk
      clear hxs hSt hlt hMk
      have hcO := Sh.bc HW.out.ho 0
      gi_wp2
      have hmx : Try.prog.follows .mixedOrders = true := by kernel_rfl
      obtain ⟨nx, hnx⟩ : ∃ nx, nx = ha_next n S.length i := ⟨_, rfl⟩
      have nxn : nx < n := by rw [hnx]; exact ha_next_lt (by have := HNN.out; omega)
      have hNx := HN.out i (by have := HNN.out; omega)
      rw [← HNN.out, ← hnx] at hNx
      have HNx := am_ hNx
      have HNX := am_ hnx
      clear hNx hnx hcO
      have HW1 := am_ (HW.out.below (below_drew (Below.refl _ W)))
      have HBW := am_ (below_drew (Below.refl W.heap.size W))
      have pn := eq_true (show 0 ≤ (nx : Int) by omega)
      have qn := eq_true (show (nx : Int) < (n : Int) by omega)
      have pi := eq_true (show 0 ≤ (i : Int) by omega)
      have qi := eq_true (show (i : Int) < (n : Int) by omega)
      refine ha_start (n := 13) (S := fun w' => w'.cell? ⟨bO, 0, none⟩ = some (.slice (some ⟨g, 0, none⟩) n c) ∧ w'.cell? ⟨w.heap.size + 1, 0, none⟩ = some (.func (.func gf) #[] lb) ∧ w'.cell? ⟨w.heap.size, 0, none⟩ = some (.slice A0 S.length c0) ∧ w'.cell? ⟨w.heap.size, 1, none⟩ = some (.slice A1 L.length c1) ∧ w'.cell? ⟨g, nx, none⟩ = some (.bool (xs.getD nx false))) (ds := [12]) (Sh.nm 13 0) hmx (by kernel_rfl) (by rintro ⟨_, _, h_⟩; exact h_) rfl rfl ⟨Sh.bc HW1.out.ho 0, Sh.bc HW1.out.hr 0, Sh.bc HW1.out.hl 0, Sh.bc HW1.out.hl 1, (HW1.out.cell nx nxn).1⟩ (fun hHeld => ?_)
      refine with_tabW (T := impl_Lasso_fixed.T6) (B := impl_Lasso_fixed.B6) (by kernel_rfl) (by kernel_rfl) (fun HT_ HW_ => ?_)
      generalize W.drew = w1 at HW1 HBW hHeld ⊢
      refine Sh.qA 1 ?_; refine Sh.qA 3 ?_; refine Sh.qA 6 ?_; refine Sh.qT 0 hHeld ?_; refine Sh.qT 2 hHeld ?_; refine Sh.qT 4 hHeld ?_; refine Sh.qT 5 hHeld ?_
      refine Sh.oC 7 Try.func45 #[.agg #[.slice A0 S.length c0, .slice A1 L.length c1], .int .i64 (i : Int)] fun K hK => ?_
      with_reducible refine (impl_Lasso_nextPlace.calls _ _ S _ _ L (i : Int) (nx : Int) _ (Kd.C_below HR0.out HW1.out.b) HC0.out (Kd.C_below HR1.out HW1.out.b) HC1.out HNx.out).mono ?_
      rintro e w2 ⟨rfl, hb⟩
      refine ⟨_, rfl, ?_⟩
      have HW2 := am_ (HW1.out.below hb)
      replace HBW := am_ (below_step HBW.out hb)
      clear hb HW1
      refine Sh.kN hK ⟨Sh.bc HW2.out.ho 0, Sh.bc HW2.out.hr 0, Sh.bc HW2.out.hl 0, Sh.bc HW2.out.hl 1, (HW2.out.cell nx nxn).1⟩ fun hHeld => ?_
      clear hK K
      refine Sh.qA 8 ?_; refine Sh.qT 9 hHeld ?_
      refine one_ (i := 10) (N := some 35) (Sh.nm 13 2047) rfl rfl (one_of HT_.out (by kernel_rfl)) (by decide) (fun K hK => ?_)
      refine call_ gf (#[.int .i64 (i : Int), .bool (xs.getD nx false)] ++ lb) (by rfl) rfl (by unfold execOp; simp [resolve, Deferred.ofValue, invoke, Act.eval, eg]) ?_
      refine (HP.out _ i _ HW2.out.b (by have := HNN.out; omega)).mono ?_
      rintro e w3 ⟨rfl, hb⟩
      refine ⟨_, rfl, ?_⟩
      have HW3 := am_ (HW2.out.below hb)
      replace HBW := am_ (below_step HBW.out hb)
      clear hb HW2
      refine Sh.kN hK ⟨Sh.bc HW3.out.ho 0, Sh.bc HW3.out.hr 0, Sh.bc HW3.out.hl 0, Sh.bc HW3.out.hl 1, (HW3.out.cell nx nxn).1⟩ fun hHeld => ?_
      clear hK K
      refine Sh.qA 11 ?_
      obtain ⟨hxi, hfi⟩ := HW3.out.cell i hin
      refine last_ (i := 12) (N := none) (Sh.nm 13 8191) rfl rfl (one_of HT_.out (by kernel_rfl)) (by decide) (fun K hK => ?_)
      refine skip_ (w1 := ?_) (by rfl) rfl ?_ ?_
      rotate_left
      · go_simp
        rfl
      refine hK.out _ _ ?_
      clear hK K
      refine done_ (done_of HT_.out (by kernel_rfl)) ?_
      have HW4 := HW3.out.set i (R i (xs.getD nx false))
      have e_ : ((pre ++ [((⟨i, hin⟩, bx) : Fin n × Bool)]).map (·.1.1)).foldl (ha_step n S.length R) (ha_turn n S.length R (List.replicate n from_)) = xs.set i (R i (xs.getD nx false)) := by
        rw [List.map_append, List.foldl_append, ← HX.out, HNX.out]
        rfl
      rw [← e_] at HW4
      have hKO := (ha_keeps HBW.out).trans (KeepsOthers.setCell w3 ⟨g, i, none⟩ (.bool (R i (xs.getD nx false))))
      exact ⟨hKO.from _, fun hH => ⟨blk_far (blk_below hH.1 HBW.out) (fun e => Kd.R_ne HW.out.hR hH.1 (by decide) (by rw [e]; rfl)) _, HW4.row⟩, HW4, HMk.out.keeps hKO⟩
    case done =>
      rintro D1 ys X2 hD1 hys ⟨hSt, hm1⟩ hK1
      rw [hys] at hSt
      have HS2 := am_ (show HaSt w n c g w.heap.size (w.heap.size + 1) bO (.slice A0 S.length c0) (.slice A1 L.length c1) (.func (.func gf) #[] lb) (ha_turn n S.length R (ha_turn n S.length R (List.replicate n from_))) X2 from hSt)
      clear hSt hys
      have hcO := Sh.bc HS2.out.ho 0
      have HK1 := am_ hK1
      have HD1 := am_ hD1
      have HMM1 := am_ hm1
      clear hK1 hD1 hm1
      gi_wp2
      rw [roundsIn_succ]
      gi_wp2
      have h0 := HMM1.out D0 (by simp)
      have hne : D0 ≠ D1 := by have := HM1.out.lt D0 (by simp); have := HD1.out; omega
      have b1 : w.heap.size ≤ D1 := Nat.le_trans HT1.out.b.size HD1.out
      have b0 : w.heap.size ≤ D0 := Nat.le_trans HT0.out.b.size HD0.out
      have hz0 := (World.putObj_heap_other (o := .deferred none) hne).trans h0
      refine ⟨by simp, .inl ⟨_, _, rfl, run_takeDeferred HK1.out, ?_⟩⟩
      refine ⟨by simp, .inl ⟨_, _, rfl, run_takeDeferred hz0, ?_⟩⟩
      have hF := OwnFrom.putObj (HaSt.own w.heap.size (Nat.le_refl _) (fun _ : Unit => ha_turn n S.length R (ha_turn n S.length R (List.replicate n from_)))) (s := ()) (.deferred none) HS2.out b1 HK1.out rfl
      have hF2 := OwnFrom.putObj (HaSt.own w.heap.size (Nat.le_refl _) (fun _ : Unit => ha_turn n S.length R (ha_turn n S.length R (List.replicate n from_)))) (s := ()) (.deferred none) hF b0 hz0 rfl
      have e_ : ha_fixed S.length L.length from_ R = ha_turn n S.length R (ha_turn n S.length R (List.replicate n from_)) := by unfold ha_fixed; rw [← HNN.out]
      rw [e_]
      exact ⟨_, results_tmp rfl _ _ _, _, rfl, Kd.R_mono hF2.hR (fun _ _ => trivial), hF2.b⟩

/-! ### The two rules of holdsAlong: functions 42 and 43 -/
def ha_at (ops : List (List Bool)) (j i : Nat) : Bool := (ops.getD j []).getD i false
theorem ha_at1 (ops : List (List Bool)) (i : Nat) (h : 1 ≤ ops.length) (h0 : i < (ops.getD 0 []).length) : impl_Lasso_holdsAlong_1.f (i : Int) ops = some (ha_at ops 0 i) := by
  have e : rd_L4 ops 0 = ops.getD 0 [] := by simp [rd_L4, rdOf]
  unfold impl_Lasso_holdsAlong_1.f
  rw [if_pos (by omega), if_pos (by omega), e, if_pos (by omega)]
  simp [ha_at, rdOf]
theorem ha_at2 (ops : List (List Bool)) (i : Nat) (h : 2 ≤ ops.length) (h0 : i < (ops.getD 1 []).length) : impl_Lasso_holdsAlong_2.f (i : Int) ops = some (ha_at ops 1 i) := by
  have e : rd_L4 ops 1 = ops.getD 1 [] := by simp [rd_L4, rdOf]
  unfold impl_Lasso_holdsAlong_2.f
  rw [if_pos (by omega), if_pos (by omega), e, if_pos (by omega)]
  simp [ha_at, rdOf]
/-- What the closures of holdsAlong hold. -/
structure HaCl (W : World) (b5 b7 b8 : Nat) (A2 : Option Addr) (c2 : Nat) (ops : List (List Bool)) : Prop where
  h7 : W.heap[b7]? = some (.cells #[.func (.func 39) #[] #[.pointer (some ⟨b5, 0, none⟩)]] 47 (0, 0))
  h8 : W.heap[b8]? = some (.cells #[.func (.func 40) #[] #[.pointer (some ⟨b5, 0, none⟩)]] 47 (0, 0))
  h5 : W.heap[b5]? = some (.cells #[.slice A2 ops.length c2] 55 (0, 0))
  hC : Kd.C (Kd.slice 4 Kd.bool) W A2 ops.length ops
  hc : ops.length ≤ c2
theorem HaCl.below {W W1 : World} {b5 b7 b8 : Nat} {A2 : Option Addr} {c2 : Nat} {ops : List (List Bool)} (h : HaCl W b5 b7 b8 A2 c2 ops) (hb : Below W.heap.size W W1) : HaCl W1 b5 b7 b8 A2 c2 ops :=
  ⟨blk_below h.h7 hb, blk_below h.h8 hb, blk_below h.h5 hb, Kd.C_below h.hC hb, h.hc⟩
theorem HaCl.drewN {W : World} {b5 b7 b8 : Nat} {A2 : Option Addr} {c2 : Nat} {ops : List (List Bool)} (h : HaCl W b5 b7 b8 A2 c2 ops) (m : Nat) : HaCl (W.drewN m) b5 b7 b8 A2 c2 ops := h.below (pw_below_drewN (Below.refl _ _) m)
section
variable {W : World} {b5 b7 b8 : Nat} {A2 : Option Addr} {c2 : Nat} {ops : List (List Bool)}
theorem HaCl.a (h : HaCl W b5 b7 b8 A2 c2 ops) (i : Nat) (h2 : 1 ≤ ops.length) (h0 : i < (ops.getD 0 []).length) : Calls Try.prog 39 #[.int .i64 (i : Int), .pointer (some ⟨b5, 0, none⟩)] W fun e w' => e = .returned (.bool (ha_at ops 0 i)) ∧ Drawn0 W w' :=
  impl_Lasso_holdsAlong_1.calls (i : Int) b5 A2 c2 ops _ W h.hC h.hc h.h5 (ha_at1 ops i h2 h0)
theorem HaCl.b (h : HaCl W b5 b7 b8 A2 c2 ops) (i : Nat) (h2 : 2 ≤ ops.length) (h0 : i < (ops.getD 1 []).length) : Calls Try.prog 40 #[.int .i64 (i : Int), .pointer (some ⟨b5, 0, none⟩)] W fun e w' => e = .returned (.bool (ha_at ops 1 i)) ∧ Drawn0 W w' :=
  impl_Lasso_holdsAlong_2.calls (i : Int) b5 A2 c2 ops _ W h.hC h.hc h.h5 (ha_at2 ops i h2 h0)
set_option maxHeartbeats 4000000 in
theorem ha_until (i : Nat) (x : Bool) (h : HaCl W b5 b7 b8 A2 c2 ops) (h2 : 2 ≤ ops.length) (h0 : i < (ops.getD 0 []).length) (h1 : i < (ops.getD 1 []).length) :
    Calls Try.prog 42 #[.int .i64 (i : Int), .bool x, .pointer (some ⟨b8, 0, none⟩), .pointer (some ⟨b7, 0, none⟩)] W fun e w' => e = .returned (.bool (ha_at ops 1 i || (ha_at ops 0 i && x))) ∧ Below W.heap.size W w' := by
  have HB := am_ (HaCl.b h i h2 h1)
  have HA := am_ (fun m => HaCl.a (h.drewN m) i (by omega) h0)
  have hc7 := Sh.bc h.h7 0
  have hc8 := Sh.bc h.h8 0
  clear h h2 h0 h1
  cases hb : ha_at ops 1 i
  · rw [hb] at HB
    cases ha : ha_at ops 0 i
    all_goals
      rw [ha] at HA
      clear hb ha
      go_enter Try.func42, Try.ntmps42
      go_wp2_with (first | (go_at_call 40; refine HB.out.mono ?_; rintro e w' ⟨rfl, ⟨nd, rfl⟩⟩) | (go_at_call 39; refine (HA.out _).mono ?_; rintro e w' ⟨rfl, ⟨nd2, rfl⟩⟩))
      exact bodyPost_ret (results_tmp rfl _ _ _) rfl ⟨rfl, pw_below_drewN (Below.refl _ _) _⟩
  · rw [hb] at HB
    clear hb
    go_enter Try.func42, Try.ntmps42
    go_wp2_with (first | (go_at_call 40; refine HB.out.mono ?_; rintro e w' ⟨rfl, ⟨nd, rfl⟩⟩))
    exact bodyPost_ret (results_tmp rfl _ _ _) rfl ⟨rfl, pw_below_drewN (Below.refl _ _) _⟩
set_option maxHeartbeats 4000000 in
theorem ha_release (i : Nat) (x : Bool) (h : HaCl W b5 b7 b8 A2 c2 ops) (h2 : 2 ≤ ops.length) (h0 : i < (ops.getD 0 []).length) (h1 : i < (ops.getD 1 []).length) :
    Calls Try.prog 43 #[.int .i64 (i : Int), .bool x, .pointer (some ⟨b8, 0, none⟩), .pointer (some ⟨b7, 0, none⟩)] W fun e w' => e = .returned (.bool (ha_at ops 1 i && (ha_at ops 0 i || x))) ∧ Below W.heap.size W w' := by
  have HB := am_ (HaCl.b h i h2 h1)
  have HA := am_ (fun m => HaCl.a (h.drewN m) i (by omega) h0)
  have hc7 := Sh.bc h.h7 0
  have hc8 := Sh.bc h.h8 0
  clear h h2 h0 h1
  cases hb : ha_at ops 1 i
  · rw [hb] at HB
    clear hb
    go_enter Try.func43, Try.ntmps43
    go_wp2_with (first | (go_at_call 40; refine HB.out.mono ?_; rintro e w' ⟨rfl, ⟨nd, rfl⟩⟩))
    exact bodyPost_ret (results_tmp rfl _ _ _) rfl ⟨rfl, pw_below_drewN (Below.refl _ _) _⟩
  · rw [hb] at HB
    cases ha : ha_at ops 0 i
    all_goals
      rw [ha] at HA
      clear hb ha
      go_enter Try.func43, Try.ntmps43
      go_wp2_with (first | (go_at_call 40; refine HB.out.mono ?_; rintro e w' ⟨rfl, ⟨nd, rfl⟩⟩) | (go_at_call 39; refine (HA.out _).mono ?_; rintro e w' ⟨rfl, ⟨nd2, rfl⟩⟩))
      exact bodyPost_ret (results_tmp rfl _ _ _) rfl ⟨rfl, pw_below_drewN (Below.refl _ _) _⟩
end

/-! ### impl_Lasso_holdsAlong: function 33 -/
def ha_cell (S L : List Int) (op N : Int) (ops : List (List Bool)) (k : Nat) : Bool :=
  if op = 1 then ((Go.bits .and .i64 (shr .i64 ((impl_Lasso_letterAt.f S L (k : Int)).getD 0) N) 1) == 1)
  else if op = 3 then !(ha_at ops 0 k)
  else if op = 4 then ha_at ops 0 (ha_next (S.length + L.length) S.length k)
  else if op = 5 then ha_at ops 0 k && ha_at ops 1 k
  else if op = 6 then ha_at ops 0 k || ha_at ops 1 k
  else N == 1
abbrev HaOk (S L : List Int) (op N : Int) (ops : List (List Bool)) : Prop := S.length ≤ 24 ∧ 1 ≤ L.length ∧ L.length ≤ 24 ∧ (op = 1 → 0 ≤ N ∧ ∀ k ∈ List.range (S.length + L.length), (impl_Lasso_letterAt.f S L (k : Int)).isSome = true) ∧ ((op = 3 ∨ op = 4) → 1 ≤ ops.length) ∧ ((op = 5 ∨ op = 6 ∨ op = 7 ∨ op = 8) → 2 ≤ ops.length) ∧ ∀ r ∈ ops, r.length = S.length + L.length
def ha_row (S L : List Int) (op N : Int) (ops : List (List Bool)) : List Bool :=
  if op = 7 then ha_fixed S.length L.length false (fun i x => ha_at ops 1 i || (ha_at ops 0 i && x))
  else if op = 8 then ha_fixed S.length L.length true (fun i x => ha_at ops 1 i && (ha_at ops 0 i || x))
  else (List.range (S.length + L.length)).map (ha_cell S L op N ops)
@[local go_sem] theorem HA_runf (P : Program) (w : World) (a : Addr) (m : Mode) (f : Fn) (x y : Array Value) : (store a (.func f x y) m).run P w = stored P w a (.func f x y) m := run_store P w a _ m rfl
/-- Behind the first two regions. -/
def haW (w : World) (VS VL : Value) (op N : Int) (A2 : Option Addr) (n2 c2 : Nat) : World :=
  ((((w.alloc (.cells #[VS, VL] 32)).alloc (.cells #[.int .i64 op, .int .i64 N] 43)).alloc (.cells #[.slice A2 n2 c2] 55)).alloc (.cells #[.func (.func 39) #[] #[.pointer (some ⟨w.heap.size + 1 + 1, 0, none⟩)]] 47)).alloc (.cells #[.func (.func 40) #[] #[.pointer (some ⟨w.heap.size + 1 + 1, 0, none⟩)]] 47)
structure HaW (w W : World) (VS VL : Value) (op N : Int) (A2 : Option Addr) (c2 : Nat) (ops : List (List Bool)) : Prop where
  b : Below w.heap.size w W
  h3 : W.heap[w.heap.size]? = some (.cells #[VS, VL] 32 (0, 0))
  h4 : W.heap[w.heap.size + 1]? = some (.cells #[.int .i64 op, .int .i64 N] 43 (0, 0))
  cl : HaCl W (w.heap.size + 1 + 1) (w.heap.size + 1 + 1 + 1) (w.heap.size + 1 + 1 + 1 + 1) A2 c2 ops
theorem haW_ok (w : World) (VS VL : Value) (op N : Int) (A2 : Option Addr) (c2 : Nat) (ops : List (List Bool)) (hr2 : Kd.C (Kd.slice 4 Kd.bool) w A2 ops.length ops) (hc2 : ops.length ≤ c2) : HaW w (haW w VS VL op N A2 ops.length c2) VS VL op N A2 c2 ops := by
  unfold haW
  have e1 := World.alloc_heap_new w (.cells #[VS, VL] 32)
  have e2 := World.alloc_heap_new (w.alloc (.cells #[VS, VL] 32)) (.cells #[.int .i64 op, .int .i64 N] 43)
  have e3 := World.alloc_heap_new ((w.alloc (.cells #[VS, VL] 32)).alloc (.cells #[.int .i64 op, .int .i64 N] 43)) (.cells #[.slice A2 ops.length c2] 55)
  have e4 := World.alloc_heap_new (((w.alloc (.cells #[VS, VL] 32)).alloc (.cells #[.int .i64 op, .int .i64 N] 43)).alloc (.cells #[.slice A2 ops.length c2] 55)) (.cells #[.func (.func 39) #[] #[.pointer (some ⟨w.heap.size + 1 + 1, 0, none⟩)]] 47)
  have e5 := World.alloc_heap_new ((((w.alloc (.cells #[VS, VL] 32)).alloc (.cells #[.int .i64 op, .int .i64 N] 43)).alloc (.cells #[.slice A2 ops.length c2] 55)).alloc (.cells #[.func (.func 39) #[] #[.pointer (some ⟨w.heap.size + 1 + 1, 0, none⟩)]] 47)) (.cells #[.func (.func 40) #[] #[.pointer (some ⟨w.heap.size + 1 + 1, 0, none⟩)]] 47)
  simp only [World.size_alloc] at e1 e2 e3 e4 e5
  have u : ∀ {X : World} {g : Nat} {o o' : Obj}, X.heap[g]? = some o → (X.alloc o').heap[g]? = some o := fun h => blk_below h (below_alloc (Below.refl _ _) _)
  have hb : ∀ {X : World} (o' : Obj), Below w.heap.size w X → Below w.heap.size w (X.alloc o') := fun o' h => below_alloc h o'
  exact ⟨hb _ (hb _ (hb _ (hb _ (hb _ (Below.refl _ _))))), u (u (u (u e1))), u (u (u e2)), u e4, e5, u (u e3), Kd.C_below hr2 (hb _ (hb _ (hb _ (hb _ (hb _ (Below.refl _ _)))))), hc2⟩
theorem HaW.below {w W W1 : World} {VS VL : Value} {op N : Int} {A2 : Option Addr} {c2 : Nat} {ops : List (List Bool)} (h : HaW w W VS VL op N A2 c2 ops) (hb : Below W.heap.size W W1) : HaW w W1 VS VL op N A2 c2 ops :=
  ⟨below_step h.b hb, blk_below h.h3 hb, blk_below h.h4 hb, h.cl.below hb⟩
def impl_Lasso_holdsAlong.T14 : Bool × List (List Nat × List Nat) := (true, [([], []), ([], []), ([0, 1], [0, 1]), ([], []), ([3], [3]), ([2, 4], [2, 4]), ([5], [5]), ([6], [6]), ([7, 2, 0, 1, 2, 3, 4, 5, 6, 7], [7])])
def impl_Lasso_holdsAlong.B14 : List Nat := [0, 0, 3, 0, 8, 31, 63, 127, 255]
theorem impl_Lasso_holdsAlong.tab14 : rtab .any (opsOf Try.f33 14) = impl_Lasso_holdsAlong.T14 := by kernel_rfl
theorem impl_Lasso_holdsAlong.bits14 : waitsOk impl_Lasso_holdsAlong.T14.2 impl_Lasso_holdsAlong.B14 = true := by kernel_rfl
def impl_Lasso_holdsAlong.T18 : Bool × List (List Nat × List Nat) := (true, [([], []), ([], []), ([], []), ([1, 2], [1, 2]), ([0, 3, 3], [0, 3]), ([4, 4, 0, 1, 2, 3, 4], [4])])
def impl_Lasso_holdsAlong.B18 : List Nat := [0, 0, 0, 6, 15, 31]
theorem impl_Lasso_holdsAlong.tab18 : rtab .any (opsOf Try.f33 18) = impl_Lasso_holdsAlong.T18 := by kernel_rfl
theorem impl_Lasso_holdsAlong.bits18 : waitsOk impl_Lasso_holdsAlong.T18.2 impl_Lasso_holdsAlong.B18 = true := by kernel_rfl
set_option maxRecDepth 100000 in
set_option maxHeartbeats 4000000 in
theorem impl_Lasso_holdsAlong.gen (A0 : Option Addr) (c0 : Nat) (S : List Int) (A1 : Option Addr) (c1 : Nat) (L : List Int) (op N : Int) (A2 : Option Addr) (c2 : Nat) (ops : List (List Bool)) (w : World) (hr0 : Kd.C (Kd.int .i64) w A0 S.length S) (hc0 : S.length ≤ c0) (hr1 : Kd.C (Kd.int .i64) w A1 L.length L) (hc1 : L.length ≤ c1) (hr2 : Kd.C (Kd.slice 4 Kd.bool) w A2 ops.length ops) (hc2 : ops.length ≤ c2) (hok : HaOk S L op N ops) :
  Calls Try.prog 33 #[.agg #[.slice A0 S.length c0, .slice A1 L.length c1], .agg #[.int .i64 op, .int .i64 N], .slice A2 ops.length c2] w fun e w' => ∃ v, e = .returned v ∧ Kd.R Kd.bool 4 w' w.heap.size (fun _ => True) v (ha_row S L op N ops) ∧ Below w.heap.size w w' := by
  obtain ⟨hS, hL1, hL, ho1, ho3, ho5, hrows⟩ := hok
  obtain ⟨W6, hW6⟩ : ∃ W6, W6 = haW w (.slice A0 S.length c0) (.slice A1 L.length c1) op N A2 ops.length c2 := ⟨_, rfl⟩
  have HW := am_ (haW_ok w (.slice A0 S.length c0) (.slice A1 L.length c1) op N A2 c2 ops hr2 hc2)
  rw [← hW6] at HW
  have HR0 := am_ hr0
  have HC0 := am_ hc0
  have HR1 := am_ hr1
  have HC1 := am_ hc1
  have HO1 := am_ ho1
  have HO3 := am_ ho3
  have HO5 := am_ ho5
  have HRW := am_ (show ∀ j, j < ops.length → (ops.getD j []).length = S.length + L.length from fun j hj => hrows _ (by rw [List.getD_eq_getElem?_getD, List.getElem?_eq_getElem hj]; exact List.getElem_mem hj))
  have HE := am_ hW6
  have LS := am_ hS
  have LL := am_ hL
  have LL1 := am_ hL1
  clear hr0 hc0 hr1 hc1 hr2 hc2 ho1 ho3 ho5 hrows hW6 hS hL hL1
  by_cases c7 : op = 7
  · subst c7
    have H2 := HO5.out (by omega)
    have HP := am_ (show ∀ (W : World) (i : Nat) (x : Bool), Below W6.heap.size W6 W → i < S.length + L.length → Calls Try.prog 42 (#[.int .i64 (i : Int), .bool x] ++ #[.pointer (some ⟨w.heap.size + 1 + 1 + 1 + 1, 0, none⟩), .pointer (some ⟨w.heap.size + 1 + 1 + 1, 0, none⟩)]) W fun e w' => e = .returned (.bool (ha_at ops 1 i || (ha_at ops 0 i && x))) ∧ Below W.heap.size W w' from
      fun W i x hb hi => ha_until i x (HW.out.cl.below hb) H2 (by rw [HRW.out 0 (by omega)]; exact hi) (by rw [HRW.out 1 (by omega)]; exact hi))
    clear H2
    go_enter Try.func33, Try.ntmps33
    go_wp2_with (go_at_call 41; change Calls Try.prog 41 _ (haW w (.slice A0 S.length c0) (.slice A1 L.length c1) 7 N A2 ops.length c2) _; rw [← HE.out]; refine (impl_Lasso_fixed.gen 42 #[.pointer (some ⟨w.heap.size + 1 + 1 + 1 + 1, 0, none⟩), .pointer (some ⟨w.heap.size + 1 + 1 + 1, 0, none⟩)] (enters_of Try.func42 (by kernel_rfl) rfl) _ false A0 c0 S A1 c1 L W6 (Kd.C_below HR0.out HW.out.b) HC0.out (Kd.C_below HR1.out HW.out.b) HC1.out LS.out LL1.out LL.out HP.out).mono ?_; rintro e w7 ⟨v7, rfl, ho, hb⟩; have HO7 := am_ ho; have HB7 := am_ hb; clear ho hb)
    exact bodyPost_ret (results_tmp rfl _ _ _) rfl ⟨v7, rfl, Kd.R_lower HO7.out HW.out.b.size, below_step HW.out.b HB7.out⟩
  by_cases c8 : op = 8
  · subst c8
    have H2 := HO5.out (by omega)
    have HP := am_ (show ∀ (W : World) (i : Nat) (x : Bool), Below W6.heap.size W6 W → i < S.length + L.length → Calls Try.prog 43 (#[.int .i64 (i : Int), .bool x] ++ #[.pointer (some ⟨w.heap.size + 1 + 1 + 1 + 1, 0, none⟩), .pointer (some ⟨w.heap.size + 1 + 1 + 1, 0, none⟩)]) W fun e w' => e = .returned (.bool (ha_at ops 1 i && (ha_at ops 0 i || x))) ∧ Below W.heap.size W w' from
      fun W i x hb hi => ha_release i x (HW.out.cl.below hb) H2 (by rw [HRW.out 0 (by omega)]; exact hi) (by rw [HRW.out 1 (by omega)]; exact hi))
    clear H2 c7
    go_enter Try.func33, Try.ntmps33
    go_wp2_with (go_at_call 41; change Calls Try.prog 41 _ (haW w (.slice A0 S.length c0) (.slice A1 L.length c1) 8 N A2 ops.length c2) _; rw [← HE.out]; refine (impl_Lasso_fixed.gen 43 #[.pointer (some ⟨w.heap.size + 1 + 1 + 1 + 1, 0, none⟩), .pointer (some ⟨w.heap.size + 1 + 1 + 1, 0, none⟩)] (enters_of Try.func43 (by kernel_rfl) rfl) _ true A0 c0 S A1 c1 L W6 (Kd.C_below HR0.out HW.out.b) HC0.out (Kd.C_below HR1.out HW.out.b) HC1.out LS.out LL1.out LL.out HP.out).mono ?_; rintro e w7 ⟨v7, rfl, ho, hb⟩; have HO7 := am_ ho; have HB7 := am_ hb; clear ho hb)
    exact bodyPost_ret (results_tmp rfl _ _ _) rfl ⟨v7, rfl, Kd.R_lower HO7.out HW.out.b.size, below_step HW.out.b HB7.out⟩
  have c7b : (op == 7) = false := beq_eq_false_iff_ne.mpr c7
  have c8b : (op == 8) = false := beq_eq_false_iff_ne.mpr c8
  obtain ⟨n, hn⟩ : ∃ n, n = S.length + L.length := ⟨_, rfl⟩
  have hzw : IntKind.i64.wrap ((S.length : Int) + (L.length : Int)) = (n : Int) := by rw [i64_w]; unfold wrap64; have := LS.out; have := LL.out; omega
  have er : ha_row S L op N ops = (List.range n).map (ha_cell S L op N ops) := by rw [ha_row, if_neg c7, if_neg c8, ← hn]
  rw [er]
  have HNN := am_ hn
  clear er hn
  go_enter Try.func33, Try.ntmps33
  go_wp2
  change Code.wp Try.prog _ _ _ ((haW w (.slice A0 S.length c0) (.slice A1 L.length c1) op N A2 ops.length c2).alloc (.cells #[] 4))
  rw [← HE.out]
  have hs6 : W6.heap.size = w.heap.size + 1 + 1 + 1 + 1 + 1 := by rw [HE.out]; simp [haW]
  have HR6 := am_ (show Kd.R Kd.bool 4 (W6.alloc (.cells #[] 4)) W6.heap.size (fun _ => True) (.slice (some ⟨w.heap.size + 1 + 1 + 1 + 1 + 1, 0, none⟩) 0 0) [] from by
    rw [← hs6]
    exact Kd.R_of_own (h1 := fun _ => rfl) (xs := ([] : List Bool)) ⟨rfl, .inr ⟨W6.heap.size, 0, #[], rfl, Nat.le_refl _, World.alloc_heap_new _ _, Nat.le_refl _, by simp [maxLen], rfl, rfl⟩⟩ (fun _ _ => trivial))
  clear hs6 hzw
  go_loopg [9, 34] n (fun kq v9 v34 w' => ∃ (i : Nat) (vO : Value), v9 = vO ∧ v34 = .int .i64 (i : Int) ∧ Aside0 (i ≤ n ∧ n - i ≤ kq) ∧ Aside0 (Kd.R Kd.bool 4 w' W6.heap.size (fun _ => True) vO ((List.range i).map (ha_cell S L op N ops))) ∧ Aside0 (Below W6.heap.size W6 w'))
  case atStart => exact ⟨0, _, rfl, rfl, ⟨⟨Nat.zero_le _, Nat.le_refl _⟩⟩, HR6, ⟨below_alloc (Below.refl _ _) _⟩⟩
  case round =>
   clear HR6
   obtain ⟨i, vO, rfl, rfl, HI, HO, HB⟩ := hrel
   by_cases ci : i < n
   · have cit := eq_true (show (i : Int) < (n : Int) by omega)
     have cib := decide_eq_true (show (i : Int) < (n : Int) by omega)
     have CI := am_ ci
     have HWr := am_ (HW.out.below HB.out)
     have hc3_0 := Sh.bc HWr.out.h3 0
     have hc3_1 := Sh.bc HWr.out.h3 1
     have hc4_0 := Sh.bc HWr.out.h4 0
     have hc4_1 := Sh.bc HWr.out.h4 1
     have hc7 := Sh.bc HWr.out.cl.h7 0
     have hc8 := Sh.bc HWr.out.cl.h8 0
     obtain ⟨xs, hxs⟩ : ∃ xs, xs = (List.range i).map (ha_cell S L op N ops) := ⟨_, rfl⟩
     rw [← hxs] at HO
     have HL7 := am_ (show xs.length = i by rw [hxs, List.length_map, List.length_range])
     have HX := am_ hxs
     obtain ⟨AO, cO, eO⟩ := Kd.R_slice HO.out
     subst eO
     clear ci hxs
     by_cases c1 : op = 1
     · have c1b : (op == 1) = true := beq_iff_eq.mpr c1
       obtain ⟨hN0, hlt⟩ := HO1.out c1
       obtain ⟨lv, hlv⟩ := Option.isSome_iff_exists.1 (hlt i (List.mem_range.2 (by have := CI.out; have := HNN.out; omega)))
       have EY := am_ (show ((Go.bits .and .i64 (shr .i64 lv N) 1) == 1) = ha_cell S L op N ops i from by simp only [ha_cell, if_pos c1, hlv, Option.getD_some])
       have HLV := am_ hlv
       have hN1 := eq_true hN0
       clear hlt hlv c1
       go_wp2
       have HW1 := am_ (HWr.out.below (below_drew (Below.refl _ wr)))
       refine start_ (n := 9) (S := fun w' => w'.cell? ⟨w.heap.size, 0, none⟩ = some (.slice A0 S.length c0) ∧ w'.cell? ⟨w.heap.size, 1, none⟩ = some (.slice A1 L.length c1) ∧ w'.cell? ⟨w.heap.size + 1, 1, none⟩ = some (.int .i64 N)) (ds := []) (Sh.nm 9 0) (by kernel_rfl) rfl rfl ⟨Sh.bc HW1.out.h3 0, Sh.bc HW1.out.h3 1, Sh.bc HW1.out.h4 1⟩ (fun hHeld => ?_)
       refine with_tabW impl_Lasso_holdsAlong.tab14 impl_Lasso_holdsAlong.bits14 (fun HT_ HW_ => ?_)
       refine Sh.qA 1 ?_; refine Sh.qA 3 ?_; refine Sh.qT 0 hHeld ?_; refine Sh.qT 4 hHeld ?_
       refine Sh.oC 2 Try.func44 #[.agg #[.slice A0 S.length c0, .slice A1 L.length c1], .int .i64 (i : Int)] fun K hK => ?_
       with_reducible refine (impl_Lasso_letterAt.calls _ _ S _ _ L (i : Int) lv _ (Kd.C_below HR0.out HW1.out.b) HC0.out (Kd.C_below HR1.out HW1.out.b) HC1.out HLV.out).mono ?_
       rintro e w2 ⟨rfl, hb⟩
       refine ⟨_, rfl, ?_⟩
       replace HO := am_ (Kd.R_below (Kd.R_drew HO.out) hb)
       replace HB := am_ (below_step (below_drew1 HB.out) hb)
       replace HW1 := am_ (HW1.out.below hb)
       clear hb
       refine Sh.kN hK ⟨Sh.bc HW1.out.h3 0, Sh.bc HW1.out.h3 1, Sh.bc HW1.out.h4 1⟩ fun hHeld => ?_
       clear hK K
       refine Sh.qA 5 ?_; refine Sh.qA 6 ?_; refine Sh.qA 7 ?_; refine Sh.qA 8 ?_
       refine done_ (done_of HT_.out (by kernel_rfl)) ?_
       clear hHeld
       go_wp2_with ((with_reducible refine gate_builtin (b := .append) (xs := #[.tmp 85, .tmp 87]) rfl ?_); at_builtin; refine Kd.R_append Kd.bool (w0 := W6) W6.heap.size rfl (.tmp 85) (.tmp 87) 48 4 (.bool false) 1 rfl Try.underlying48 info4 rfl (by decide) (by decide) (.slice AO xs.length cO) xs (((Go.bits .and .i64 (shr .i64 lv N) 1) == 1)) [.bool (((Go.bits .and .i64 (shr .i64 lv N) 1) == 1))] (fun _ => True) (fun _ => False) rfl rfl ?aP (fun _ hk => hk.elim) ?aF ?aO ?aB ?aS ?aL ?_; (case aP => exact rfl); (case aF => exact (fun _ _ => trivial)); (case aO => exact (Sh.rl HO.out)); (case aB => exact Sh.bw); (case aS => exact (below_size Sh.bw)); (case aL => rw [HL7.out]; have := CI.out; have := HNN.out; have := LS.out; have := LL.out; omega); intro v1 w1 ho hb hg hat; obtain ⟨A2_, c2_, e2_⟩ := Kd.R_slice ho; subst e2_; have HO2 := am_ ho; have HB2 := am_ hb; clear ho hb hg hat)
       go_roundg (n - (i + 1))
       case measure => have := CI.out; have := HI.out.2; omega
       case rel => exact ⟨i + 1, _, rfl, congrArg (Value.int IntKind.i64) (by (try rw [i64_w]); unfold wrap64; have := CI.out; have := HNN.out; have := LS.out; have := LL.out; omega), ⟨⟨CI.out, Nat.le_refl _⟩⟩, ⟨by rw [List.range_succ, List.map_append, ← HX.out]; show Kd.R Kd.bool 4 _ _ _ _ (xs ++ [ha_cell S L op N ops i]); rw [← EY.out]; have h_ := HO2.out; rw [List.length_append] at h_; exact h_⟩, HB2⟩
     have c1b : (op == 1) = false := beq_eq_false_iff_ne.mpr c1
     by_cases c3 : op = 3
     · have c3b : (op == 3) = true := beq_iff_eq.mpr c3
       have h1 := HO3.out (.inl c3)
       have HA0 := am_ (HaCl.a HWr.out.cl i (by omega) (by rw [HRW.out 0 (by omega)]; have := CI.out; have := HNN.out; omega))
       have HA := am_ (fun m => HaCl.a (HWr.out.cl.drewN m) i (by omega) (by rw [HRW.out 0 (by omega)]; have := CI.out; have := HNN.out; omega))
       have EY := am_ (show (!(ha_at ops 0 i)) = ha_cell S L op N ops i from by simp only [ha_cell, if_neg c1, if_pos c3])
       clear h1 c1 c3
       generalize ha_at ops 0 i = ya at HA0 HA EY
       go_wp2_with (first | (go_at_call 39; refine (HA0.out).mono ?_; rintro e w' ⟨rfl, ⟨nd, rfl⟩⟩) | ((with_reducible refine gate_builtin (b := .append) (xs := #[.tmp 85, .tmp 87]) rfl ?_); at_builtin; refine Kd.R_append Kd.bool (w0 := W6) W6.heap.size rfl (.tmp 85) (.tmp 87) 48 4 (.bool false) 1 rfl Try.underlying48 info4 rfl (by decide) (by decide) (.slice AO xs.length cO) xs (!ya) [.bool (!ya)] (fun _ => True) (fun _ => False) rfl rfl ?aP (fun _ hk => hk.elim) ?aF ?aO ?aB ?aS ?aL ?_; (case aP => exact rfl); (case aF => exact (fun _ _ => trivial)); (case aO => exact (Sh.rl HO.out)); (case aB => exact Sh.bw); (case aS => exact (below_size Sh.bw)); (case aL => rw [HL7.out]; have := CI.out; have := HNN.out; have := LS.out; have := LL.out; omega); intro v1 w1 ho hb hg hat; obtain ⟨A2_, c2_, e2_⟩ := Kd.R_slice ho; subst e2_; have HO2 := am_ ho; have HB2 := am_ hb; clear ho hb hg hat))
       go_roundg (n - (i + 1))
       case measure => have := CI.out; have := HI.out.2; omega
       case rel => exact ⟨i + 1, _, rfl, congrArg (Value.int IntKind.i64) (by (try rw [i64_w]); unfold wrap64; have := CI.out; have := HNN.out; have := LS.out; have := LL.out; omega), ⟨⟨CI.out, Nat.le_refl _⟩⟩, ⟨by rw [List.range_succ, List.map_append, ← HX.out]; show Kd.R Kd.bool 4 _ _ _ _ (xs ++ [ha_cell S L op N ops i]); rw [← EY.out]; have h_ := HO2.out; rw [List.length_append] at h_; exact h_⟩, HB2⟩
     have c3b : (op == 3) = false := beq_eq_false_iff_ne.mpr c3
     by_cases c4 : op = 4
     · have c4b : (op == 4) = true := beq_iff_eq.mpr c4
       have h1 := HO3.out (.inr c4)
       have hnl : ha_next n S.length i < n := ha_next_lt (by have := HNN.out; have := LL1.out; omega)
       have HA := am_ (fun (W' : World) (hb : Below wr.heap.size wr W') => HaCl.a (HWr.out.cl.below hb) (ha_next n S.length i) h1 (by rw [HRW.out 0 (by omega)]; have := HNN.out; omega))
       have EY := am_ (show ha_at ops 0 (ha_next n S.length i) = ha_cell S L op N ops i from by simp only [ha_cell, if_neg c1, if_neg c3, if_pos c4, ← HNN.out])
       have hNx := ha_next_eq S L LS.out LL.out i (by have := CI.out; have := HNN.out; omega)
       rw [← HNN.out] at hNx
       have HNx := am_ hNx
       clear hNx h1 hnl c1 c3 c4
       generalize ha_next n S.length i = nx at HA HNx EY
       generalize ha_at ops 0 nx = ya at HA EY
       go_wp2
       have HW1 := am_ (HWr.out.below (below_drew (Below.refl _ wr)))
       have HBW := am_ (below_drew (Below.refl wr.heap.size wr))
       refine start_ (n := 6) (S := fun w' => w'.cell? ⟨w.heap.size + 1 + 1 + 1, 0, none⟩ = some (.func (.func 39) #[] #[.pointer (some ⟨w.heap.size + 1 + 1, 0, none⟩)]) ∧ w'.cell? ⟨w.heap.size, 0, none⟩ = some (.slice A0 S.length c0) ∧ w'.cell? ⟨w.heap.size, 1, none⟩ = some (.slice A1 L.length c1)) (ds := []) (Sh.nm 6 0) (by kernel_rfl) rfl rfl ⟨Sh.bc HW1.out.cl.h7 0, Sh.bc HW1.out.h3 0, Sh.bc HW1.out.h3 1⟩ (fun hHeld => ?_)
       refine with_tabW impl_Lasso_holdsAlong.tab18 impl_Lasso_holdsAlong.bits18 (fun HT_ HW_ => ?_)
       refine Sh.qA 2 ?_; refine Sh.qT 0 hHeld ?_; refine Sh.qT 1 hHeld ?_
       refine Sh.oC 3 Try.func45 #[.agg #[.slice A0 S.length c0, .slice A1 L.length c1], .int .i64 (i : Int)] fun K hK => ?_
       with_reducible refine (impl_Lasso_nextPlace.calls _ _ S _ _ L (i : Int) (nx : Int) _ (Kd.C_below HR0.out HW1.out.b) HC0.out (Kd.C_below HR1.out HW1.out.b) HC1.out HNx.out).mono ?_
       rintro e w2 ⟨rfl, hb⟩
       refine ⟨_, rfl, ?_⟩
       replace HO := am_ (Kd.R_below (Kd.R_drew HO.out) hb)
       replace HB := am_ (below_step (below_drew1 HB.out) hb)
       replace HW1 := am_ (HW1.out.below hb)
       replace HBW := am_ (below_step HBW.out hb)
       clear hb
       refine Sh.kN hK ⟨Sh.bc HW1.out.cl.h7 0, Sh.bc HW1.out.h3 0, Sh.bc HW1.out.h3 1⟩ fun hHeld => ?_
       clear hK K
       refine one_ (i := 4) (N := some 64) (Sh.nm 6 31) rfl rfl (one_of HT_.out (by kernel_rfl)) (by decide) (fun K hK => ?_)
       refine call_ 39 (#[.int .i64 (nx : Int), .pointer (some ⟨w.heap.size + 1 + 1, 0, none⟩)]) (by rfl) rfl (by unfold execOp; simp [resolve, Deferred.ofValue, invoke, Act.eval, enters_of Try.func39 (by kernel_rfl) rfl]) ?_
       refine (HA.out _ HBW.out).mono ?_
       rintro e w3 ⟨rfl, ⟨nd, rfl⟩⟩
       refine ⟨_, rfl, ?_⟩
       replace HW1 := am_ (HW1.out.below (pw_below_drewN (Below.refl _ w2) nd))
       refine Sh.kN hK ⟨Sh.bc HW1.out.cl.h7 0, Sh.bc HW1.out.h3 0, Sh.bc HW1.out.h3 1⟩ fun hHeld => ?_
       clear hK K
       refine Sh.qA 5 ?_
       refine done_ (done_of HT_.out (by kernel_rfl)) ?_
       clear hHeld
       go_wp2_with ((with_reducible refine gate_builtin (b := .append) (xs := #[.tmp 85, .tmp 87]) rfl ?_); at_builtin; refine Kd.R_append Kd.bool (w0 := W6) W6.heap.size rfl (.tmp 85) (.tmp 87) 48 4 (.bool false) 1 rfl Try.underlying48 info4 rfl (by decide) (by decide) (.slice AO xs.length cO) xs (ya) [.bool (ya)] (fun _ => True) (fun _ => False) rfl rfl ?aP (fun _ hk => hk.elim) ?aF ?aO ?aB ?aS ?aL ?_; (case aP => exact rfl); (case aF => exact (fun _ _ => trivial)); (case aO => exact (Sh.rl HO.out)); (case aB => exact Sh.bw); (case aS => exact (below_size Sh.bw)); (case aL => rw [HL7.out]; have := CI.out; have := HNN.out; have := LS.out; have := LL.out; omega); intro v1 w1 ho hb hg hat; obtain ⟨A2_, c2_, e2_⟩ := Kd.R_slice ho; subst e2_; have HO2 := am_ ho; have HB2 := am_ hb; clear ho hb hg hat)
       go_roundg (n - (i + 1))
       case measure => have := CI.out; have := HI.out.2; omega
       case rel => exact ⟨i + 1, _, rfl, congrArg (Value.int IntKind.i64) (by (try rw [i64_w]); unfold wrap64; have := CI.out; have := HNN.out; have := LS.out; have := LL.out; omega), ⟨⟨CI.out, Nat.le_refl _⟩⟩, ⟨by rw [List.range_succ, List.map_append, ← HX.out]; show Kd.R Kd.bool 4 _ _ _ _ (xs ++ [ha_cell S L op N ops i]); rw [← EY.out]; have h_ := HO2.out; rw [List.length_append] at h_; exact h_⟩, HB2⟩
     have c4b : (op == 4) = false := beq_eq_false_iff_ne.mpr c4
     by_cases c5 : op = 5
     · have c5b : (op == 5) = true := beq_iff_eq.mpr c5
       have h1 := HO5.out (.inl c5)
       have HA0 := am_ (HaCl.a HWr.out.cl i (by omega) (by rw [HRW.out 0 (by omega)]; have := CI.out; have := HNN.out; omega))
       have HA := am_ (fun m => HaCl.a (HWr.out.cl.drewN m) i (by omega) (by rw [HRW.out 0 (by omega)]; have := CI.out; have := HNN.out; omega))
       have HBB := am_ (fun m => HaCl.b (HWr.out.cl.drewN m) i (by omega) (by rw [HRW.out 1 (by omega)]; have := CI.out; have := HNN.out; omega))
       have EY_ := am_ (show (ha_at ops 0 i && ha_at ops 1 i) = ha_cell S L op N ops i from by simp only [ha_cell, if_neg c1, if_neg c3, if_neg c4, if_pos c5])
       clear h1 c1 c3 c4 c5
       generalize ha_at ops 0 i = ya at HA0 HA EY_
       generalize ha_at ops 1 i = yb at HBB EY_
       cases ya
       · have EY := am_ (show (false) = ha_cell S L op N ops i from EY_.out)
         go_wp2_with (first | (go_at_call 39; refine (HA0.out).mono ?_; rintro e w' ⟨rfl, ⟨nd, rfl⟩⟩) | ((with_reducible refine gate_builtin (b := .append) (xs := #[.tmp 85, .tmp 87]) rfl ?_); at_builtin; refine Kd.R_append Kd.bool (w0 := W6) W6.heap.size rfl (.tmp 85) (.tmp 87) 48 4 (.bool false) 1 rfl Try.underlying48 info4 rfl (by decide) (by decide) (.slice AO xs.length cO) xs (false) [.bool (false)] (fun _ => True) (fun _ => False) rfl rfl ?aP (fun _ hk => hk.elim) ?aF ?aO ?aB ?aS ?aL ?_; (case aP => exact rfl); (case aF => exact (fun _ _ => trivial)); (case aO => exact (Sh.rl HO.out)); (case aB => exact Sh.bw); (case aS => exact (below_size Sh.bw)); (case aL => rw [HL7.out]; have := CI.out; have := HNN.out; have := LS.out; have := LL.out; omega); intro v1 w1 ho hb hg hat; obtain ⟨A2_, c2_, e2_⟩ := Kd.R_slice ho; subst e2_; have HO2 := am_ ho; have HB2 := am_ hb; clear ho hb hg hat))
         go_roundg (n - (i + 1))
         case measure => have := CI.out; have := HI.out.2; omega
         case rel => exact ⟨i + 1, _, rfl, congrArg (Value.int IntKind.i64) (by (try rw [i64_w]); unfold wrap64; have := CI.out; have := HNN.out; have := LS.out; have := LL.out; omega), ⟨⟨CI.out, Nat.le_refl _⟩⟩, ⟨by rw [List.range_succ, List.map_append, ← HX.out]; show Kd.R Kd.bool 4 _ _ _ _ (xs ++ [ha_cell S L op N ops i]); rw [← EY.out]; have h_ := HO2.out; rw [List.length_append] at h_; exact h_⟩, HB2⟩
       · have EY := am_ (show (yb) = ha_cell S L op N ops i from EY_.out)
         go_wp2_with (first | (go_at_call 39; refine (HA0.out).mono ?_; rintro e w' ⟨rfl, ⟨nd, rfl⟩⟩) | (go_at_call 40; refine (HBB.out _).mono ?_; rintro e w' ⟨rfl, ⟨nd2, rfl⟩⟩) | ((with_reducible refine gate_builtin (b := .append) (xs := #[.tmp 85, .tmp 87]) rfl ?_); at_builtin; refine Kd.R_append Kd.bool (w0 := W6) W6.heap.size rfl (.tmp 85) (.tmp 87) 48 4 (.bool false) 1 rfl Try.underlying48 info4 rfl (by decide) (by decide) (.slice AO xs.length cO) xs (yb) [.bool (yb)] (fun _ => True) (fun _ => False) rfl rfl ?aP (fun _ hk => hk.elim) ?aF ?aO ?aB ?aS ?aL ?_; (case aP => exact rfl); (case aF => exact (fun _ _ => trivial)); (case aO => exact (Sh.rl HO.out)); (case aB => exact Sh.bw); (case aS => exact (below_size Sh.bw)); (case aL => rw [HL7.out]; have := CI.out; have := HNN.out; have := LS.out; have := LL.out; omega); intro v1 w1 ho hb hg hat; obtain ⟨A2_, c2_, e2_⟩ := Kd.R_slice ho; subst e2_; have HO2 := am_ ho; have HB2 := am_ hb; clear ho hb hg hat))
         go_roundg (n - (i + 1))
         case measure => have := CI.out; have := HI.out.2; omega
         case rel => exact ⟨i + 1, _, rfl, congrArg (Value.int IntKind.i64) (by (try rw [i64_w]); unfold wrap64; have := CI.out; have := HNN.out; have := LS.out; have := LL.out; omega), ⟨⟨CI.out, Nat.le_refl _⟩⟩, ⟨by rw [List.range_succ, List.map_append, ← HX.out]; show Kd.R Kd.bool 4 _ _ _ _ (xs ++ [ha_cell S L op N ops i]); rw [← EY.out]; have h_ := HO2.out; rw [List.length_append] at h_; exact h_⟩, HB2⟩
     have c5b : (op == 5) = false := beq_eq_false_iff_ne.mpr c5
     by_cases c6 : op = 6
     · have c6b : (op == 6) = true := beq_iff_eq.mpr c6
       have h1 := HO5.out (.inr (.inl c6))
       have HA0 := am_ (HaCl.a HWr.out.cl i (by omega) (by rw [HRW.out 0 (by omega)]; have := CI.out; have := HNN.out; omega))
       have HA := am_ (fun m => HaCl.a (HWr.out.cl.drewN m) i (by omega) (by rw [HRW.out 0 (by omega)]; have := CI.out; have := HNN.out; omega))
       have HBB := am_ (fun m => HaCl.b (HWr.out.cl.drewN m) i (by omega) (by rw [HRW.out 1 (by omega)]; have := CI.out; have := HNN.out; omega))
       have EY_ := am_ (show (ha_at ops 0 i || ha_at ops 1 i) = ha_cell S L op N ops i from by simp only [ha_cell, if_neg c1, if_neg c3, if_neg c4, if_neg c5, if_pos c6])
       clear h1 c1 c3 c4 c6 c5
       generalize ha_at ops 0 i = ya at HA0 HA EY_
       generalize ha_at ops 1 i = yb at HBB EY_
       cases ya
       · have EY := am_ (show (yb) = ha_cell S L op N ops i from EY_.out)
         go_wp2_with (first | (go_at_call 39; refine (HA0.out).mono ?_; rintro e w' ⟨rfl, ⟨nd, rfl⟩⟩) | (go_at_call 40; refine (HBB.out _).mono ?_; rintro e w' ⟨rfl, ⟨nd2, rfl⟩⟩) | ((with_reducible refine gate_builtin (b := .append) (xs := #[.tmp 85, .tmp 87]) rfl ?_); at_builtin; refine Kd.R_append Kd.bool (w0 := W6) W6.heap.size rfl (.tmp 85) (.tmp 87) 48 4 (.bool false) 1 rfl Try.underlying48 info4 rfl (by decide) (by decide) (.slice AO xs.length cO) xs (yb) [.bool (yb)] (fun _ => True) (fun _ => False) rfl rfl ?aP (fun _ hk => hk.elim) ?aF ?aO ?aB ?aS ?aL ?_; (case aP => exact rfl); (case aF => exact (fun _ _ => trivial)); (case aO => exact (Sh.rl HO.out)); (case aB => exact Sh.bw); (case aS => exact (below_size Sh.bw)); (case aL => rw [HL7.out]; have := CI.out; have := HNN.out; have := LS.out; have := LL.out; omega); intro v1 w1 ho hb hg hat; obtain ⟨A2_, c2_, e2_⟩ := Kd.R_slice ho; subst e2_; have HO2 := am_ ho; have HB2 := am_ hb; clear ho hb hg hat))
         go_roundg (n - (i + 1))
         case measure => have := CI.out; have := HI.out.2; omega
         case rel => exact ⟨i + 1, _, rfl, congrArg (Value.int IntKind.i64) (by (try rw [i64_w]); unfold wrap64; have := CI.out; have := HNN.out; have := LS.out; have := LL.out; omega), ⟨⟨CI.out, Nat.le_refl _⟩⟩, ⟨by rw [List.range_succ, List.map_append, ← HX.out]; show Kd.R Kd.bool 4 _ _ _ _ (xs ++ [ha_cell S L op N ops i]); rw [← EY.out]; have h_ := HO2.out; rw [List.length_append] at h_; exact h_⟩, HB2⟩
       · have EY := am_ (show (true) = ha_cell S L op N ops i from EY_.out)
         go_wp2_with (first | (go_at_call 39; refine (HA0.out).mono ?_; rintro e w' ⟨rfl, ⟨nd, rfl⟩⟩) | ((with_reducible refine gate_builtin (b := .append) (xs := #[.tmp 85, .tmp 87]) rfl ?_); at_builtin; refine Kd.R_append Kd.bool (w0 := W6) W6.heap.size rfl (.tmp 85) (.tmp 87) 48 4 (.bool false) 1 rfl Try.underlying48 info4 rfl (by decide) (by decide) (.slice AO xs.length cO) xs (true) [.bool (true)] (fun _ => True) (fun _ => False) rfl rfl ?aP (fun _ hk => hk.elim) ?aF ?aO ?aB ?aS ?aL ?_; (case aP => exact rfl); (case aF => exact (fun _ _ => trivial)); (case aO => exact (Sh.rl HO.out)); (case aB => exact Sh.bw); (case aS => exact (below_size Sh.bw)); (case aL => rw [HL7.out]; have := CI.out; have := HNN.out; have := LS.out; have := LL.out; omega); intro v1 w1 ho hb hg hat; obtain ⟨A2_, c2_, e2_⟩ := Kd.R_slice ho; subst e2_; have HO2 := am_ ho; have HB2 := am_ hb; clear ho hb hg hat))
         go_roundg (n - (i + 1))
         case measure => have := CI.out; have := HI.out.2; omega
         case rel => exact ⟨i + 1, _, rfl, congrArg (Value.int IntKind.i64) (by (try rw [i64_w]); unfold wrap64; have := CI.out; have := HNN.out; have := LS.out; have := LL.out; omega), ⟨⟨CI.out, Nat.le_refl _⟩⟩, ⟨by rw [List.range_succ, List.map_append, ← HX.out]; show Kd.R Kd.bool 4 _ _ _ _ (xs ++ [ha_cell S L op N ops i]); rw [← EY.out]; have h_ := HO2.out; rw [List.length_append] at h_; exact h_⟩, HB2⟩
     have c6b : (op == 6) = false := beq_eq_false_iff_ne.mpr c6
     have EY := am_ (show (N == 1) = ha_cell S L op N ops i from by simp only [ha_cell, if_neg c1, if_neg c3, if_neg c4, if_neg c5, if_neg c6])
     clear c1 c3 c4 c5 c6
     go_wp2_with ((with_reducible refine gate_builtin (b := .append) (xs := #[.tmp 85, .tmp 87]) rfl ?_); at_builtin; refine Kd.R_append Kd.bool (w0 := W6) W6.heap.size rfl (.tmp 85) (.tmp 87) 48 4 (.bool false) 1 rfl Try.underlying48 info4 rfl (by decide) (by decide) (.slice AO xs.length cO) xs (N == 1) [.bool (N == 1)] (fun _ => True) (fun _ => False) rfl rfl ?aP (fun _ hk => hk.elim) ?aF ?aO ?aB ?aS ?aL ?_; (case aP => exact rfl); (case aF => exact (fun _ _ => trivial)); (case aO => exact (Sh.rl HO.out)); (case aB => exact Sh.bw); (case aS => exact (below_size Sh.bw)); (case aL => rw [HL7.out]; have := CI.out; have := HNN.out; have := LS.out; have := LL.out; omega); intro v1 w1 ho hb hg hat; obtain ⟨A2_, c2_, e2_⟩ := Kd.R_slice ho; subst e2_; have HO2 := am_ ho; have HB2 := am_ hb; clear ho hb hg hat)
     go_roundg (n - (i + 1))
     case measure => have := CI.out; have := HI.out.2; omega
     case rel => exact ⟨i + 1, _, rfl, congrArg (Value.int IntKind.i64) (by (try rw [i64_w]); unfold wrap64; have := CI.out; have := HNN.out; have := LS.out; have := LL.out; omega), ⟨⟨CI.out, Nat.le_refl _⟩⟩, ⟨by rw [List.range_succ, List.map_append, ← HX.out]; show Kd.R Kd.bool 4 _ _ _ _ (xs ++ [ha_cell S L op N ops i]); rw [← EY.out]; have h_ := HO2.out; rw [List.length_append] at h_; exact h_⟩, HB2⟩
   · have cif := eq_false (show ¬ (i : Int) < (n : Int) by omega)
     have cib := decide_eq_false (show ¬ (i : Int) < (n : Int) by omega)
     have hin : i = n := by have := HI.out.1; omega
     subst hin
     go_wp2
     exact bodyPost_ret (results_tmp rfl _ _ _) rfl ⟨_, rfl, Kd.R_lower HO.out HW.out.b.size, below_step HW.out.b HB.out⟩

/-! ### slices.Clone of rows: function 34; what comes back is read alone -/
def ha_enc (x : Option Addr × Nat × Nat) : Value := .slice x.1 x.2.1 x.2.2
theorem ha_enc1 (x : Option Addr × Nat × Nat) : (ha_enc x).oneCell' = true := rfl
theorem ha_heads {w : World} {A : Option Addr} {l : List (List Bool)} (h : Kd.C (Kd.slice 4 Kd.bool) w A l.length l) : ∃ ys : List (Option Addr × Nat × Nat), (Kd.scalar ha_enc ha_enc1).C w A l.length ys ∧ ys.length = l.length ∧ ∀ j (hj : j < l.length), ∃ y, ys[j]? = some y ∧ y.2.1 = l[j].length ∧ l[j].length ≤ y.2.2 ∧ Kd.C Kd.bool w y.1 l[j].length l[j] := by
  obtain ⟨h1, h2, h3⟩ := h
  rcases Nat.eq_zero_or_pos l.length with h0 | h0
  · obtain rfl := List.eq_nil_of_length_eq_zero h0
    exact ⟨[], ⟨rfl, by simp, fun hp => absurd hp (Nat.lt_irrefl 0)⟩, rfl, fun j hj => absurd hj (Nat.not_lt_zero j)⟩
  · obtain ⟨ad, rfl, hc⟩ := h3 h0
    have hx : ∀ j : Fin l.length, ∃ y : Option Addr × Nat × Nat, w.cell? (ad.add j.1) = some (ha_enc y) ∧ y.2.1 = (l[j.1]).length ∧ (l[j.1]).length ≤ y.2.2 ∧ Kd.C Kd.bool w y.1 (l[j.1]).length (l[j.1]) := fun j => by
      obtain ⟨c, hc1, ⟨A', c', hcs, hle, hC⟩, hcell⟩ := hc j.1 _ (List.getElem?_eq_getElem j.2)
      subst hcs
      have := hcell 0 _ rfl
      exact ⟨(A', (l[j.1]).length, c'), by simpa [Kd.slice, ha_enc] using this, rfl, hle, hC⟩
    obtain ⟨f, hf⟩ := Classical.axiomOfChoice hx
    refine ⟨(List.finRange l.length).map f, ⟨by simp, h2, fun _ => ⟨ad, rfl, fun j p hp => ?_⟩⟩, by simp, fun j hj => ⟨f ⟨j, hj⟩, by simp [hj], (hf ⟨j, hj⟩).2⟩⟩
    have hj : j < l.length := by have := (List.getElem?_eq_some_iff.1 hp).1; simpa using this
    have e : p = f ⟨j, hj⟩ := by simp [hj] at hp; exact hp.symm
    subst e
    refine ⟨[ha_enc (f ⟨j, hj⟩)], rfl, rfl, fun i u hu => ?_⟩
    cases i with
    | zero => cases hu; simpa [Kd.scalar] using (hf ⟨j, hj⟩).1
    | succ i => simp at hu
theorem ha_rows {w w1 : World} {A : Option Addr} {l : List (List Bool)} {ys : List (Option Addr × Nat × Nat)} (hC : (Kd.scalar ha_enc ha_enc1).C w1 A l.length ys) (hb : Below w.heap.size w w1) (h : ∀ j (hj : j < l.length), ∃ y, ys[j]? = some y ∧ y.2.1 = l[j].length ∧ l[j].length ≤ y.2.2 ∧ Kd.C Kd.bool w y.1 l[j].length l[j]) : Kd.C (Kd.slice 4 Kd.bool) w1 A l.length l := by
  obtain ⟨h1, h2, h3⟩ := hC
  refine ⟨rfl, h2, fun hp => ?_⟩
  obtain ⟨ad, rfl, hc⟩ := h3 hp
  refine ⟨ad, rfl, fun j p hjp => ?_⟩
  obtain ⟨hj, rfl⟩ := List.getElem?_eq_some_iff.1 hjp
  obtain ⟨y, hy, e1, e2, e3⟩ := h j hj
  obtain ⟨c, hc1, hc2, hc3⟩ := hc j y hy
  subst hc2
  refine ⟨[ha_enc y], rfl, ⟨y.1, y.2.2, by rw [← e1]; rfl, e2, Kd.C_below e3 hb⟩, hc3⟩
set_option maxRecDepth 100000 in
set_option maxHeartbeats 4000000 in
theorem ha_clone (A : Option Addr) (c : Nat) (l : List (List Bool)) (w : World) (hr : Kd.C (Kd.slice 4 Kd.bool) w A l.length l) (hc : l.length ≤ c) (hlim : l.length ≤ 1048576) :
    Calls Try.prog 34 #[.slice A l.length c] w fun e w' => ∃ A' c', e = .returned (.slice A' l.length c') ∧ l.length ≤ c' ∧ Kd.C (Kd.slice 4 Kd.bool) w' A' l.length l ∧ Below w.heap.size w w' := by
  cases A with
  | none =>
    have hl : l = [] := by
      rcases l with _ | ⟨x, t⟩
      · rfl
      · obtain ⟨ad, e, _⟩ := hr.2.2 (by simp)
        cases e
    subst hl
    have he : ∀ (w : World) (n c : Nat), (binOp .eql 55 (.slice none n c) (.slice none 0 0)).run Try.prog w = .ok (.bool true) w := fun _ _ _ => rfl
    go_enter Try.func34, Try.ntmps34
    go_wp2
    all_goals (go_ret; exact ⟨none, 0, rfl, Nat.le_refl _, Kd.C_nil _ _, Below.refl _ _⟩)
  | some a0 =>
    obtain ⟨ys, hy, hyl, hyr⟩ := ha_heads hr
    have HY := am_ hy
    have HYL := am_ hyl
    have HYR := am_ hyr
    have LM := am_ hlim
    have HO := am_ (show (w.alloc (.cells #[] 48)).ownsRow w.heap.size 48 1 (.slice (some ⟨w.heap.size, 0, none⟩) 0 0) ([] : List (Option Addr × Nat × Nat)).length (encs ha_enc []) from ⟨rfl, .inr ⟨w.heap.size, 0, #[], rfl, Nat.le_refl _, World.alloc_heap_new _ _, Nat.le_refl _, by simp [maxLen], rfl, rfl⟩⟩)
    clear hy hyl hyr hr hc hlim
    have he : ∀ (w : World) (n c : Nat), (binOp .eql 55 (.slice (some a0) n c) (.slice none 0 0)).run Try.prog w = .ok (.bool false) w := fun _ _ _ => rfl
    go_enter Try.func34, Try.ntmps34
    go_wp2_with (first | ((with_reducible refine gate_builtin (b := .append) (xs := #[.tmp 5, .tmp 6]) rfl ?_); at_builtin; refine print_append_row_of (w0 := w) ha_enc (none, 0, 0) w.heap.size rfl (.tmp 5) (.tmp 6) 55 48 (.slice none 0 0) 24 rfl Try.underlying55 info48 rfl (by decide) ha_enc1 (.slice (some ⟨w.heap.size, 0, none⟩) 0 0) [] ys (some a0) l.length c rfl rfl HO.out ?hR ?hB ?hS ?hL ?_; (case hR => exact Kd.reads_of_C (Kd.C_alloc HY.out _)); (case hB => exact below_alloc (Below.refl _ _) _); (case hS => simp); (case hL => have := LM.out; simp; omega); intro v1 w1 ho hb hg hat; have hR := Kd.R_of_own (h1 := ha_enc1) (ok := fun _ => True) ho (fun _ _ => trivial); obtain ⟨A1, c1, e1⟩ := Kd.R_slice hR; subst e1; have HR1 := am_ hR; have HB1 := am_ hb; clear hR hb hg hat ho))
    refine bodyPost_ret (results_tmp rfl _ _ _) rfl ?_
    have h1 := Kd.R_reads' HR1.out
    rw [List.nil_append, HYL.out] at h1
    exact ⟨A1, c1, by rw [← HYL.out]; rfl, h1.2.1, ha_rows h1.2.2 HB1.out HYR.out, HB1.out⟩

/-! ### impl_Lasso_along: function 22 -/
def ha_run (S L : List Int) : List S43 → List (List Bool) → Option (List (List Bool))
  | [], st => some st
  | x :: l, st => (impl_operandsOfSaid.f 100 x.f0).bind fun c => if 0 ≤ c ∧ c ≤ (st.length : Int) ∧ HaOk S L x.f0 x.f1 (st.drop (st.length - c.toNat)) then ha_run S L l (st.take (st.length - c.toNat) ++ [ha_row S L x.f0 x.f1 (st.drop (st.length - c.toNat))]) else none
def impl_Lasso_along.f (l0_0 l0_1 : List Int) (l1 : List S43) : Option (List Bool) := if l1.length ≤ 1000 then (ha_run l0_0 l0_1 l1 []).bind fun st => if 0 < st.length then some (st.getD 0 []) else none else none
theorem ha_first {w : World} {base : Nat} {v : Value} {st : List (List Bool)} (h : Kd.R (Kd.slice 4 Kd.bool) 48 w base (fun _ => True) v st) (hp : 0 < st.length) : ∃ ad c v0, v = .slice (some ad) st.length c ∧ w.cell? (ad.add 0) = some v0 ∧ Kd.R Kd.bool 4 w base (fun _ => True) v0 (st.getD 0 []) := by
  obtain ⟨A, c, e⟩ := Kd.R_slice h
  subst e
  obtain ⟨_, inner, hown, hr⟩ := h
  obtain ⟨v0, hv0, hR⟩ := hr.2 0 _ (List.getElem?_eq_getElem hp)
  have hin : inner[0]? = some v0 := by
    have : inner.length = st.length := by simpa [Kd.slice] using hr.1
    simp only [Nat.zero_mul, List.drop_zero, Kd.slice] at hv0
    cases inner with
    | nil => simp at hv0
    | cons a t => simp at hv0; simp [hv0]
  obtain ⟨ad, hA, hcell⟩ := q_cells (q_of_own hown) hp
  subst hA
  refine ⟨ad, c, v0, rfl, hcell 0 _ hin, ?_⟩
  rw [List.getD_eq_getElem?_getD, List.getElem?_eq_getElem hp]
  exact Kd.R_mono hR (fun _ _ => trivial)
def impl_Lasso_along.T6 : Bool × List (List Nat × List Nat) := (true, [([], []), ([], []), ([0, 1], [0, 1]), ([], []), ([], []), ([], []), ([], []), ([5, 6], [5, 6]), ([7], [7]), ([3, 4, 8, 8], [3, 4, 8]), ([9], [9]), ([2, 10, 9], [2, 10]), ([11, 11, 0, 1, 2, 3, 4, 5, 6, 7, 8, 9, 10, 11], [0, 5, 11])])
def impl_Lasso_along.B6 : List Nat := [0, 0, 3, 0, 0, 0, 0, 96, 224, 504, 1016, 2047, 4095]
theorem impl_Lasso_along.tab6 : rtab .any (opsOf Try.f22 6) = impl_Lasso_along.T6 := by kernel_rfl
theorem impl_Lasso_along.bits6 : waitsOk impl_Lasso_along.T6.2 impl_Lasso_along.B6 = true := by kernel_rfl
theorem ha_rd (l : List S43) (i : Nat) (h : i < l.length) : l.drop i = rd_T43 l (i : Int) :: l.drop (i + 1) := by
  rw [List.drop_eq_getElem_cons h]
  congr 1
  simp [rd_T43, h]
set_option maxRecDepth 100000 in
set_option maxHeartbeats 4000000 in
theorem impl_Lasso_along.calls (A0_0 : Option Addr) (c0_0 : Nat) (l0_0 : List Int) (A0_1 : Option Addr) (c0_1 : Nat) (l0_1 : List Int) (A1 : Option Addr) (c1 : Nat) (l1 : List (S43)) (r : List Bool) (w : World) (hr0_0 : Kd.C (Kd.int .i64) w A0_0 l0_0.length l0_0) (hc0_0 : l0_0.length ≤ c0_0) (hr0_1 : Kd.C (Kd.int .i64) w A0_1 l0_1.length l0_1) (hc0_1 : l0_1.length ≤ c0_1) (hr1 : Kd.C k43 w A1 l1.length l1) (hc1 : l1.length ≤ c1) (h : impl_Lasso_along.f l0_0 l0_1 l1 = some r) :
  Calls Try.prog 22 #[.agg #[.slice A0_0 l0_0.length c0_0, .slice A0_1 l0_1.length c0_1], .slice A1 l1.length c1] w fun e w' => ∃ v0_ : Value, e = .returned (v0_) ∧ Kd.R Kd.bool 4 w' w.heap.size (fun _ => True) v0_ r ∧ Below w.heap.size w w' := by
  unfold impl_Lasso_along.f at h
  by_cases c1_ : l1.length ≤ 1000
  rotate_left
  · rw [if_neg c1_] at h
    cases h
  rw [if_pos c1_] at h
  obtain ⟨stf, AR, h⟩ := Sh.ba h
  by_cases c2_ : 0 < stf.length
  rotate_left
  · rw [if_neg c2_] at h
    cases h
  rw [if_pos c2_] at h
  have HRR := am_ (Option.some.inj h)
  have HR0 := am_ hr0_0
  have HC0 := am_ hc0_0
  have HR1 := am_ hr0_1
  have HC1 := am_ hc0_1
  have HRF := am_ hr1
  have LN := am_ c1_
  have LP := am_ c2_
  obtain ⟨W0, hW0⟩ : ∃ W0, W0 = (w.alloc (.cells #[.slice A0_0 l0_0.length c0_0, .slice A0_1 l0_1.length c0_1] 32)).alloc (.cells #[] 48) := ⟨_, rfl⟩
  have HB := am_ (show Below w.heap.size w W0 by rw [hW0]; exact below_alloc (below_alloc (Below.refl _ _) _) _)
  have HX := am_ (show W0.heap[w.heap.size]? = some (.cells #[.slice A0_0 l0_0.length c0_0, .slice A0_1 l0_1.length c0_1] 32 (0, 0)) by rw [hW0]; exact blk_below (World.alloc_heap_new w _) (below_alloc (Below.refl _ _) _))
  have HS := am_ (show Kd.R (Kd.slice 4 Kd.bool) 48 W0 w.heap.size (fun _ => True) (.slice (some ⟨w.heap.size + 1, 0, none⟩) 0 0) [] by
    rw [hW0]
    have hn := World.alloc_heap_new (w.alloc (.cells #[.slice A0_0 l0_0.length c0_0, .slice A0_1 l0_1.length c0_1] 32)) (.cells #[] 48)
    rw [World.size_alloc] at hn
    exact ⟨fun _ _ => trivial, [], ⟨rfl, .inr ⟨w.heap.size + 1, 0, #[], rfl, Nat.le_succ _, hn, Nat.le_refl _, by simp [maxLen], rfl, rfl⟩⟩, Reps.none _ _⟩)
  have HE := am_ hW0
  clear hW0 hr0_0 hc0_0 hr0_1 hc0_1 hr1 h c1_ c2_
  go_enter Try.func22, Try.ntmps22
  go_wp2
  change Code.wp Try.prog _ _ _ ((w.alloc (.cells #[.slice A0_0 l0_0.length c0_0, .slice A0_1 l0_1.length c0_1] 32)).alloc (.cells #[] 48))
  rw [← HE.out]
  go_loopg [5, 12] l1.length (fun kq v5 v12 w' => ∃ (i : Nat) (vS : Value) (st : List (List Bool)), v5 = vS ∧ v12 = .int .i64 (i : Int) ∧ Aside0 (i ≤ l1.length ∧ l1.length - i ≤ kq ∧ st.length ≤ i) ∧ Aside0 (ha_run l0_0 l0_1 (l1.drop i) st = some stf) ∧ Aside0 (Kd.R (Kd.slice 4 Kd.bool) 48 w' w.heap.size (fun _ => True) vS st) ∧ Aside0 (w'.heap[w.heap.size]? = some (.cells #[.slice A0_0 l0_0.length c0_0, .slice A0_1 l0_1.length c0_1] 32 (0, 0))) ∧ Aside0 (Below w.heap.size w w'))
  case atStart => exact ⟨0, _, [], rfl, rfl, ⟨⟨Nat.zero_le _, Nat.le_refl _, Nat.le_refl _⟩⟩, ⟨by rw [List.drop_zero]; exact AR.out⟩, HS, HX, HB⟩
  case round =>
   clear HS HX HB AR
   obtain ⟨i, vS, st, rfl, rfl, HI, HA, HS, HX, HB⟩ := hrel
   by_cases ci : i < l1.length
   · have cit := eq_true (show (i : Int) < (l1.length : Int) by omega)
     have cib := decide_eq_true (show (i : Int) < (l1.length : Int) by omega)
     have CI := am_ ci
     have H := HA.out
     rw [ha_rd l1 i ci] at H
     simp only [ha_run] at H
     obtain ⟨c, AO, H⟩ := Sh.ba H
     obtain ⟨ad, e_, hx0, hx1⟩ := at_T43 (Kd.C_below HRF.out HB.out) (i : Int) (by omega) (by omega)
     cases e_
     rw [Int.toNat_natCast] at hx0 hx1
     generalize rd_T43 l1 (i : Int) = x at AO H hx0 hx1
     have p192 := eq_true (show 0 ≤ (i : Int) by omega)
     by_cases cc : 0 ≤ c ∧ c ≤ (st.length : Int) ∧ HaOk l0_0 l0_1 x.f0 x.f1 (st.drop (st.length - c.toNat))
     rotate_left
     · rw [if_neg cc] at H
       cases H
     rw [if_pos cc] at H
     obtain ⟨j, hj⟩ : ∃ j, j = st.length - c.toNat := ⟨_, rfl⟩
     obtain ⟨cc1, cc2, cc3⟩ := cc
     rw [← hj] at H cc3
     have hjn : j ≤ st.length := by omega
     have hjw : IntKind.i64.wrap ((st.length : Int) - c) = (j : Int) := by rw [i64_w]; unfold wrap64; have := HI.out.2.2; have := HI.out.1; have := LN.out; omega
     obtain ⟨row, hrow⟩ : ∃ row, row = ha_row l0_0 l0_1 x.f0 x.f1 (st.drop j) := ⟨_, rfl⟩
     rw [← hrow] at H
     obtain ⟨ops, hops⟩ : ∃ ops, ops = st.drop j := ⟨_, rfl⟩
     rw [← hops] at cc3 hrow
     obtain ⟨AS, cS, eS⟩ := Kd.R_slice HS.out
     subst eS
     have hsc := (Kd.R_reads' HS.out).2.1
     obtain ⟨i48, hi48, _, hs48, _⟩ := info_parts info48
     have hcut2 := cut_to (P := Try.prog) 55 48 .i64 Try.underlying55 hi48 AS st.length cS (j : Int) (by omega) (by omega) hsc
     have hcut7 := cut_from (P := Try.prog) 55 48 .i64 Try.underlying55 hi48 1 hs48 AS st.length cS (j : Int) (by omega) (by omega)
     rw [Int.toNat_natCast] at hcut2 hcut7
     have hC := Kd.C_drop (c := cS) (Kd.R_reads' HS.out).2.2 (m := j) hjn hsc
     rw [← hops] at hC
     have hol : ops.length = st.length - j := by rw [hops, List.length_drop]
     rw [← hol] at hcut7
     rw [show j * (Kd.slice 4 Kd.bool).sz = j * 1 from rfl] at hC
     generalize (if cS = j then AS else AS.map fun a => a.add (j * 1)) = A7 at hcut7 hC
     have HOK := am_ cc3
     have HROW := am_ hrow
     have HOPS := am_ hops
     have HCO := am_ hC
     have JN := am_ hjn
     have SC := am_ hsc
     have OL := am_ hol
     have H' := am_ H
     clear H cc1 cc2 cc3 HA ci hrow hops hC hjn hsc hol hj hi48 hs48
     go_wp2_with (first | (go_at_call 30; refine (impl_operandsOfSaid.calls 100 x.f0 c _ AO.out).mono ?_; rintro e w' ⟨rfl, ⟨nd, rfl⟩⟩))
     have HX7 := am_ (World.alloc_heap_new wr (.cells #[.int .i64 x.f0, .int .i64 x.f1] 43))
     have hbX : Below wr.heap.size wr ((wr.alloc (.cells #[.int .i64 x.f0, .int .i64 x.f1] 43)).drewN nd).drew := below_drew1 (pw_below_drewN (below_alloc (Below.refl _ _) _) _)
     replace HX7 := am_ (blk_drew (blk_below HX7.out (pw_below_drewN (Below.refl _ _) nd)))
     have HXX := am_ (blk_below HX.out hbX)
     have HSX := am_ (Kd.R_below HS.out hbX)
     have HBX := am_ (below_step HB.out hbX)
     have HCX := am_ (Kd.C_below HCO.out hbX)
     clear hbX HX HS HB HCO hx0 hx1
     refine start_ (n := 13) (S := fun w' => w'.cell? ⟨w.heap.size, 0, none⟩ = some (.slice A0_0 l0_0.length c0_0) ∧ w'.cell? ⟨w.heap.size, 1, none⟩ = some (.slice A0_1 l0_1.length c0_1) ∧ w'.cell? ⟨wr.heap.size, 0, none⟩ = some (.int .i64 x.f0) ∧ w'.cell? ⟨wr.heap.size, 1, none⟩ = some (.int .i64 x.f1)) (ds := []) (Sh.nm 13 0) (by kernel_rfl) rfl rfl ⟨Sh.bc HXX.out 0, Sh.bc HXX.out 1, Sh.bc HX7.out 0, Sh.bc HX7.out 1⟩ (fun hHeld => ?_)
     refine with_tabW impl_Lasso_along.tab6 impl_Lasso_along.bits6 (fun HT_ HW_ => ?_)
     generalize ((wr.alloc (.cells #[.int .i64 x.f0, .int .i64 x.f1] 43)).drewN nd).drew = w1 at HX7 HXX HSX HBX HCX hHeld ⊢
     refine Sh.qA 0 ?_; refine Sh.qA 1 ?_; refine Sh.qA 2 ?_; refine Sh.qA 5 ?_; refine Sh.qA 6 ?_; refine Sh.qA 7 ?_; refine Sh.qT 3 hHeld ?_; refine Sh.qT 4 hHeld ?_
     clear hcut2 hcut7 hjw
     refine Sh.oC 8 Try.func34 #[.slice A7 ops.length (cS - j)] fun K hK => ?_
     refine (ha_clone A7 (cS - j) ops w1 HCX.out (by have := OL.out; have := SC.out; omega) (by have := OL.out; have := HI.out.2.2; have := HI.out.1; have := LN.out; omega)).mono ?_
     rintro e w2 ⟨A8, c8, rfl, hc8, hC8, hb⟩
     refine ⟨_, rfl, ?_⟩
     have HC8 := am_ hC8
     have HC8c := am_ hc8
     replace HX7 := am_ (blk_below HX7.out hb)
     replace HXX := am_ (blk_below HXX.out hb)
     replace HSX := am_ (Kd.R_below HSX.out hb)
     replace HBX := am_ (below_step HBX.out hb)
     clear hC8 hc8 hb HCX
     refine Sh.kN hK ⟨Sh.bc HXX.out 0, Sh.bc HXX.out 1, Sh.bc HX7.out 0, Sh.bc HX7.out 1⟩ fun hHeld => ?_
     clear hK K
     refine Sh.oC 9 Try.func33 #[.agg #[.slice A0_0 l0_0.length c0_0, .slice A0_1 l0_1.length c0_1], .agg #[.int .i64 x.f0, .int .i64 x.f1], .slice A8 ops.length c8] fun K hK => ?_
     refine (impl_Lasso_holdsAlong.gen A0_0 c0_0 l0_0 A0_1 c0_1 l0_1 x.f0 x.f1 A8 c8 ops w2 (Kd.C_below HR0.out HBX.out) HC0.out (Kd.C_below HR1.out HBX.out) HC1.out HC8.out HC8c.out HOK.out).mono ?_
     rintro e w3 ⟨v9, rfl, ho, hb⟩
     refine ⟨_, rfl, ?_⟩
     rw [← HROW.out] at ho
     obtain ⟨A9, c9, e9⟩ := Kd.R_slice ho
     subst e9
     have HO9 := am_ (Kd.R_mono (Kd.R_bound ho) (ok' := fun k => w2.heap.size ≤ k) (fun _ hk => hk.2.1))
     have HLT := am_ (fun k hk => Nat.lt_of_lt_of_le (Kd.R_lt HSX.out k hk) (Nat.le_refl w2.heap.size))
     have HSZ := am_ HBX.out.size
     replace HX7 := am_ (blk_below HX7.out hb)
     replace HXX := am_ (blk_below HXX.out hb)
     replace HSX := am_ (Kd.R_below HSX.out hb)
     replace HBX := am_ (below_step HBX.out hb)
     clear ho hb
     refine Sh.kN hK ⟨Sh.bc HXX.out 0, Sh.bc HXX.out 1, Sh.bc HX7.out 0, Sh.bc HX7.out 1⟩ fun hHeld => ?_
     clear hK K
     refine one_ (i := 10) (N := some 32) (Sh.nm 13 2047) rfl rfl (one_of HT_.out (by kernel_rfl)) (by decide) (fun K hK => ?_)
     refine value_ (w1 := ?_) (v := ?_) (by rfl) rfl ?_ ?_
     rotate_left 2
     · go_simp
       constructor
       · rfl
       · rfl
     refine Sh.kN hK ⟨(below_alloc (Below.refl w3.heap.size w3) _).cell (World.block_lt_of_cell? _ _ hHeld.1) |>.trans hHeld.1, (below_alloc (Below.refl w3.heap.size w3) _).cell (World.block_lt_of_cell? _ _ hHeld.2.1) |>.trans hHeld.2.1, (below_alloc (Below.refl w3.heap.size w3) _).cell (World.block_lt_of_cell? _ _ hHeld.2.2.1) |>.trans hHeld.2.2.1, (below_alloc (Below.refl w3.heap.size w3) _).cell (World.block_lt_of_cell? _ _ hHeld.2.2.2) |>.trans hHeld.2.2.2⟩ fun hHeld => ?_
     clear hK K
     refine one_ (i := 11) (N := some 33) (Sh.nm 13 4095) rfl rfl (one_of HT_.out (by kernel_rfl)) (by decide) (fun K hK => ?_)
     refine Kd.R_append_step (Kd.slice 4 Kd.bool) (w0 := w) w.heap.size (by rfl) (.tmp 24) (.tmp 32) 55 48 (.slice none 0 0) 24 rfl Try.underlying55 info48 rfl (by decide) (by decide) (.slice AS j cS) (st.take j) row [.slice A9 row.length c9] (fun _ => True) (fun k => w2.heap.size ≤ k) rfl rfl ?aP ?aK (fun _ _ => trivial) ?aO HBX.out HBX.out.size ?aL ?_
     case aP => exact Kd.M_row (Kd.R_lower HO9.out HSZ.out)
     case aK => exact fun k hk => ⟨trivial, fun e => by have := HLT.out k (by cases AS <;> simpa [Value.ownBlock] using e.symm); omega⟩
     case aO => exact Kd.R_take HSX.out JN.out
     case aL => rw [List.length_take]; have := HI.out.2.2; have := HI.out.1; have := LN.out; have := JN.out; omega
     intro v1 w4 ho hb hg hat
     obtain ⟨AV, cV, eV⟩ := Kd.R_slice ho
     subst eV
     replace HX7 := am_ (blk_grown HX7.out hg (Kd.R_ne (Kd.R_take HSX.out JN.out) HX7.out (by decide)))
     replace HXX := am_ (blk_grown HXX.out hg (Kd.R_ne (Kd.R_take HSX.out JN.out) HXX.out (by decide)))
     have HS4 := am_ ho
     have HB4 := am_ hb
     clear ho hb hg hat HSX HBX
     refine Sh.kN hK ⟨Sh.bc HXX.out 0, Sh.bc HXX.out 1, Sh.bc HX7.out 0, Sh.bc HX7.out 1⟩ fun hHeld => ?_
     clear hK K
     refine Sh.qA 12 ?_
     refine done_ (done_of HT_.out (by kernel_rfl)) ?_
     clear hHeld
     go_wp2
     go_roundg (l1.length - (i + 1))
     case measure => have := CI.out; have := HI.out.2.1; omega
     case rel => exact ⟨i + 1, _, st.take j ++ [row], rfl, congrArg (Value.int IntKind.i64) (by (try rw [i64_w]); unfold wrap64; have := CI.out; have := LN.out; omega), ⟨⟨CI.out, Nat.le_refl _, by rw [List.length_append, List.length_take, List.length_singleton]; have := HI.out.2.2; omega⟩⟩, H', ⟨by have h_ := HS4.out; rw [List.length_append, List.length_take] at h_; exact h_⟩, HXX, HB4⟩
   · have cif := eq_false (show ¬ (i : Int) < (l1.length : Int) by omega)
     have cib := decide_eq_false (show ¬ (i : Int) < (l1.length : Int) by omega)
     have hst : st = stf := by
       have h_ := HA.out
       rw [List.drop_eq_nil_of_le (by omega)] at h_
       exact Option.some.inj h_
     subst hst
     obtain ⟨ad, c, v0, eS, hc0, hR0⟩ := ha_first HS.out LP.out
     subst eS
     have hlp := eq_true (show (0 : Int) < (st.length : Int) by have := LP.out; omega)
     rw [HRR.out] at hR0
     have HR_ := am_ hR0
     obtain ⟨A0, cc0, e0⟩ := Kd.R_slice hR0
     subst e0
     clear hR0
     have hlq := eq_true (show 0 < st.length from LP.out)
     have ea : ad.add 0 = ad := by unfold Addr.add; split <;> simp_all
     rw [ea] at hc0
     go_wp2
     exact bodyPost_ret (results_tmp rfl _ _ _) rfl ⟨.slice A0 r.length cc0, rfl, HR_.out, HB.out⟩

end Go.Proofs.Ytgcglmkkfkjhhaa.P
