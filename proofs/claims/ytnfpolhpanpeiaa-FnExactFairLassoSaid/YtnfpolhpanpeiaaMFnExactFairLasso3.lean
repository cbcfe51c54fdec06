/- Go functions of this seat as Lean functions, and the proofs that the calls come to what these say; printed by a program of this session. No condition. -/
import Derived.Test.YtnfpolhpanpeiaaP0
import Derived.Test.YtnfpolhpanpeiaaMFnExactFairLasso2
set_option linter.unusedVariables false
set_option linter.unusedSimpArgs false
set_option maxHeartbeats 40000000
set_option maxRecDepth 100000
namespace Go.Proofs.Ytnfpolhpanpeiaa.P
open Go.RowKit Go.Proofs.YtnfpolhpanpeiaaW.PrintWords Go.Proofs.YtnfpolhpanpeiaaW.PrintLast Go.Proofs.YtnfpolhpanpeiaaW.PrintMore Go.Proofs.Ytnfpolhpanpeiaa.Hof
attribute [local go_sem] max2_int min2_int max_two min_two max_three min_three max_four min_four
theorem TJ_b6 {w : World} {g : Nat} {t : TypeId} {a b c d e f : Value} (h : w.heap[g]? = some (.cells #[a, b, c, d, e, f] t (0, 0))) : (w.cell? ⟨g, 0, none⟩ = some a ∧ w.cell? ⟨g, 1, none⟩ = some b ∧ w.cell? ⟨g, 2, none⟩ = some c ∧ w.cell? ⟨g, 3, none⟩ = some d ∧ w.cell? ⟨g, 4, none⟩ = some e ∧ w.cell? ⟨g, 5, none⟩ = some f) ∧ w.frozen? ⟨g, 4, none⟩ = false ∧ w.frozen? ⟨g, 5, none⟩ = false :=
  ⟨⟨Sh.bc h 0 rfl, Sh.bc h 1 rfl, Sh.bc h 2 rfl, Sh.bc h 3 rfl, Sh.bc h 4 rfl, Sh.bc h 5 rfl⟩, blk_frozen h 4, blk_frozen h 5⟩
/-- The search at block g of W; its rows (found, low, part: n each; the stack) are made behind w0. -/
def IsT (nx : Value) (n : Nat) (w0 W : World) (g gF cF gL cL gP cP : Nat) (vS : Value) (F L P S : List Int) (vis : Int) : Prop :=
  W.heap[g]? = some (.cells #[nx, .slice (some ⟨gF, 0, none⟩) n cF, .slice (some ⟨gL, 0, none⟩) n cL, .slice (some ⟨gP, 0, none⟩) n cP, vS, .int .i64 vis] 62 (0, 0)) ∧ w0.heap.size ≤ g ∧ (gF ≠ gL ∧ gF ≠ gP ∧ gL ≠ gP) ∧ (some gF ≠ vS.ownBlock ∧ some gL ≠ vS.ownBlock ∧ some gP ≠ vS.ownBlock) ∧
  Kd.R (Kd.int .i64) 3 W w0.heap.size (fun _ => True) (.slice (some ⟨gF, 0, none⟩) n cF) F ∧ Kd.R (Kd.int .i64) 3 W w0.heap.size (fun _ => True) (.slice (some ⟨gL, 0, none⟩) n cL) L ∧ Kd.R (Kd.int .i64) 3 W w0.heap.size (fun _ => True) (.slice (some ⟨gP, 0, none⟩) n cP) P ∧ Kd.R (Kd.int .i64) 3 W w0.heap.size (fun _ => True) vS S
section
variable {nx : Value} {n : Nat} {w0 W W1 : World} {g gF cF gL cL gP cP : Nat} {vS : Value} {F L P S : List Int} {vis : Int}
theorem TJ_own (g n c : Nat) : (Value.slice (some ⟨g, 0, none⟩) n c).ownBlock = some g := rfl
theorem TJ_far {e base a : Nat} {v u : Value} {xs : List Int} {j : Nat} (h : Kd.R (Kd.int .i64) e W base (fun _ => True) v xs) (hne : some a ≠ v.ownBlock) : Kd.R (Kd.int .i64) e (W.setCell ⟨a, j, none⟩ u) base (fun _ => True) v xs :=
  Kd.R_mono (Kd.R_far (p := ⟨a, j, none⟩) (Kd.R_far1 h rfl hne) (fun _ hk => hk.2) u) (fun _ _ => trivial)
theorem TJ_set {e base a t : Nat} {cells : Array Value} {v u : Value} {xs : List Int} {j : Nat} (h : Kd.R (Kd.int .i64) e W base (fun _ => True) v xs) (hb : W.heap[a]? = some (.cells cells t (0, 0))) (hne : e ≠ t) : Kd.R (Kd.int .i64) e (W.setCell ⟨a, j, none⟩ u) base (fun _ => True) v xs :=
  TJ_far h (Kd.R_ne h hb hne)
theorem IsT.below (h : IsT nx n w0 W g gF cF gL cL gP cP vS F L P S vis) (hw : Below W.heap.size W W1) : IsT nx n w0 W1 g gF cF gL cL gP cP vS F L P S vis := by
  obtain ⟨h1, h2, h3, h4, h5, h6, h7, h8⟩ := h
  exact ⟨blk_below h1 hw, h2, h3, h4, Kd.R_below h5 hw, Kd.R_below h6 hw, Kd.R_below h7 hw, Kd.R_below h8 hw⟩
theorem IsT.lens (h : IsT nx n w0 W g gF cF gL cL gP cP vS F L P S vis) : F.length = n ∧ L.length = n ∧ P.length = n := by
  obtain ⟨h1, h2, h3, h4, h5, h6, h7, h8⟩ := h
  exact ⟨(Kd.R_reads' h5).1.symm, (Kd.R_reads' h6).1.symm, (Kd.R_reads' h7).1.symm⟩
theorem IsT.setF (h : IsT nx n w0 W g gF cF gL cL gP cP vS F L P S vis) (i x : Int) : IsT nx n w0 (W.setCell ⟨gF, i.toNat, none⟩ (.int .i64 x)) g gF cF gL cL gP cP vS (F.set i.toNat x) L P S vis := by
  obtain ⟨h1, h2, ⟨h3, h4, h5⟩, ⟨k1, k2, k3⟩, h6, h7, h8, h9⟩ := h
  have hp := Kd.R_putg h6 i x
  refine ⟨blk_grown h1 hp.2 (fun e => ?_), h2, ⟨h3, h4, h5⟩, ⟨k1, k2, k3⟩, hp.1, TJ_far h7 (by rw [TJ_own]; simpa using h3), TJ_far h8 (by rw [TJ_own]; simpa using h4), TJ_far h9 k1⟩
  exact Kd.R_ne h6 h1 (by decide) (by rw [TJ_own]; exact e)
theorem IsT.setL (h : IsT nx n w0 W g gF cF gL cL gP cP vS F L P S vis) (i x : Int) : IsT nx n w0 (W.setCell ⟨gL, i.toNat, none⟩ (.int .i64 x)) g gF cF gL cL gP cP vS F (L.set i.toNat x) P S vis := by
  obtain ⟨h1, h2, ⟨h3, h4, h5⟩, ⟨k1, k2, k3⟩, h6, h7, h8, h9⟩ := h
  have hp := Kd.R_putg h7 i x
  refine ⟨blk_grown h1 hp.2 (fun e => ?_), h2, ⟨h3, h4, h5⟩, ⟨k1, k2, k3⟩, TJ_far h6 (by rw [TJ_own]; simpa using h3.symm), hp.1, TJ_far h8 (by rw [TJ_own]; simpa using h5), TJ_far h9 k2⟩
  exact Kd.R_ne h7 h1 (by decide) (by rw [TJ_own]; exact e)
theorem IsT.setP (h : IsT nx n w0 W g gF cF gL cL gP cP vS F L P S vis) (i x : Int) : IsT nx n w0 (W.setCell ⟨gP, i.toNat, none⟩ (.int .i64 x)) g gF cF gL cL gP cP vS F L (P.set i.toNat x) S vis := by
  obtain ⟨h1, h2, ⟨h3, h4, h5⟩, ⟨k1, k2, k3⟩, h6, h7, h8, h9⟩ := h
  have hp := Kd.R_putg h8 i x
  refine ⟨blk_grown h1 hp.2 (fun e => ?_), h2, ⟨h3, h4, h5⟩, ⟨k1, k2, k3⟩, TJ_far h6 (by rw [TJ_own]; simpa using h4.symm), TJ_far h7 (by rw [TJ_own]; simpa using h5.symm), hp.1, TJ_far h9 k3⟩
  exact Kd.R_ne h8 h1 (by decide) (by rw [TJ_own]; exact e)
theorem IsT.setV (h : IsT nx n w0 W g gF cF gL cL gP cP vS F L P S vis) (x : Int) : IsT nx n w0 (W.setCell ⟨g, 5, none⟩ (.int .i64 x)) g gF cF gL cL gP cP vS F L P S x := by
  obtain ⟨h1, h2, h3, h4, h6, h7, h8, h9⟩ := h
  exact ⟨blk_put h1 5 (.int .i64 x) rfl, h2, h3, h4, TJ_set h6 h1 (by decide), TJ_set h7 h1 (by decide), TJ_set h8 h1 (by decide), TJ_set h9 h1 (by decide)⟩
/-- The stack's row is another one: behind an append (W1), or cut. -/
theorem IsT.setS (h : IsT nx n w0 W g gF cF gL cL gP cP vS F L P S vis) {vT : Value} {S' : List Int} (hg : W.grownBy W1 vS.ownBlock) (hat : vT.ownBlock = vS.ownBlock ∨ ∃ b, vT.ownBlock = some b ∧ W.heap.size ≤ b) (hT : Kd.R (Kd.int .i64) 3 W1 w0.heap.size (fun _ => True) vT S') :
    IsT nx n w0 (W1.setCell ⟨g, 4, none⟩ vT) g gF cF gL cL gP cP vT F L P S' vis := by
  obtain ⟨h1, h2, h3, ⟨k1, k2, k3⟩, h6, h7, h8, h9⟩ := h
  have hb := blk_grown h1 hg (Kd.R_ne h9 h1 (by decide))
  have key : ∀ {x : Nat} {v : Value} {xs : List Int}, v.ownBlock = some x → some x ≠ vS.ownBlock → Kd.R (Kd.int .i64) 3 W w0.heap.size (fun _ => True) v xs → some x ≠ vT.ownBlock := by
    intro x v xs hv hne hr
    rcases hat with hat | ⟨b, hb', hle⟩
    · rw [hat]; exact hne
    · rw [hb']
      intro e
      injection e with e
      have := Kd.R_lt hr x hv
      omega
  have mv : ∀ {v : Value} {x : Nat} {xs : List Int}, v.ownBlock = some x → some x ≠ vS.ownBlock → Kd.R (Kd.int .i64) 3 W w0.heap.size (fun _ => True) v xs → Kd.R (Kd.int .i64) 3 (W1.setCell ⟨g, 4, none⟩ vT) w0.heap.size (fun _ => True) v xs := by
    intro v x xs hv hne hr
    exact TJ_set (Kd.R_mono (Kd.R_grown1 hr rfl hg (by rw [hv]; exact fun e => hne e.symm)) (fun _ _ => trivial)) hb (by decide)
  exact ⟨blk_put hb 4 vT rfl, h2, h3, ⟨key (TJ_own _ _ _) k1 h6, key (TJ_own _ _ _) k2 h7, key (TJ_own _ _ _) k3 h8⟩, mv (TJ_own _ _ _) k1 h6, mv (TJ_own _ _ _) k2 h7, mv (TJ_own _ _ _) k3 h8, TJ_set hT hb (by decide)⟩
end
theorem TJ_store {P : Program} {ops : Array Oper} {oi : Oper} {a : Act} {W w1 : World} {Kc : Act → World → Prop} {Q' : Exit → Act → World → Prop} (hw : Region.wanted oi (yielded ops a.tmps) = true) (hN : oi.dst = none) (hrun : (execOp a.eval oi).run P W = .ok .skip w1) (h : ∀ w', w' = w1 → Kc a w') :
    if Region.wanted oi (yielded ops a.tmps) = true then Oper.wp P oi a W Kc Q' else Kc (a.put none undef) W := by
  rw [if_pos hw]
  unfold Oper.wp
  rw [hrun]
  show Kc (a.put oi.dst undef) w1
  rw [hN]
  exact h _ rfl
theorem IsT.rl {nx : Value} {n : Nat} {w0 W W1 : World} {g gF cF gL cL gP cP : Nat} {vS : Value} {F L P S : List Int} {vis : Int} (h : IsT nx n w0 W g gF cF gL cL gP cP vS F L P S vis) (hs : Below W.heap.size W W1 := by (repeat (with_reducible first | apply below_alloc | apply pw_below_drewN | apply below_drew1)); exact Below.refl _ _) : IsT nx n w0 W1 g gF cF gL cL gP cP vS F L P S vis := h.below hs
theorem IsT.am {nx : Value} {n : Nat} {w0 W W1 : World} {g gF cF gL cL gP cP : Nat} {vS : Value} {F L P S : List Int} {vis : Int} (h : Aside0 (IsT nx n w0 W g gF cF gL cL gP cP vS F L P S vis)) (hs : Below W.heap.size W W1 := by (repeat (with_reducible first | apply below_alloc | apply pw_below_drewN | apply below_drew1)); exact Below.refl _ _) : Aside0 (IsT nx n w0 W1 g gF cF gL cL gP cP vS F L P S vis) := ⟨h.out.below hs⟩
theorem IsT.stackC {nx : Value} {n c : Nat} {w0 W W1 : World} {g gF cF gL cL gP cP : Nat} {A : Option Addr} {F L P S : List Int} {vis : Int} (h : IsT nx n w0 W g gF cF gL cL gP cP (.slice A S.length c) F L P S vis) (hs : Below W.heap.size W W1 := by (repeat (with_reducible first | apply below_alloc | apply pw_below_drewN | apply below_drew1)); exact Below.refl _ _) : Kd.C (Kd.int .i64) W1 A S.length S := (Kd.R_reads' (h.below hs).2.2.2.2.2.2.2).2.2
theorem IsT.cutC {nx : Value} {n c : Nat} {w0 W W1 : World} {g gF cF gL cL gP cP : Nat} {A A5 : Option Addr} {F L P S yD : List Int} {vis : Int} (h : IsT nx n w0 W g gF cF gL cL gP cP (.slice A S.length c) F L P S vis) (hA : ∀ w : World, ReadsOf (Value.int .i64) (0 : Int) w A S.length S → ReadsOf (Value.int .i64) (0 : Int) w A5 yD.length yD) (hs : Below W.heap.size W W1 := by (repeat (with_reducible first | apply below_alloc | apply pw_below_drewN | apply below_drew1)); exact Below.refl _ _) : Kd.C (Kd.int .i64) W1 A5 yD.length yD :=
  Kd.C_of_reads (enc := Value.int .i64) (d := (0 : Int)) (h1 := fun _ => rfl) (hA _ (Kd.reads_of_C (enc := Value.int .i64) (d := (0 : Int)) (h1 := fun _ => rfl) (h.stackC hs)))
theorem IsT.cutS {nx : Value} {n c k : Nat} {w0 W : World} {g gF cF gL cL gP cP : Nat} {A : Option Addr} {F L P S yT : List Int} {vis : Int} (h : IsT nx n w0 W g gF cF gL cL gP cP (.slice A S.length c) F L P S vis) (hk : k ≤ S.length) (hT : yT = S.take k) : IsT nx n w0 (W.setCell ⟨g, 4, none⟩ (.slice A yT.length c)) g gF cF gL cL gP cP (.slice A yT.length c) F L P yT vis := by
  refine IsT.setS h (World.grownBy.refl _ _) (.inl (by cases A <;> rfl)) ?_
  subst hT
  have := Kd.R_take h.2.2.2.2.2.2.2 hk
  rwa [List.length_take, Nat.min_eq_left hk]

def impl_visit.l1 : Nat → List Int → List Int → List Int → Int → List Int → Int → List Int → Int → Option (List Int × List Int × List Int × List Int × Int)
 | 0, _, _, _, _, _, _, _, _ => none
 | k + 1, F, L, S, vis, cut, m, P, i => if i < (cut.length : Int) then (if 0 ≤ i ∧ 0 ≤ rd cut i ∧ rd cut i < (P.length : Int) then impl_visit.l1 k F L S vis cut m (P.set (rd cut i).toNat m) (wrap64 (i + 1)) else none) else some (F, L, P, S, vis)
def impl_visit.e (k : Nat) (v : Int) (F L P S : List Int) (vis : Int) : Option (List Int × List Int × List Int × List Int × Int) :=
  if rd L v < rd F v then some (F, L, P, S, vis) else (slices_Index_int_int.f k S v).bind fun j => if 0 ≤ j ∧ j ≤ (S.length : Int) then (slices_Min_int_int.f k (S.drop j.toNat)).bind fun m => impl_visit.l1 k F L (S.take j.toNat) vis (S.drop j.toNat) m P 0 else none
mutual
def impl_visit.l0 : Nat → List (List Int) → Int → List Int → Int → List Int → List Int → List Int → List Int → Int → Option (List Int × List Int × List Int × List Int × Int)
 | 0, _, _, _, _, _, _, _, _, _ => none
 | k + 1, N, v, row, i, F, L, P, S, vis => if i < (row.length : Int) then (if 0 ≤ i ∧ 0 ≤ rd row i ∧ rd row i < (N.length : Int) then (if rd F (rd row i) = 0 then ((impl_visit.f k N (rd row i) F L P S vis).bind fun t => impl_visit.l0 k N v row (wrap64 (i + 1)) t.1 (t.2.1.set v.toNat (mn (rd t.2.1 v) (rd t.2.1 (rd row i)))) t.2.2.1 t.2.2.2.1 t.2.2.2.2) else (if rd P (rd row i) < 0 then impl_visit.l0 k N v row (wrap64 (i + 1)) F (L.set v.toNat (mn (rd L v) (rd F (rd row i)))) P S vis else impl_visit.l0 k N v row (wrap64 (i + 1)) F L P S vis)) else none) else impl_visit.e k v F L P S vis
def impl_visit.f : Nat → List (List Int) → Int → List Int → List Int → List Int → List Int → Int → Option (List Int × List Int × List Int × List Int × Int)
 | 0, _, _, _, _, _, _, _ => none
 | k + 1, N, v, F, L, P, S, vis => if 0 ≤ v ∧ v < (N.length : Int) ∧ S.length < 17592186044416 then impl_visit.l0 k N v (rd_L1 N v) 0 (F.set v.toNat (wrap64 (vis + 1))) (L.set v.toNat (wrap64 (vis + 1))) P (S ++ [v]) (wrap64 (vis + 1)) else none
end

def impl_visit.T1 : Bool × List (List Nat × List Nat) := (true, [([], []), ([0], [0]), ([1], [1]), ([2], [2]), ([], []), ([], []), ([5], [5]), ([6], [6]), ([7], [7]), ([], []), ([], []), ([10], [10]), ([11], [11]), ([12], [12]), ([], []), ([14], [14]), ([15], [15]), ([16], [16]), ([3, 4, 0, 1, 2, 3, 4, 8, 10, 11, 12, 13, 17], [3, 4]), ([18, 13, 0, 1, 2, 3, 4, 8, 10, 11, 12, 13, 17], [13, 18]), ([8, 9, 0, 1, 2, 3, 4, 5, 6, 7, 8, 9, 10, 11, 12, 13, 14, 15, 16, 17, 18, 19], [8, 9]), ([20, 17, 19, 0, 1, 2, 3, 4, 5, 6, 7, 8, 9, 10, 11, 12, 13, 14, 15, 16, 17, 18, 19], [17, 20])])
def impl_visit.B1 : List Nat := [0, 1, 3, 7, 0, 0, 32, 96, 224, 0, 0, 1024, 3072, 7168, 0, 16384, 49152, 114688, 261631, 523775, 1048575, 2097151]
theorem impl_visit.tab1 : rtab .any (opsOf Try.f47 1) = impl_visit.T1 := by kernel_rfl
theorem impl_visit.bits1 : waitsOk impl_visit.T1.2 impl_visit.B1 = true := by kernel_rfl
def impl_visit.T8 : Bool × List (List Nat × List Nat) := (true, [([], []), ([0], [0]), ([1], [1]), ([2], [2]), ([], []), ([], []), ([5], [5]), ([6], [6]), ([7], [7]), ([], []), ([8, 9], [8, 9]), ([10], [10]), ([], []), ([12], [12]), ([13], [13]), ([14], [14]), ([], []), ([15, 16], [15, 16]), ([17], [17]), ([11, 18], [11, 18]), ([3, 4, 0, 1, 2, 3, 4, 5, 6, 7, 8, 9, 10, 11, 12, 13, 14, 15, 16, 17, 18, 19], [3, 4]), ([20, 19, 0, 1, 2, 3, 4, 5, 6, 7, 8, 9, 10, 11, 12, 13, 14, 15, 16, 17, 18, 19], [19, 20])])
def impl_visit.B8 : List Nat := [0, 1, 3, 7, 0, 0, 32, 96, 224, 0, 992, 2016, 0, 4096, 12288, 28672, 0, 126976, 258048, 524256, 1048575, 2097151]
theorem impl_visit.tab8 : rtab .any (opsOf Try.f47 8) = impl_visit.T8 := by kernel_rfl
theorem impl_visit.bits8 : waitsOk impl_visit.T8.2 impl_visit.B8 = true := by kernel_rfl
def impl_visit.T10 : Bool × List (List Nat × List Nat) := (true, [([], []), ([0], [0]), ([1], [1]), ([2], [2]), ([], []), ([], []), ([5], [5]), ([6], [6]), ([7], [7]), ([], []), ([8, 9], [8, 9]), ([10], [10]), ([], []), ([12], [12]), ([13], [13]), ([14], [14]), ([], []), ([15, 16], [15, 16]), ([17], [17]), ([11, 18], [11, 18]), ([3, 4, 0, 1, 2, 3, 4, 5, 6, 7, 8, 9, 10, 11, 12, 13, 14, 15, 16, 17, 18, 19], [3, 4]), ([20, 19, 0, 1, 2, 3, 4, 5, 6, 7, 8, 9, 10, 11, 12, 13, 14, 15, 16, 17, 18, 19], [19, 20])])
def impl_visit.B10 : List Nat := [0, 1, 3, 7, 0, 0, 32, 96, 224, 0, 992, 2016, 0, 4096, 12288, 28672, 0, 126976, 258048, 524256, 1048575, 2097151]
theorem impl_visit.tab10 : rtab .any (opsOf Try.f47 10) = impl_visit.T10 := by kernel_rfl
theorem impl_visit.bits10 : waitsOk impl_visit.T10.2 impl_visit.B10 = true := by kernel_rfl
def impl_visit.T12 : Bool × List (List Nat × List Nat) := (true, [([], []), ([0], [0]), ([1], [1]), ([2], [2]), ([], []), ([3, 4], [3, 4]), ([5], [5]), ([], []), ([7], [7]), ([8], [8]), ([9], [9]), ([], []), ([10, 11], [10, 11]), ([12], [12]), ([6, 13], [6, 13])])
def impl_visit.B12 : List Nat := [0, 1, 3, 7, 0, 31, 63, 0, 128, 384, 896, 0, 3968, 8064, 16383]
theorem impl_visit.tab12 : rtab .any (opsOf Try.f47 12) = impl_visit.T12 := by kernel_rfl
theorem impl_visit.bits12 : waitsOk impl_visit.T12.2 impl_visit.B12 = true := by kernel_rfl

theorem impl_visit.calls (k : Nat) : ∀ (An : Option Addr) (cn : Nat) (N : List (List Int)) (g gF cF gL cL gP cP : Nat) (vS : Value) (F L P S : List Int) (vis v : Int) (r : List Int × List Int × List Int × List Int × Int) (w0 w : World) (hN : Kd.C (Kd.slice 3 (Kd.int .i64)) w0 An N.length N) (hc : N.length ≤ cn) (hI : IsT (.slice An N.length cn) N.length w0 w g gF cF gL cL gP cP vS F L P S vis) (hB : Below w0.heap.size w0 w) (h : impl_visit.f k N v F L P S vis = some r),
  Calls Try.prog 47 #[.pointer (some ⟨g, 0, none⟩), .int .i64 v] w fun e w' => e = .returned (.tuple #[]) ∧ ∃ vS', IsT (.slice An N.length cn) N.length w0 w' g gF cF gL cL gP cP vS' r.1 r.2.1 r.2.2.1 r.2.2.2.1 r.2.2.2.2 ∧ Below w0.heap.size w0 w' := by
 induction k using Nat.strongRecOn with
 | _ k ih =>
 intro An cn N g gF cF gL cL gP cP vS F L P S vis v r w0 w hN hc hI hB h
 cases k with
 | zero => exact absurd h (by simp [impl_visit.f])
 | succ k =>
 simp only [impl_visit.f] at h
 have hu62 := Try.underlying62
 have HN := am_ hN
 have HC := am_ hc
 have HI := am_ hI
 have HB := am_ hB
 have IH := am_ ih
 clear ih hN hc hI hB
 by_cases c1 : 0 ≤ v ∧ v < (N.length : Int) ∧ S.length < 17592186044416
 ·rw [if_pos c1] at h
  obtain ⟨p1, q1, s1⟩ := c1
  have LM := am_ s1
  clear s1
  have H' := am_ h
  clear h
  go_enter Try.func47, Try.ntmps47
  obtain ⟨⟨hcz_0, hcz_1, hcz_2, hcz_3, hcz_4, hcz_5⟩, hfz_4, hfz_5⟩ := TJ_b6 HI.out.1
  have p1b := decide_eq_true p1
  have q1b := decide_eq_true q1
  have p1t := eq_true p1
  have q1t := eq_true q1
  go_wp2_with (first | ((with_reducible refine gate_store (t := 3) (p := 16) rfl ?_); refine store_event (t := 3) (p := 16) (v := ?vo_w4) (w1 := (w.setCell ⟨g, 5, none⟩ (.int .i64 (wrap64 (vis + 1))))) ?hg ?ho ?hn ?hr ?_; (case ho => rfl); (case hg => rfl); (case hn => rfl); (case hr => first | (go_simp; done) | (go_simp; rfl)); intro w4 hw; have n1_ := am_ (show IsT _ _ w0 w4 g gF cF gL cL gP cP vS F L P S (wrap64 (vis + 1)) from (by rw [hw]; exact HI.out.setV _)); have n2_ := am_ (show Below w0.heap.size w0 w4 from (by rw [hw]; exact below_set HB.out HI.out.2.1)); clear hw HI HB hcz_0 hcz_1 hcz_2 hcz_3 hcz_4 hcz_5 hfz_4 hfz_5; have HI := n1_; have HB := n2_; clear n1_ n2_; obtain ⟨⟨hcz_0, hcz_1, hcz_2, hcz_3, hcz_4, hcz_5⟩, hfz_4, hfz_5⟩ := TJ_b6 HI.out.1))
  have z_ := HI.out.lens
  have hF0 : F.length = N.length := z_.1
  have hL0 : L.length = N.length := z_.2.1
  have hP0 : P.length = N.length := z_.2.2
  clear z_
  have hfF : w4.frozen? ⟨gF, v.toNat, none⟩ = false := (Kd.R_celln 0 HI.out.2.2.2.2.1 v p1 q1).2
  have hcF : w4.cell? ⟨gF, v.toNat, none⟩ = some (.int .i64 (rd F v)) := (Kd.R_celln 0 HI.out.2.2.2.2.1 v p1 q1).1
  refine start_ (n := 22) (S := fun w' => w'.cell? ⟨g, 1, none⟩ = some (.slice (some ⟨gF, 0, none⟩) N.length cF) ∧ w'.cell? ⟨g, 2, none⟩ = some (.slice (some ⟨gL, 0, none⟩) N.length cL) ∧ w'.cell? ⟨g, 5, none⟩ = some (.int .i64 (wrap64 (vis + 1)))) (ds := []) (Sh.nm 22 0) (by kernel_rfl) rfl rfl ⟨hcz_1, hcz_2, hcz_5⟩ (fun hHeld => ?_)
  refine with_tabW impl_visit.tab1 impl_visit.bits1 (fun HT_ HW_ => ?_)
  refine Sh.qA 0 ?_; refine Sh.qA 1 ?_; refine Sh.qA 2 ?_; refine Sh.qT 3 hHeld ?_; refine Sh.qA 4 ?_; refine Sh.qA 5 ?_; refine Sh.qA 6 ?_; refine Sh.qA 7 ?_; refine Sh.qT 8 hHeld ?_; refine Sh.qA 9 ?_
  refine Sh.qA 10 ?_; refine Sh.qA 11 ?_; refine Sh.qA 12 ?_; refine Sh.qT 13 hHeld ?_; refine Sh.qA 14 ?_; refine Sh.qA 15 ?_; refine Sh.qA 16 ?_; refine Sh.qT 17 hHeld ?_
  refine Sh.qA 18 ?_ (v := .pointer (some ⟨gF, v.toNat, none⟩)) (hy := by intro w'; go_simp; first | done | (intro h_; omega))
  refine one_ (i := 19) (N := none) (Sh.nm 22 1048575) rfl rfl (one_of HT_.out (by kernel_rfl)) (by decide) fun K hK => ?_
  refine TJ_store (w1 := (w4.drew.setCell ⟨gF, v.toNat, none⟩ (.int .i64 (wrap64 (vis + 1))))) (by rfl) rfl (by first | (go_simp; done) | (go_simp; rfl)) ?_
  intro w5 hw
  have n1_ := am_ (show IsT (.slice An N.length cn) N.length w0 w5 g gF cF gL cL gP cP vS (F.set v.toNat (wrap64 (vis + 1))) L P S (wrap64 (vis + 1)) from (by rw [hw]; exact IsT.setF (HI.out.below (below_drew1 (Below.refl _ _))) v _))
  have n2_ := am_ (show Below w0.heap.size w0 w5 from (by rw [hw]; exact below_set (below_drew1 HB.out) (Kd.R_base HI.out.2.2.2.2.1 gF rfl)))
  clear hw HI HB hcz_0 hcz_1 hcz_2 hcz_3 hcz_4 hcz_5 hfz_4 hfz_5 hfF hcF
  have HI := n1_
  have HB := n2_
  clear n1_ n2_
  obtain ⟨⟨hcz_0, hcz_1, hcz_2, hcz_3, hcz_4, hcz_5⟩, hfz_4, hfz_5⟩ := TJ_b6 HI.out.1
  refine hK.out _ _ ⟨hcz_1, hcz_2, hcz_5⟩ fun hHeld => ?_
  clear hK K
  have hfL : w5.frozen? ⟨gL, v.toNat, none⟩ = false := (Kd.R_celln 0 HI.out.2.2.2.2.2.1 v p1 q1).2
  have hcL : w5.cell? ⟨gL, v.toNat, none⟩ = some (.int .i64 (rd L v)) := (Kd.R_celln 0 HI.out.2.2.2.2.2.1 v p1 q1).1
  refine Sh.qA 20 ?_ (v := .pointer (some ⟨gL, v.toNat, none⟩)) (hy := by intro w'; go_simp; first | done | (intro h_; omega))
  refine one_ (i := 21) (N := none) (Sh.nm 22 4194303) rfl rfl (one_of HT_.out (by kernel_rfl)) (by decide) fun K hK => ?_
  refine TJ_store (w1 := (w5.setCell ⟨gL, v.toNat, none⟩ (.int .i64 (wrap64 (vis + 1))))) (by rfl) rfl (by first | (go_simp; done) | (go_simp; rfl)) ?_
  intro w6 hw
  have n1_ := am_ (show IsT (.slice An N.length cn) N.length w0 w6 g gF cF gL cL gP cP vS (F.set v.toNat (wrap64 (vis + 1))) (L.set v.toNat (wrap64 (vis + 1))) P S (wrap64 (vis + 1)) from (by rw [hw]; exact IsT.setL HI.out v _))
  have n2_ := am_ (show Below w0.heap.size w0 w6 from (by rw [hw]; exact below_set HB.out (Kd.R_base HI.out.2.2.2.2.2.1 gL rfl)))
  clear hw HI HB hcz_0 hcz_1 hcz_2 hcz_3 hcz_4 hcz_5 hfz_4 hfz_5 hfL hcL
  have HI := n1_
  have HB := n2_
  clear n1_ n2_
  obtain ⟨⟨hcz_0, hcz_1, hcz_2, hcz_3, hcz_4, hcz_5⟩, hfz_4, hfz_5⟩ := TJ_b6 HI.out.1
  refine hK.out _ _ ⟨hcz_1, hcz_2, hcz_5⟩ fun hHeld => ?_
  clear hK K
  refine done_ (done_of HT_.out (by kernel_rfl)) ?_
  clear hHeld HT_ HW_
  obtain ⟨y1, hy1⟩ : ∃ y_ : List Int, y_ = F.set v.toNat (wrap64 (vis + 1)) := ⟨_, rfl⟩
  obtain ⟨y2, hy2⟩ : ∃ y_ : List Int, y_ = L.set v.toNat (wrap64 (vis + 1)) := ⟨_, rfl⟩
  obtain ⟨y3, hy3⟩ : ∃ y_ : Int, y_ = wrap64 (vis + 1) := ⟨_, rfl⟩
  rw [← hy1, ← hy2, ← hy3] at HI H'
  rw [← hy3] at hcz_5 ⊢
  obtain ⟨AS, cS, eS⟩ := Kd.R_slice HI.out.2.2.2.2.2.2.2
  subst eS
  clear hy1 hy2 hy3 hF0 hL0 hP0
  obtain ⟨ad, A1, c1, e1, hx1, hl1, hi1⟩ := at_L1 HN.out v p1 q1
  subst e1
  have HX := am_ hx1
  have HR := am_ hi1
  have HL := am_ hl1
  clear hx1 hi1 hl1
  go_wp2_with (first | ((with_reducible refine gate_builtin (b := .append) (xs := #[.tmp 41, .tmp 43]) rfl ?_); at_builtin; refine Kd.R_append (Kd.int .i64) (w0 := w0) w0.heap.size rfl (.tmp 41) (.tmp 43) 26 3 (.int .i64 0) 8 rfl Try.underlying26 info3 rfl (by decide) (by omega) (.slice AS S.length cS) S v [.int .i64 v] (fun _ => True) (fun _ => False) rfl rfl ?aP (fun _ hk => hk.elim) ?aF ?aO ?aB ?aS ?aL ?_; (case aP => exact rfl); (case aF => exact (fun _ _ => trivial)); (case aO => exact (Sh.rl HI.out.2.2.2.2.2.2.2)); (case aB => exact Sh.bw); (case aS => exact (below_size Sh.bw)); (case aL => have := LM.out; omega); intro v7 w7 ho hb hg hat; obtain ⟨Ao, co, eo⟩ := Kd.R_slice ho; subst eo; have n1_ : Aside0 (∀ W_, W_ = w7.setCell ⟨g, 4, none⟩ (.slice Ao (S ++ [v]).length co) → IsT (.slice (some ad) N.length cn) N.length w0 W_ g gF cF gL cL gP cP (.slice Ao (S ++ [v]).length co) y1 y2 P (S ++ [v]) y3) := ⟨fun W_ e_ => (by rw [e_]; exact IsT.setS (IsT.rl HI.out) hg hat ho)⟩; have n2_ := am_ hb; have n3_ := am_ (blk_grown (IsT.rl HI.out).1 hg (Kd.R_ne HI.out.2.2.2.2.2.2.2 HI.out.1 (by decide))); have n4_ := am_ HI.out.2.1; clear HI HB hb hg hat ho hcz_0 hcz_1 hcz_2 hcz_3 hcz_4 hcz_5 hfz_4 hfz_5; have HI := n1_; have HB := n2_; have BK := n3_; have GE := n4_; clear n1_ n2_ n3_ n4_; obtain ⟨⟨hcz_0, hcz_1, hcz_2, hcz_3, hcz_4, hcz_5⟩, hfz_4, hfz_5⟩ := TJ_b6 BK.out) | ((with_reducible refine gate_store (t := 26) (p := 46) rfl ?_); refine store_event (t := 26) (p := 46) (v := ?vo_w8) (w1 := (w7.setCell ⟨g, 4, none⟩ (.slice Ao (S ++ [v]).length co))) ?hg ?ho ?hn ?hr ?_; (case ho => rfl); (case hg => rfl); (case hn => rfl); (case hr => first | (go_simp; done) | (go_simp; rfl)); intro w8 hw; have n1_ := am_ (HI.out w8 hw); have n2_ := am_ (show Below w0.heap.size w0 w8 from (by rw [hw]; exact below_set HB.out GE.out)); clear hw HI HB BK GE hcz_0 hcz_1 hcz_2 hcz_3 hcz_4 hcz_5 hfz_4 hfz_5; have HI := n1_; have HB := n2_; clear n1_ n2_; have hx1 := Sh.cw HX.out HB.out; obtain ⟨⟨hcz_0, hcz_1, hcz_2, hcz_3, hcz_4, hcz_5⟩, hfz_4, hfz_5⟩ := TJ_b6 HI.out.1))
  go_loopg [55] k (fun kq v55 w' => ∃ (i : Int) (vT : Value) (xF xL xP xS : List Int) (xv : Int), v55 = .int .i64 i ∧ Aside0 (impl_visit.l0 kq N v (rd_L1 N v) i xF xL xP xS xv = some r) ∧ Aside0 (kq ≤ k) ∧ Aside0 (IsT (.slice (some ad) N.length cn) N.length w0 w' g gF cF gL cL gP cP vT xF xL xP xS xv) ∧ Aside0 (Below w0.heap.size w0 w'))
  case atStart => exact ⟨0, _, _, _, _, _, _, rfl, H', ⟨Nat.le_refl _⟩, HI, HB⟩
  case round =>
   clear H' HI HB hcz_0 hcz_1 hcz_2 hcz_3 hcz_4 hcz_5 hfz_4 hfz_5 hx1
   obtain ⟨i, vT, xF, xL, xP, xS, xv, rfl, HA, HK1, HI, HB⟩ := hrel
   cases gk with
   | zero => exact absurd HA.out (by simp [impl_visit.l0])
   | succ k1 =>
    have H := HA.out
    clear HA
    simp only [impl_visit.l0] at H
    by_cases c2 : i < ((rd_L1 N v).length : Int)
    ·rw [if_pos c2] at H
     by_cases c3 : 0 ≤ i ∧ 0 ≤ rd (rd_L1 N v) i ∧ rd (rd_L1 N v) i < (N.length : Int)
     ·rw [if_pos c3] at H
      obtain ⟨p3, p4, q4⟩ := c3
      obtain ⟨ad2, e2, hx2⟩ := Kd.at_int HR.out i p3 c2
      subst e2
      have hxi := Sh.cw hx2 HB.out
      clear hx2
      obtain ⟨ww, hww⟩ : ∃ ww, ww = rd (rd_L1 N v) i := ⟨_, rfl⟩
      rw [← hww] at H p4 q4 hxi
      clear hww
      obtain ⟨⟨hcz_0, hcz_1, hcz_2, hcz_3, hcz_4, hcz_5⟩, hfz_4, hfz_5⟩ := TJ_b6 HI.out.1
      have hcF : wr.cell? ⟨gF, ww.toNat, none⟩ = some (.int .i64 (rd xF ww)) := (Kd.R_celln 0 HI.out.2.2.2.2.1 ww p4 q4).1
      have hcP : wr.cell? ⟨gP, ww.toNat, none⟩ = some (.int .i64 (rd xP ww)) := (Kd.R_celln 0 HI.out.2.2.2.2.2.2.1 ww p4 q4).1
      have c2b := decide_eq_true c2
      have c2t := eq_true c2
      have p3t := eq_true p3
      have p3b := decide_eq_true p3
      have p4t := eq_true p4
      have p4b := decide_eq_true p4
      have q4t := eq_true q4
      have q4b := decide_eq_true q4
      by_cases c5 : rd xF ww = 0
      ·rw [if_pos c5] at H
       have c5b : (rd xF ww == 0) = true := beq_iff_eq.mpr c5
       obtain ⟨t, A_, H⟩ := Sh.ba H
       have H' := am_ H
       clear H
       go_wp2_with (first | (go_at_call 47; (with_reducible refine (IH.out k1 (by have := HK1.out; omega) _ _ N g gF cF gL cL gP cP vT xF xL xP xS xv ww t w0 _ HN.out HC.out (IsT.rl HI.out) Sh.bw A_.out).mono ?_); rintro e w9 ⟨rfl, vU, hI, hb⟩; have n1_ := am_ hI; have n2_ := am_ hb; clear hI hb HI HB hxi hcF hcP hcz_0 hcz_1 hcz_2 hcz_3 hcz_4 hcz_5 hfz_4 hfz_5; have HI := n1_; have HB := n2_; clear n1_ n2_; obtain ⟨⟨hcz_0, hcz_1, hcz_2, hcz_3, hcz_4, hcz_5⟩, hfz_4, hfz_5⟩ := TJ_b6 HI.out.1))
       have hcV : w9.cell? ⟨gL, v.toNat, none⟩ = some (.int .i64 (rd t.2.1 v)) := (Kd.R_celln 0 HI.out.2.2.2.2.2.1 v p1 q1).1
       have hfV : w9.frozen? ⟨gL, v.toNat, none⟩ = false := (Kd.R_celln 0 HI.out.2.2.2.2.2.1 v p1 q1).2
       have hcW : w9.cell? ⟨gL, ww.toNat, none⟩ = some (.int .i64 (rd t.2.1 ww)) := (Kd.R_celln 0 HI.out.2.2.2.2.2.1 ww p4 q4).1
       refine start_ (n := 22) (S := fun w' => w'.cell? ⟨g, 2, none⟩ = some (.slice (some ⟨gL, 0, none⟩) N.length cL) ∧ w'.cell? ⟨g, 1, none⟩ = some (.slice (some ⟨gF, 0, none⟩) N.length cF) ∧ w'.cell? ⟨gL, v.toNat, none⟩ = some (.int .i64 (rd t.2.1 v)) ∧ w'.cell? ⟨gL, ww.toNat, none⟩ = some (.int .i64 (rd t.2.1 ww))) (ds := [21]) (Sh.nm 22 0) (by kernel_rfl) rfl rfl ⟨hcz_2, hcz_1, hcV, hcW⟩ (fun hHeld => ?_)
       refine with_tabW impl_visit.tab8 impl_visit.bits8 (fun HT_ HW_ => ?_)
       refine Sh.qA 0 ?_; refine Sh.qA 1 ?_; refine Sh.qA 2 ?_; refine Sh.qT 3 hHeld ?_; refine Sh.qA 4 ?_; refine Sh.qA 5 ?_; refine Sh.qA 6 ?_; refine Sh.qA 7 ?_; refine Sh.qT 8 hHeld ?_; refine Sh.qA 9 ?_
       refine Sh.qA 10 ?_ (v := .pointer (some ⟨gL, v.toNat, none⟩)) (hy := by intro w'; go_simp; first | done | (intro h_; omega))
       refine Sh.qT 11 hHeld ?_; refine Sh.qA 12 ?_; refine Sh.qA 13 ?_; refine Sh.qA 14 ?_; refine Sh.qT 15 hHeld ?_; refine Sh.qA 16 ?_
       refine Sh.qA 17 ?_ (v := .pointer (some ⟨gL, ww.toNat, none⟩)) (hy := by intro w'; go_simp; first | done | (intro h_; omega))
       refine Sh.qT 18 hHeld ?_
       refine Sh.qA 19 ?_ (v := .int .i64 (mn (rd t.2.1 v) (rd t.2.1 ww))) (hy := by intro w'; go_simp; first | done | rfl)
       refine Sh.qA 20 ?_ (v := .pointer (some ⟨gL, v.toNat, none⟩)) (hy := by intro w'; go_simp; first | done | (intro h_; omega))
       refine last_ (i := 21) (N := none) (Sh.nm 22 4194303) rfl rfl (one_of HT_.out (by kernel_rfl)) (by decide) (fun K hK => ?_)
       refine TJ_store (w1 := (w9.drew.setCell ⟨gL, v.toNat, none⟩ (.int .i64 (mn (rd t.2.1 v) (rd t.2.1 ww))))) (by rfl) rfl (by first | (go_simp; done) | (go_simp; rfl)) ?_
       intro w10 hw
       have n1_ := am_ (show IsT (.slice (some ad) N.length cn) N.length w0 w10 g gF cF gL cL gP cP vU t.1 (t.2.1.set v.toNat (mn (rd t.2.1 v) (rd t.2.1 ww))) t.2.2.1 t.2.2.2.1 t.2.2.2.2 from (by rw [hw]; exact IsT.setL (IsT.rl HI.out) v _))
       have n2_ := am_ (show Below w0.heap.size w0 w10 from (by rw [hw]; exact below_set (below_drew1 HB.out) (Kd.R_base HI.out.2.2.2.2.2.1 gL rfl)))
       clear hw HI HB hcz_0 hcz_1 hcz_2 hcz_3 hcz_4 hcz_5 hfz_4 hfz_5 hcV hfV hcW
       have HI := n1_
       have HB := n2_
       clear n1_ n2_
       refine hK.out _ _ ?_
       clear hK K
       refine done_ (done_of HT_.out (by kernel_rfl)) ?_
       clear hHeld HT_ HW_
       go_wp2
       go_roundg k1
       case measure => have := HK1.out; omega
       case rel => exact ⟨_, _, _, _, _, _, _, rfl, H', ⟨by have := HK1.out; omega⟩, HI, HB⟩
      ·rw [if_neg c5] at H
       have c5b : (rd xF ww == 0) = false := beq_eq_false_iff_ne.mpr c5
       by_cases c6 : rd xP ww < 0
       ·rw [if_pos c6] at H
        have c6b := decide_eq_true c6
        have H' := am_ H
        clear H
        go_wp2
        have hcV : wr.cell? ⟨gL, v.toNat, none⟩ = some (.int .i64 (rd xL v)) := (Kd.R_celln 0 HI.out.2.2.2.2.2.1 v p1 q1).1
        have hfV : wr.frozen? ⟨gL, v.toNat, none⟩ = false := (Kd.R_celln 0 HI.out.2.2.2.2.2.1 v p1 q1).2
        have hcW : wr.cell? ⟨gF, ww.toNat, none⟩ = some (.int .i64 (rd xF ww)) := (Kd.R_celln 0 HI.out.2.2.2.2.1 ww p4 q4).1
        refine start_ (n := 22) (S := fun w' => w'.cell? ⟨g, 2, none⟩ = some (.slice (some ⟨gL, 0, none⟩) N.length cL) ∧ w'.cell? ⟨g, 1, none⟩ = some (.slice (some ⟨gF, 0, none⟩) N.length cF) ∧ w'.cell? ⟨gL, v.toNat, none⟩ = some (.int .i64 (rd xL v)) ∧ w'.cell? ⟨gF, ww.toNat, none⟩ = some (.int .i64 (rd xF ww))) (ds := [21]) (Sh.nm 22 0) (by kernel_rfl) rfl rfl ⟨hcz_2, hcz_1, hcV, hcW⟩ (fun hHeld => ?_)
        refine with_tabW impl_visit.tab10 impl_visit.bits10 (fun HT_ HW_ => ?_)
        refine Sh.qA 0 ?_; refine Sh.qA 1 ?_; refine Sh.qA 2 ?_; refine Sh.qT 3 hHeld ?_; refine Sh.qA 4 ?_; refine Sh.qA 5 ?_; refine Sh.qA 6 ?_; refine Sh.qA 7 ?_; refine Sh.qT 8 hHeld ?_; refine Sh.qA 9 ?_
        refine Sh.qA 10 ?_ (v := .pointer (some ⟨gL, v.toNat, none⟩)) (hy := by intro w'; go_simp; first | done | (intro h_; omega))
        refine Sh.qT 11 hHeld ?_; refine Sh.qA 12 ?_; refine Sh.qA 13 ?_; refine Sh.qA 14 ?_; refine Sh.qT 15 hHeld ?_; refine Sh.qA 16 ?_
        refine Sh.qA 17 ?_ (v := .pointer (some ⟨gF, ww.toNat, none⟩)) (hy := by intro w'; go_simp; first | done | (intro h_; omega))
        refine Sh.qT 18 hHeld ?_
        refine Sh.qA 19 ?_ (v := .int .i64 (mn (rd xL v) (rd xF ww))) (hy := by intro w'; go_simp; first | done | rfl)
        refine Sh.qA 20 ?_ (v := .pointer (some ⟨gL, v.toNat, none⟩)) (hy := by intro w'; go_simp; first | done | (intro h_; omega))
        refine last_ (i := 21) (N := none) (Sh.nm 22 4194303) rfl rfl (one_of HT_.out (by kernel_rfl)) (by decide) (fun K hK => ?_)
        refine TJ_store (w1 := (wr.drew.setCell ⟨gL, v.toNat, none⟩ (.int .i64 (mn (rd xL v) (rd xF ww))))) (by rfl) rfl (by first | (go_simp; done) | (go_simp; rfl)) ?_
        intro w10 hw
        have n1_ := am_ (show IsT (.slice (some ad) N.length cn) N.length w0 w10 g gF cF gL cL gP cP vT xF (xL.set v.toNat (mn (rd xL v) (rd xF ww))) xP xS xv from (by rw [hw]; exact IsT.setL (IsT.rl HI.out) v _))
        have n2_ := am_ (show Below w0.heap.size w0 w10 from (by rw [hw]; exact below_set (below_drew1 HB.out) (Kd.R_base HI.out.2.2.2.2.2.1 gL rfl)))
        clear hw HI HB hcz_0 hcz_1 hcz_2 hcz_3 hcz_4 hcz_5 hfz_4 hfz_5 hcV hfV hcW
        have HI := n1_
        have HB := n2_
        clear n1_ n2_
        refine hK.out _ _ ?_
        clear hK K
        refine done_ (done_of HT_.out (by kernel_rfl)) ?_
        clear hHeld HT_ HW_
        go_wp2
        go_roundg k1
        case measure => have := HK1.out; omega
        case rel => exact ⟨_, _, _, _, _, _, _, rfl, H', ⟨by have := HK1.out; omega⟩, HI, HB⟩
       ·rw [if_neg c6] at H
        have c6b := decide_eq_false c6
        have H' := am_ H
        clear H
        go_wp2
        go_roundg k1
        case measure => have := HK1.out; omega
        case rel => exact ⟨_, _, _, _, _, _, _, rfl, H', ⟨by have := HK1.out; omega⟩, IsT.am HI, ⟨Sh.bw⟩⟩
     ·rw [if_neg c3] at H
      cases H
    ·rw [if_neg c2] at H
     have c2b := decide_eq_false c2
     obtain ⟨⟨hcz_0, hcz_1, hcz_2, hcz_3, hcz_4, hcz_5⟩, hfz_4, hfz_5⟩ := TJ_b6 HI.out.1
     have H2 := H
     clear H
     unfold impl_visit.e at H2
     have hcV : wr.cell? ⟨gL, v.toNat, none⟩ = some (.int .i64 (rd xL v)) := (Kd.R_celln 0 HI.out.2.2.2.2.2.1 v p1 q1).1
     have hcW : wr.cell? ⟨gF, v.toNat, none⟩ = some (.int .i64 (rd xF v)) := (Kd.R_celln 0 HI.out.2.2.2.2.1 v p1 q1).1
     by_cases d1 : rd xL v < rd xF v
     ·rw [if_pos d1] at H2
      have d1b := decide_eq_true d1
      injection H2 with H2
      subst H2
      go_wp2
      refine start_ (n := 15) (S := fun w' => w'.cell? ⟨g, 2, none⟩ = some (.slice (some ⟨gL, 0, none⟩) N.length cL) ∧ w'.cell? ⟨g, 1, none⟩ = some (.slice (some ⟨gF, 0, none⟩) N.length cF) ∧ w'.cell? ⟨gL, v.toNat, none⟩ = some (.int .i64 (rd xL v)) ∧ w'.cell? ⟨gF, v.toNat, none⟩ = some (.int .i64 (rd xF v))) (ds := []) (Sh.nm 15 0) (by kernel_rfl) rfl rfl ⟨hcz_2, hcz_1, hcV, hcW⟩ (fun hHeld => ?_)
      refine with_tabW impl_visit.tab12 impl_visit.bits12 (fun HT_ HW_ => ?_)
      refine Sh.qA 0 ?_; refine Sh.qA 1 ?_; refine Sh.qA 2 ?_; refine Sh.qT 3 hHeld ?_; refine Sh.qA 4 ?_
      refine Sh.qA 5 ?_ (v := .pointer (some ⟨gL, v.toNat, none⟩)) (hy := by intro w'; go_simp; first | done | (intro h_; omega))
      refine Sh.qT 6 hHeld ?_; refine Sh.qA 7 ?_; refine Sh.qA 8 ?_; refine Sh.qA 9 ?_; refine Sh.qT 10 hHeld ?_; refine Sh.qA 11 ?_
      refine Sh.qA 12 ?_ (v := .pointer (some ⟨gF, v.toNat, none⟩)) (hy := by intro w'; go_simp; first | done | (intro h_; omega))
      refine Sh.qT 13 hHeld ?_
      refine Sh.qA 14 ?_ (v := .bool true) (hy := by intro w'; go_simp; first | done | rfl)
      refine done_ (done_of HT_.out (by kernel_rfl)) ?_
      clear hHeld HT_ HW_
      go_wp2
      refine bodyPost_ret (results_list (rs := []) rfl (by simp) .nil) rfl ?_
      exact ⟨rfl, ⟨_, HI.out.below (below_drew1 (Below.refl _ _))⟩, below_drew1 HB.out⟩
     ·rw [if_neg d1] at H2
      have d1b := decide_eq_false d1
      obtain ⟨AS, cS, eS⟩ := Kd.R_slice HI.out.2.2.2.2.2.2.2
      subst eS
      obtain ⟨j, A1_, H2⟩ := Sh.ba H2
      by_cases d2 : 0 ≤ j ∧ j ≤ (xS.length : Int)
      ·rw [if_pos d2] at H2
       obtain ⟨p5, q5⟩ := d2
       obtain ⟨m, A2_, H2⟩ := Sh.ba H2
       have hcS : xS.length ≤ cS := (Kd.R_reads' HI.out.2.2.2.2.2.2.2).2.1
       obtain ⟨i3, hi3, hz3a, hz3b, hz3c⟩ := info_parts info3
       obtain ⟨A5, hcut5, hA5, hC5⟩ := print_drop_of (P := Try.prog) (Value.int .i64) 0 26 3 .i64 Try.underlying26 hi3 hz3b AS cS xS j p5 q5 hcS
       obtain ⟨hcut6, _, _⟩ := print_take_of (P := Try.prog) (Value.int .i64) 0 26 3 .i64 Try.underlying26 hi3 hz3b AS cS xS j p5 q5 hcS
       obtain ⟨yD, hyD⟩ : ∃ y_ : List Int, y_ = xS.drop j.toNat := ⟨_, rfl⟩
       obtain ⟨yT, hyT⟩ : ∃ y_ : List Int, y_ = xS.take j.toNat := ⟨_, rfl⟩
       rw [← hyD] at hcut5 hA5 hC5 A2_ H2
       rw [← hyT] at hcut6 H2
       have ND := am_ hyD
       have NT := am_ hyT
       clear hyD hyT
       have H' := am_ H2
       clear H2
       go_wp2
       refine start_ (n := 15) (S := fun w' => w'.cell? ⟨g, 2, none⟩ = some (.slice (some ⟨gL, 0, none⟩) N.length cL) ∧ w'.cell? ⟨g, 1, none⟩ = some (.slice (some ⟨gF, 0, none⟩) N.length cF) ∧ w'.cell? ⟨gL, v.toNat, none⟩ = some (.int .i64 (rd xL v)) ∧ w'.cell? ⟨gF, v.toNat, none⟩ = some (.int .i64 (rd xF v))) (ds := []) (Sh.nm 15 0) (by kernel_rfl) rfl rfl ⟨hcz_2, hcz_1, hcV, hcW⟩ (fun hHeld => ?_)
       refine with_tabW impl_visit.tab12 impl_visit.bits12 (fun HT_ HW_ => ?_)
       refine Sh.qA 0 ?_; refine Sh.qA 1 ?_; refine Sh.qA 2 ?_; refine Sh.qT 3 hHeld ?_; refine Sh.qA 4 ?_
       refine Sh.qA 5 ?_ (v := .pointer (some ⟨gL, v.toNat, none⟩)) (hy := by intro w'; go_simp; first | done | (intro h_; omega))
       refine Sh.qT 6 hHeld ?_; refine Sh.qA 7 ?_; refine Sh.qA 8 ?_; refine Sh.qA 9 ?_; refine Sh.qT 10 hHeld ?_; refine Sh.qA 11 ?_
       refine Sh.qA 12 ?_ (v := .pointer (some ⟨gF, v.toNat, none⟩)) (hy := by intro w'; go_simp; first | done | (intro h_; omega))
       refine Sh.qT 13 hHeld ?_
       refine Sh.qA 14 ?_ (v := .bool false) (hy := by intro w'; go_simp; first | done | rfl)
       refine done_ (done_of HT_.out (by kernel_rfl)) ?_
       clear hHeld HT_ HW_
       go_wp2_with (first | (go_at_call 66; (with_reducible refine (slices_Index_int_int.calls k1 _ _ xS v j _ (IsT.stackC HI.out) hcS A1_.out).mono ?_); rintro e w11 ⟨rfl, hd_⟩; have hb := hd_.below; have n1_ := am_ ((IsT.rl HI.out).below hb); have n2_ := Sh.hb hb; clear hb hd_ HI HB hcV hcW hcz_0 hcz_1 hcz_2 hcz_3 hcz_4 hcz_5 hfz_4 hfz_5; have HI := n1_; have HB := n2_; clear n1_ n2_; obtain ⟨⟨hcz_0, hcz_1, hcz_2, hcz_3, hcz_4, hcz_5⟩, hfz_4, hfz_5⟩ := TJ_b6 HI.out.1) | (go_at_call 67; (with_reducible refine (slices_Min_int_int.calls k1 _ _ yD m _ (IsT.cutC HI.out hA5) hC5 A2_.out).mono ?_); rintro e w12 ⟨rfl, hb⟩; have n1_ := am_ ((IsT.rl HI.out).below hb); have n2_ := Sh.hb hb; clear hb HI HB hcz_0 hcz_1 hcz_2 hcz_3 hcz_4 hcz_5 hfz_4 hfz_5; have HI := n1_; have HB := n2_; clear n1_ n2_; obtain ⟨⟨hcz_0, hcz_1, hcz_2, hcz_3, hcz_4, hcz_5⟩, hfz_4, hfz_5⟩ := TJ_b6 HI.out.1))
       go_loopg [156] k1 (fun kq v156 w' => ∃ (i : Int) (xP' : List Int), v156 = .int .i64 i ∧ Aside0 (impl_visit.l1 kq xF xL yT xv yD m xP' i = some r) ∧ Aside0 (kq ≤ k1) ∧ Aside0 (IsT (.slice (some ad) N.length cn) N.length w0 w' g gF cF gL cL gP cP (.slice AS xS.length cS) xF xL xP' xS xv) ∧ Aside0 (Below w0.heap.size w0 w'))
       case atStart => exact ⟨0, _, rfl, H', ⟨Nat.le_refl _⟩, HI, HB⟩
       case round =>
        clear H' HI HB hcz_0 hcz_1 hcz_2 hcz_3 hcz_4 hcz_5 hfz_4 hfz_5
        obtain ⟨i2, xP', rfl, HA, HK2, HI, HB⟩ := hrel
        cases gk with
        | zero => exact absurd HA.out (by simp [impl_visit.l1])
        | succ k2 =>
         have H := HA.out
         clear HA
         simp only [impl_visit.l1] at H
         obtain ⟨⟨hcz_0, hcz_1, hcz_2, hcz_3, hcz_4, hcz_5⟩, hfz_4, hfz_5⟩ := TJ_b6 HI.out.1
         by_cases c12 : i2 < (yD.length : Int)
         ·rw [if_pos c12] at H
          by_cases c13 : 0 ≤ i2 ∧ 0 ≤ rd yD i2 ∧ rd yD i2 < (xP'.length : Int)
          ·rw [if_pos c13] at H
           obtain ⟨p13, p14, q14⟩ := c13
           have hP9 : xP'.length = N.length := HI.out.lens.2.2
           rw [hP9] at q14
           have H' := am_ H
           clear H
           obtain ⟨ad3, e3, hxi⟩ := Kd.at_int (IsT.cutC HI.out hA5 (W1 := wr)) i2 p13 c12
           subst e3
           have c12b := decide_eq_true c12
           have c12t := eq_true c12
           have p13t := eq_true p13
           have p13b := decide_eq_true p13
           obtain ⟨ww, hww⟩ : ∃ ww, ww = rd yD i2 := ⟨_, rfl⟩
           rw [← hww] at H' p14 q14 hxi
           clear hww
           have p14t := eq_true p14
           have p14b := decide_eq_true p14
           have q14t := eq_true q14
           have q14b := decide_eq_true q14
           have hcP : wr.cell? ⟨gP, ww.toNat, none⟩ = some (.int .i64 (rd xP' ww)) := (Kd.R_celln 0 HI.out.2.2.2.2.2.2.1 ww p14 q14).1
           have hfP : wr.frozen? ⟨gP, ww.toNat, none⟩ = false := (Kd.R_celln 0 HI.out.2.2.2.2.2.2.1 ww p14 q14).2
           go_wp2_with (first | ((with_reducible refine gate_store (t := 3) (p := 166) rfl ?_); refine store_event (t := 3) (p := 166) (v := ?vo_w19) (w1 := (wr.setCell ⟨gP, ww.toNat, none⟩ (.int .i64 m))) ?hg ?ho ?hn ?hr ?_; (case ho => rfl); (case hg => rfl); (case hn => rfl); (case hr => first | (go_simp; done) | (go_simp; rfl)); intro w19 hw; have n1_ := am_ (show IsT _ _ w0 w19 g gF cF gL cL gP cP (.slice AS xS.length cS) xF xL (xP'.set ww.toNat m) xS xv from (by rw [hw]; exact IsT.setP HI.out ww m)); have n2_ := am_ (show Below w0.heap.size w0 w19 from (by rw [hw]; exact below_set HB.out (Kd.R_base HI.out.2.2.2.2.2.2.1 gP rfl))); clear hw HI HB hcP hfP hxi hcz_0 hcz_1 hcz_2 hcz_3 hcz_4 hcz_5 hfz_4 hfz_5; have HI := n1_; have HB := n2_; clear n1_ n2_; obtain ⟨⟨hcz_0, hcz_1, hcz_2, hcz_3, hcz_4, hcz_5⟩, hfz_4, hfz_5⟩ := TJ_b6 HI.out.1))
           go_roundg k2
           case measure => have := HK2.out; omega
           case rel => exact ⟨_, _, rfl, H', ⟨by have := HK2.out; omega⟩, HI, HB⟩
          ·rw [if_neg c13] at H
           cases H
         ·rw [if_neg c12] at H
          have c12b := decide_eq_false c12
          injection H with H
          subst H
          have hj : j.toNat ≤ xS.length := by omega
          go_wp2_with (first | ((with_reducible refine gate_store (t := 26) (p := 176) rfl ?_); refine store_event (t := 26) (p := 176) (v := ?vo_w20) (w1 := (wr.setCell ⟨g, 4, none⟩ (.slice AS yT.length cS))) ?hg ?ho ?hn ?hr ?_; (case ho => rfl); (case hg => rfl); (case hn => rfl); (case hr => first | (go_simp; done) | (go_simp; rfl)); intro w20 hw; have n1_ := am_ (show IsT _ _ w0 w20 g gF cF gL cL gP cP (.slice AS yT.length cS) xF xL xP' yT xv from (by rw [hw]; exact IsT.cutS HI.out hj NT.out)); have n2_ := am_ (show Below w0.heap.size w0 w20 from (by rw [hw]; exact below_set HB.out HI.out.2.1)); clear hw HI HB hcz_0 hcz_1 hcz_2 hcz_3 hcz_4 hcz_5 hfz_4 hfz_5; have HI := n1_; have HB := n2_; clear n1_ n2_; obtain ⟨⟨hcz_0, hcz_1, hcz_2, hcz_3, hcz_4, hcz_5⟩, hfz_4, hfz_5⟩ := TJ_b6 HI.out.1))
          exact bodyPost_end (results_list (rs := []) rfl (by simp) .nil) rfl ⟨rfl, ⟨_, HI.out⟩, HB.out⟩
      ·rw [if_neg d2] at H2
       exact absurd H2 (by simp)
 ·rw [if_neg c1] at h
  exact absurd h (by simp)

/-- What impl.parts has made so far, in whatever order: two rows of zeros, a row of one -1, a row of -1s. -/
def MKs (n : Nat) (w0 w : World) (a b c d : Bool) (va vb vc vd : Value) : Prop :=
  Below w0.heap.size w0 w ∧ (a = true → (∃ k, va.ownBlock = some k) ∧ Kd.R (Kd.int .i64) 3 w w0.heap.size (fun _ => True) va (List.replicate n 0)) ∧ (b = true → (∃ k, vb.ownBlock = some k) ∧ Kd.R (Kd.int .i64) 3 w w0.heap.size (fun _ => True) vb (List.replicate n 0)) ∧
  (c = true → Kd.R (Kd.int .i64) 3 w w0.heap.size (fun _ => True) vc [-1]) ∧ (d = true → Kd.R (Kd.int .i64) 3 w w0.heap.size (fun _ => True) vd (List.replicate n (-1))) ∧
  (a = true → b = true → va.ownBlock ≠ vb.ownBlock) ∧ (a = true → d = true → va.ownBlock ≠ vd.ownBlock) ∧ (b = true → d = true → vb.ownBlock ≠ vd.ownBlock)
section
variable {n : Nat} {w0 w w1 : World} {a b c d : Bool} {va vb vc vd v : Value} {xs ys : List Int} {e : Nat}
theorem TJ_ne (h : Kd.R (Kd.int .i64) e w1 w.heap.size (fun _ => True) v xs) (k : Kd.R (Kd.int .i64) e w w0.heap.size (fun _ => True) va ys) (hv : ∃ b, v.ownBlock = some b) : v.ownBlock ≠ va.ownBlock := by
  obtain ⟨b, hb⟩ := hv
  intro h2
  have h3 := Kd.R_base h b hb
  have h4 := Kd.R_lt k b (by rw [← h2]; exact hb)
  omega
theorem TJ_ne2 (h : Kd.R (Kd.int .i64) e w1 w.heap.size (fun _ => True) v xs) (k : Kd.R (Kd.int .i64) e w w0.heap.size (fun _ => True) va ys) (hv : ∃ b, va.ownBlock = some b) : va.ownBlock ≠ v.ownBlock := by
  obtain ⟨b, hb⟩ := hv
  intro h2
  have h3 := Kd.R_base h b (by rw [← h2]; exact hb)
  have h4 := Kd.R_lt k b hb
  omega
theorem MKs.step (h : MKs n w0 w a b c d va vb vc vd) (hw : Below w.heap.size w w1) : MKs n w0 w1 a b c d va vb vc vd := by
  obtain ⟨h1, h2, h3, h4, h5, h6⟩ := h
  exact ⟨below_step h1 hw, fun k => ⟨(h2 k).1, Kd.R_below (h2 k).2 hw⟩, fun k => ⟨(h3 k).1, Kd.R_below (h3 k).2 hw⟩, fun k => Kd.R_below (h4 k) hw, fun k => Kd.R_below (h5 k) hw, h6⟩
theorem MKs.pa (h : MKs n w0 w false b c d va vb vc vd) (hw : Below w.heap.size w w1) (ho : Kd.R (Kd.int .i64) 3 w1 w.heap.size (fun _ => True) v (List.replicate n 0)) (hat : ∃ k, v.ownBlock = some k) : MKs n w0 w1 true b c d v vb vc vd := by
  have hs := h.step hw
  exact ⟨hs.1, fun _ => ⟨hat, Kd.R_lower ho (below_size h.1)⟩, hs.2.2.1, hs.2.2.2.1, hs.2.2.2.2.1, fun _ k => TJ_ne ho (h.2.2.1 k).2 hat, fun _ k => TJ_ne ho (h.2.2.2.2.1 k) hat, hs.2.2.2.2.2.2.2⟩
theorem MKs.pb (h : MKs n w0 w a false c d va vb vc vd) (hw : Below w.heap.size w w1) (ho : Kd.R (Kd.int .i64) 3 w1 w.heap.size (fun _ => True) v (List.replicate n 0)) (hat : ∃ k, v.ownBlock = some k) : MKs n w0 w1 a true c d va v vc vd := by
  have hs := h.step hw
  exact ⟨hs.1, hs.2.1, fun _ => ⟨hat, Kd.R_lower ho (below_size h.1)⟩, hs.2.2.2.1, hs.2.2.2.2.1, fun k _ => TJ_ne2 ho (h.2.1 k).2 (h.2.1 k).1, hs.2.2.2.2.2.2.1, fun _ k => TJ_ne ho (h.2.2.2.2.1 k) hat⟩
theorem MKs.pc (h : MKs n w0 w a b false d va vb vc vd) (hw : Below w.heap.size w w1) (ho : Kd.R (Kd.int .i64) 3 w1 w.heap.size (fun _ => True) v [-1]) : MKs n w0 w1 a b true d va vb v vd := by
  have hs := h.step hw
  exact ⟨hs.1, hs.2.1, hs.2.2.1, fun _ => Kd.R_lower ho (below_size h.1), hs.2.2.2.2⟩
theorem MKs.pd (h : MKs n w0 w a b c false va vb vc vd) (hw : Below w.heap.size w w1) (ho : Kd.R (Kd.int .i64) 3 w1 w.heap.size (fun _ => True) v (List.replicate n (-1))) : MKs n w0 w1 a b c true va vb vc v := by
  have hs := h.step hw
  exact ⟨hs.1, hs.2.1, hs.2.2.1, hs.2.2.2.1, fun _ => Kd.R_lower ho (below_size h.1), hs.2.2.2.2.2.1, fun k _ => TJ_ne2 ho (h.2.1 k).2 (h.2.1 k).1, fun k _ => TJ_ne2 ho (h.2.2.1 k).2 (h.2.2.1 k).1⟩
theorem TJ_at (h : Kd.R (Kd.int .i64) 3 w w0.heap.size (fun _ => True) v xs) (hv : (∃ k, v.ownBlock = some k) ∨ 0 < xs.length) : ∃ g c, v = .slice (some ⟨g, 0, none⟩) xs.length c := by
  obtain ⟨h1, ⟨e1, e2⟩ | ⟨g, cap, cur, e1, _⟩⟩ := Kd.own_of_R h
  · rcases hv with ⟨k, hk⟩ | hk
    · subst e1; simp [Value.ownBlock] at hk
    · omega
  · exact ⟨g, cap, e1⟩
theorem TJ_len1 {α : Type} (N : List α) : ((N.length : Int)).toNat = N.length := rfl
end
theorem TJ_sl {n e : Nat} {w w0 : World} {v : Value} {z : Int} (h : Kd.R (Kd.int .i64) e w w0.heap.size (fun _ => True) v (List.replicate n z)) : ∃ A c, v = .slice A n c := by
  obtain ⟨A, c, e⟩ := Kd.R_slice h
  rw [List.length_replicate] at e
  exact ⟨A, c, e⟩
theorem MKs.isT {n g : Nat} {w0 w : World} {nx vc : Value} {Aa Ab Ad : Option Addr} {ca cb cd : Nat} (h : MKs n w0 w true true true true (.slice Aa n ca) (.slice Ab n cb) vc (.slice Ad n cd)) (hb : w.heap[g]? = some (.cells #[nx, .slice Aa n ca, .slice Ab n cb, .slice Ad n cd, .slice none 0 0, .int .i64 0] 62 (0, 0))) (hg : w0.heap.size ≤ g) (hn : 0 < n) :
    ∃ gF gL gP, IsT nx n w0 w g gF ca gL cb gP cd (.slice none 0 0) (List.replicate n 0) (List.replicate n 0) (List.replicate n (-1)) [] 0 ∧ Aa = some ⟨gF, 0, none⟩ ∧ Ab = some ⟨gL, 0, none⟩ ∧ Ad = some ⟨gP, 0, none⟩ := by
  obtain ⟨_, h2, h3, _, h5, h6, h7, h8⟩ := h
  have ra := (h2 rfl).2
  have rb := (h3 rfl).2
  have rd := h5 rfl
  obtain ⟨gF, c1, e1⟩ := TJ_at ra (.inr (by simpa using hn))
  obtain ⟨gL, c2, e2⟩ := TJ_at rb (.inr (by simpa using hn))
  obtain ⟨gP, c3, e3⟩ := TJ_at rd (.inr (by simpa using hn))
  injection e1 with e1 _ _
  injection e2 with e2 _ _
  injection e3 with e3 _ _
  subst e1 e2 e3
  refine ⟨gF, gL, gP, ⟨hb, hg, ⟨?_, ?_, ?_⟩, ⟨by simp [Value.ownBlock], by simp [Value.ownBlock], by simp [Value.ownBlock]⟩, ra, rb, rd, Kd.R_nil _ _ _ _ _⟩, rfl, rfl, rfl⟩
  · intro e; exact h6 rfl rfl (by rw [e]; rfl)
  · intro e; exact h7 rfl rfl (by rw [e]; rfl)
  · intro e; exact h8 rfl rfl (by rw [e]; rfl)

def impl_parts.l0 : Nat → List (List Int) → Int → List Int → List Int → List Int → List Int → Int → Option (List Int)
 | 0, _, _, _, _, _, _, _ => none
 | k + 1, N, i, F, L, P, S, vis => if i < (N.length : Int) then (if 0 ≤ i then (if rd F i = 0 then (impl_visit.f k N i F L P S vis).bind fun t => impl_parts.l0 k N (wrap64 (i + 1)) t.1 t.2.1 t.2.2.1 t.2.2.2.1 t.2.2.2.2 else impl_parts.l0 k N (wrap64 (i + 1)) F L P S vis) else none) else some P
def impl_parts.f (k : Nat) (N : List (List Int)) : Option (List Int) := if N.length ≤ 1048576 then impl_parts.l0 k N 0 (List.replicate N.length 0) (List.replicate N.length 0) (List.replicate N.length (-1)) [] 0 else none
def impl_parts.T2 : Bool × List (List Nat × List Nat) := (true, [([], []), ([], []), ([1, 1], [1]), ([], []), ([3, 3], [3]), ([], []), ([], []), ([5, 6], [5, 6]), ([0, 2, 4, 7], [0, 2, 4, 7]), ([8], [8]), ([9, 7, 0, 1, 2, 3, 4, 5, 6, 7, 8, 9], [9])])
def impl_parts.B2 : List Nat := [0, 0, 2, 0, 8, 0, 0, 96, 255, 511, 1023]
theorem impl_parts.tab2 : rtab .any (opsOf Try.f30 2) = impl_parts.T2 := by kernel_rfl
theorem impl_parts.bits2 : waitsOk impl_parts.T2.2 impl_parts.B2 = true := by kernel_rfl
theorem impl_parts.calls (k : Nat) (A0 : Option Addr) (c0 : Nat) (N : List (List Int)) (r : List Int) (w : World) (hr0 : Kd.C (Kd.slice 3 (Kd.int .i64)) w A0 N.length N) (hc0 : N.length ≤ c0) (h : impl_parts.f k N = some r) :
    Calls Try.prog 30 #[.slice A0 N.length c0] w fun e w' => ∃ v0_ : Value, e = .returned (v0_) ∧ Kd.R (Kd.int .i64) 3 w' w.heap.size (fun _ => True) v0_ r ∧ Below w.heap.size w w' := by
 unfold impl_parts.f at h
 by_cases c1 : N.length ≤ 1048576
 ·skip
  rw [if_pos c1] at h
  have hu62 := Try.underlying62
  have HN := am_ hr0
  have HC := am_ hc0
  have LM := am_ c1
  have H' := am_ h
  have hrep : slices_Repeat_int_int.f ([-1] : List Int) (N.length : Int) = some (List.replicate N.length (-1)) := by
   unfold slices_Repeat_int_int.f
   rw [if_pos ⟨rfl, by omega, by omega⟩]
   rfl
  clear h c1 hr0 hc0
  go_enter Try.func30, Try.ntmps30
  go_wp2
  obtain ⟨va, ea⟩ : ∃ v : Value, v = undef := ⟨_, rfl⟩
  obtain ⟨vb, eb⟩ : ∃ v : Value, v = undef := ⟨_, rfl⟩
  obtain ⟨vc, ec⟩ : ∃ v : Value, v = undef := ⟨_, rfl⟩
  obtain ⟨vd, ed⟩ : ∃ v : Value, v = undef := ⟨_, rfl⟩
  have hM := am_ (show MKs N.length w w.drew false false false false va vb vc vd from ⟨below_drew1 (Below.refl _ _), by simp, by simp, by simp, by simp, by simp, by simp, by simp⟩)
  clear ea eb ec ed
  refine start_ (n := 11) (S := fun w' => True) (ds := []) (Sh.nm 11 0) (by kernel_rfl) rfl rfl trivial (fun hHeld => ?_)
  refine with_tabW impl_parts.tab2 impl_parts.bits2 (fun HT_ HW_ => ?_)
  refine Sh.qA 0 ?_; refine Sh.qA 1 ?_; refine Sh.qA 3 ?_; refine Sh.qA 6 ?_
  refine join_ (σ := Value × Value × Value × Value) 3 (Sh.nm 11 255) (fun s => [(10, s.1), (12, s.2.1), (13, s.2.2.1), (15, s.2.2.2)]) (fun s w' => MKs N.length w w' true true true true s.1 s.2.1 s.2.2.1 s.2.2.2) ?_ ?_
  rotate_left
  · intro hJ2_4_5_7
    refine join_ (σ := Value × Value × Value × Value) 4 (Sh.nm 11 127) (fun s => [(10, s.1), (12, s.2.1), (13, s.2.2.1)]) (fun s w' => MKs N.length w w' true true true false s.1 s.2.1 s.2.2.1 s.2.2.2) ?_ ?_
    rotate_left
    · intro hJ2_4_5
      refine join_ (σ := Value × Value × Value × Value) 4 (Sh.nm 11 239) (fun s => [(10, s.1), (13, s.2.2.1), (15, s.2.2.2)]) (fun s w' => MKs N.length w w' true false true true s.1 s.2.1 s.2.2.1 s.2.2.2) ?_ ?_
      rotate_left
      · intro hJ2_5_7
        refine join_ (σ := Value × Value × Value × Value) 4 (Sh.nm 11 251) (fun s => [(12, s.2.1), (13, s.2.2.1), (15, s.2.2.2)]) (fun s w' => MKs N.length w w' false true true true s.1 s.2.1 s.2.2.1 s.2.2.2) ?_ ?_
        rotate_left
        · intro hJ4_5_7
          refine join_ (σ := Value × Value × Value × Value) 5 (Sh.nm 11 95) (fun s => [(10, s.1), (12, s.2.1)]) (fun s w' => MKs N.length w w' true true false false s.1 s.2.1 s.2.2.1 s.2.2.2) ?_ ?_
          rotate_left
          · intro hJ2_4
            refine join_ (σ := Value × Value × Value × Value) 5 (Sh.nm 11 111) (fun s => [(10, s.1), (13, s.2.2.1)]) (fun s w' => MKs N.length w w' true false true false s.1 s.2.1 s.2.2.1 s.2.2.2) ?_ ?_
            rotate_left
            · intro hJ2_5
              refine join_ (σ := Value × Value × Value × Value) 5 (Sh.nm 11 123) (fun s => [(12, s.2.1), (13, s.2.2.1)]) (fun s w' => MKs N.length w w' false true true false s.1 s.2.1 s.2.2.1 s.2.2.2) ?_ ?_
              rotate_left
              · intro hJ4_5
                refine join_ (σ := Value × Value × Value × Value) 5 (Sh.nm 11 235) (fun s => [(13, s.2.2.1), (15, s.2.2.2)]) (fun s w' => MKs N.length w w' false false true true s.1 s.2.1 s.2.2.1 s.2.2.2) ?_ ?_
                rotate_left
                · intro hJ5_7
                  refine join_ (σ := Value × Value × Value × Value) 6 (Sh.nm 11 79) (fun s => [(10, s.1)]) (fun s w' => MKs N.length w w' true false false false s.1 s.2.1 s.2.2.1 s.2.2.2) ?_ ?_
                  rotate_left
                  · intro hJ2
                    refine join_ (σ := Value × Value × Value × Value) 6 (Sh.nm 11 91) (fun s => [(12, s.2.1)]) (fun s w' => MKs N.length w w' false true false false s.1 s.2.1 s.2.2.1 s.2.2.2) ?_ ?_
                    rotate_left
                    · intro hJ4
                      refine join_ (σ := Value × Value × Value × Value) 6 (Sh.nm 11 107) (fun s => [(13, s.2.2.1)]) (fun s w' => MKs N.length w w' false false true false s.1 s.2.1 s.2.2.1 s.2.2.2) ?_ ?_
                      rotate_left
                      · intro hJ5
                        refine three_ (i := 2) (j := 4) (k := 5) (Ni := some 10) (Nj := some 12) (Nk := some 13) (Sh.nm 11 79) (Sh.nm 11 91) (Sh.nm 11 107) rfl rfl rfl rfl rfl rfl (three_of HT_.out (by kernel_rfl)) (by decide) (by decide) (by decide) (fun K hK => ?_) (fun K hK => ?_) (fun K hK => ?_)
                        · skip
                          refine Kd.R_make_step (Kd.int .i64) _ 3 (by rfl) rfl 26 _ _ rfl (N.length : Int) (by rfl) (by rfl) Try.underlying26 (.int .i64 0) 8 info3 rfl (by decide) (by omega) 0 (ok := fun _ => True) (okp := fun _ => True) rfl (fun _ hk => hk) trivial (by omega) (by have := LM.out; omega) (Below.refl _ _) (Nat.le_refl _) ?_
                          intro v1 w1 ho hb _ hat
                          obtain ⟨b1, hat1, _⟩ := hat
                          rw [TJ_len1] at ho
                          have hM2 := am_ (MKs.pa hM.out hb ho ⟨b1, hat1⟩)
                          clear ho hb hat1 hM
                          refine hK.out _ _ trivial (fun hHeld => ?_)
                          clear hK K
                          refine norm_ (a' := ?_) ?_ ?_
                          rotate_left
                          · show Act.put _ (some 10) _ = _
                            simp only [Act.put, List.setIfInBounds_toArray, List.set_cons_zero, List.set_cons_succ, i64_w, i32_w]
                            rfl
                          exact norm_ (by first | (simp only [putAll, Act.put, List.setIfInBounds_toArray, List.set_cons_zero, List.set_cons_succ]; done) | (simp only [putAll, Act.put, List.setIfInBounds_toArray, List.set_cons_zero, List.set_cons_succ]; rfl)) (hJ2 (v1, vb, vc, vd) _ hM2.out)
                        · skip
                          refine Kd.R_make_step (Kd.int .i64) _ 3 (by rfl) rfl 26 _ _ rfl (N.length : Int) (by rfl) (by rfl) Try.underlying26 (.int .i64 0) 8 info3 rfl (by decide) (by omega) 0 (ok := fun _ => True) (okp := fun _ => True) rfl (fun _ hk => hk) trivial (by omega) (by have := LM.out; omega) (Below.refl _ _) (Nat.le_refl _) ?_
                          intro v1 w1 ho hb _ hat
                          obtain ⟨b1, hat1, _⟩ := hat
                          rw [TJ_len1] at ho
                          have hM2 := am_ (MKs.pb hM.out hb ho ⟨b1, hat1⟩)
                          clear ho hb hat1 hM
                          refine hK.out _ _ trivial (fun hHeld => ?_)
                          clear hK K
                          refine norm_ (a' := ?_) ?_ ?_
                          rotate_left
                          · show Act.put _ (some 12) _ = _
                            simp only [Act.put, List.setIfInBounds_toArray, List.set_cons_zero, List.set_cons_succ, i64_w, i32_w]
                            rfl
                          exact norm_ (by first | (simp only [putAll, Act.put, List.setIfInBounds_toArray, List.set_cons_zero, List.set_cons_succ]; done) | (simp only [putAll, Act.put, List.setIfInBounds_toArray, List.set_cons_zero, List.set_cons_succ]; rfl)) (hJ4 (va, v1, vc, vd) _ hM2.out)
                        · skip
                          refine Kd.R_lit_step (Kd.int .i64) _ 3 (by rfl) rfl (xs := ([-1] : List Int)) (inner := [.int .i64 (-1)]) (ok := fun _ => True) (okp := fun _ => True) (by first | (go_simp; done) | (go_simp; rfl)) (Reps.one (show Kd.M (Kd.int .i64) _ _ _ (-1) [.int .i64 (-1)] from rfl) (Reps.none _ _)) (fun _ hk => hk) trivial (Below.refl _ _) (Nat.le_refl _) (by simp) ?_
                          intro v1 w1 ho hb _ _
                          have hM2 := am_ (MKs.pc hM.out hb ho)
                          clear ho hb hM
                          refine hK.out _ _ trivial (fun hHeld => ?_)
                          clear hK K
                          refine norm_ (a' := ?_) ?_ ?_
                          rotate_left
                          · show Act.put _ (some 13) _ = _
                            simp only [Act.put, List.setIfInBounds_toArray, List.set_cons_zero, List.set_cons_succ, i64_w, i32_w]
                            rfl
                          exact norm_ (by first | (simp only [putAll, Act.put, List.setIfInBounds_toArray, List.set_cons_zero, List.set_cons_succ]; done) | (simp only [putAll, Act.put, List.setIfInBounds_toArray, List.set_cons_zero, List.set_cons_succ]; rfl)) (hJ5 (va, vb, v1, vd) _ hM2.out)
                      · skip
                        rintro ⟨va, vb, vc, vd⟩ w' hM
                        have hHeld : True := trivial
                        dsimp only at hM
                        replace hM := am_ hM
                        refine norm_ (a' := ?_) ?_ ?_
                        rotate_left
                        · simp only [putAll, Act.put, List.setIfInBounds_toArray, List.set_cons_zero, List.set_cons_succ]
                          rfl
                        refine three_ (i := 2) (j := 4) (k := 7) (Ni := some 10) (Nj := some 12) (Nk := some 15) (Sh.nm 11 111) (Sh.nm 11 123) (Sh.nm 11 235) rfl rfl rfl rfl rfl rfl (three_of HT_.out (by kernel_rfl)) (by decide) (by decide) (by decide) (fun K hK => ?_) (fun K hK => ?_) (fun K hK => ?_)
                        · skip
                          refine Kd.R_make_step (Kd.int .i64) _ 3 (by rfl) rfl 26 _ _ rfl (N.length : Int) (by rfl) (by rfl) Try.underlying26 (.int .i64 0) 8 info3 rfl (by decide) (by omega) 0 (ok := fun _ => True) (okp := fun _ => True) rfl (fun _ hk => hk) trivial (by omega) (by have := LM.out; omega) (Below.refl _ _) (Nat.le_refl _) ?_
                          intro v1 w1 ho hb _ hat
                          obtain ⟨b1, hat1, _⟩ := hat
                          rw [TJ_len1] at ho
                          have hM2 := am_ (MKs.pa hM.out hb ho ⟨b1, hat1⟩)
                          clear ho hb hat1 hM
                          refine hK.out _ _ trivial (fun hHeld => ?_)
                          clear hK K
                          refine norm_ (a' := ?_) ?_ ?_
                          rotate_left
                          · show Act.put _ (some 10) _ = _
                            simp only [Act.put, List.setIfInBounds_toArray, List.set_cons_zero, List.set_cons_succ, i64_w, i32_w]
                            rfl
                          exact norm_ (by first | (simp only [putAll, Act.put, List.setIfInBounds_toArray, List.set_cons_zero, List.set_cons_succ]; done) | (simp only [putAll, Act.put, List.setIfInBounds_toArray, List.set_cons_zero, List.set_cons_succ]; rfl)) (hJ2_5 (v1, vb, vc, vd) _ hM2.out)
                        · skip
                          refine Kd.R_make_step (Kd.int .i64) _ 3 (by rfl) rfl 26 _ _ rfl (N.length : Int) (by rfl) (by rfl) Try.underlying26 (.int .i64 0) 8 info3 rfl (by decide) (by omega) 0 (ok := fun _ => True) (okp := fun _ => True) rfl (fun _ hk => hk) trivial (by omega) (by have := LM.out; omega) (Below.refl _ _) (Nat.le_refl _) ?_
                          intro v1 w1 ho hb _ hat
                          obtain ⟨b1, hat1, _⟩ := hat
                          rw [TJ_len1] at ho
                          have hM2 := am_ (MKs.pb hM.out hb ho ⟨b1, hat1⟩)
                          clear ho hb hat1 hM
                          refine hK.out _ _ trivial (fun hHeld => ?_)
                          clear hK K
                          refine norm_ (a' := ?_) ?_ ?_
                          rotate_left
                          · show Act.put _ (some 12) _ = _
                            simp only [Act.put, List.setIfInBounds_toArray, List.set_cons_zero, List.set_cons_succ, i64_w, i32_w]
                            rfl
                          exact norm_ (by first | (simp only [putAll, Act.put, List.setIfInBounds_toArray, List.set_cons_zero, List.set_cons_succ]; done) | (simp only [putAll, Act.put, List.setIfInBounds_toArray, List.set_cons_zero, List.set_cons_succ]; rfl)) (hJ4_5 (va, v1, vc, vd) _ hM2.out)
                        · skip
                          have hC := hM.out.2.2.2.1 rfl
                          obtain ⟨A5, c5, e5⟩ := Kd.R_slice hC
                          subst e5
                          refine goes_ Try.func32 (by kernel_rfl) rfl #[.slice A5 ([-1] : List Int).length c5, .int .i64 (N.length : Int)] (by rfl) rfl rfl (by simp only [List.map_toArray, List.map_cons, List.map_nil]; rfl) ?_
                          with_reducible refine (slices_Repeat_int_int.calls _ _ _ _ (List.replicate N.length (-1)) _ (Kd.R_reads' hC).2.2 (Kd.R_reads' hC).2.1 hrep).mono ?_
                          rintro e w1 ⟨v1, rfl, ho, hb⟩
                          refine ⟨_, rfl, ?_⟩
                          have hM2 := am_ (MKs.pd hM.out hb ho)
                          clear ho hb hM hC
                          refine hK.out _ _ trivial (fun hHeld => ?_)
                          clear hK K
                          refine norm_ (a' := ?_) ?_ ?_
                          rotate_left
                          · show Act.put _ (some 15) _ = _
                            simp only [Act.put, List.setIfInBounds_toArray, List.set_cons_zero, List.set_cons_succ, i64_w, i32_w]
                            rfl
                          exact norm_ (by first | (simp only [putAll, Act.put, List.setIfInBounds_toArray, List.set_cons_zero, List.set_cons_succ]; done) | (simp only [putAll, Act.put, List.setIfInBounds_toArray, List.set_cons_zero, List.set_cons_succ]; rfl)) (hJ5_7 (va, vb, (.slice A5 ([-1] : List Int).length c5), v1) _ hM2.out)
                    · skip
                      rintro ⟨va, vb, vc, vd⟩ w' hM
                      have hHeld : True := trivial
                      dsimp only at hM
                      replace hM := am_ hM
                      refine norm_ (a' := ?_) ?_ ?_
                      rotate_left
                      · simp only [putAll, Act.put, List.setIfInBounds_toArray, List.set_cons_zero, List.set_cons_succ]
                        rfl
                      refine two_ (i := 2) (j := 5) (Ni := some 10) (Nj := some 13) (Sh.nm 11 95) (Sh.nm 11 123) rfl rfl rfl rfl (two_of HT_.out (by kernel_rfl)) (by decide) (by decide) (fun K hK => ?_) (fun K hK => ?_)
                      · skip
                        refine Kd.R_make_step (Kd.int .i64) _ 3 (by rfl) rfl 26 _ _ rfl (N.length : Int) (by rfl) (by rfl) Try.underlying26 (.int .i64 0) 8 info3 rfl (by decide) (by omega) 0 (ok := fun _ => True) (okp := fun _ => True) rfl (fun _ hk => hk) trivial (by omega) (by have := LM.out; omega) (Below.refl _ _) (Nat.le_refl _) ?_
                        intro v1 w1 ho hb _ hat
                        obtain ⟨b1, hat1, _⟩ := hat
                        rw [TJ_len1] at ho
                        have hM2 := am_ (MKs.pa hM.out hb ho ⟨b1, hat1⟩)
                        clear ho hb hat1 hM
                        refine hK.out _ _ trivial (fun hHeld => ?_)
                        clear hK K
                        refine norm_ (a' := ?_) ?_ ?_
                        rotate_left
                        · show Act.put _ (some 10) _ = _
                          simp only [Act.put, List.setIfInBounds_toArray, List.set_cons_zero, List.set_cons_succ, i64_w, i32_w]
                          rfl
                        exact norm_ (by first | (simp only [putAll, Act.put, List.setIfInBounds_toArray, List.set_cons_zero, List.set_cons_succ]; done) | (simp only [putAll, Act.put, List.setIfInBounds_toArray, List.set_cons_zero, List.set_cons_succ]; rfl)) (hJ2_4 (v1, vb, vc, vd) _ hM2.out)
                      · skip
                        refine Kd.R_lit_step (Kd.int .i64) _ 3 (by rfl) rfl (xs := ([-1] : List Int)) (inner := [.int .i64 (-1)]) (ok := fun _ => True) (okp := fun _ => True) (by first | (go_simp; done) | (go_simp; rfl)) (Reps.one (show Kd.M (Kd.int .i64) _ _ _ (-1) [.int .i64 (-1)] from rfl) (Reps.none _ _)) (fun _ hk => hk) trivial (Below.refl _ _) (Nat.le_refl _) (by simp) ?_
                        intro v1 w1 ho hb _ _
                        have hM2 := am_ (MKs.pc hM.out hb ho)
                        clear ho hb hM
                        refine hK.out _ _ trivial (fun hHeld => ?_)
                        clear hK K
                        refine norm_ (a' := ?_) ?_ ?_
                        rotate_left
                        · show Act.put _ (some 13) _ = _
                          simp only [Act.put, List.setIfInBounds_toArray, List.set_cons_zero, List.set_cons_succ, i64_w, i32_w]
                          rfl
                        exact norm_ (by first | (simp only [putAll, Act.put, List.setIfInBounds_toArray, List.set_cons_zero, List.set_cons_succ]; done) | (simp only [putAll, Act.put, List.setIfInBounds_toArray, List.set_cons_zero, List.set_cons_succ]; rfl)) (hJ4_5 (va, vb, v1, vd) _ hM2.out)
                  · skip
                    rintro ⟨va, vb, vc, vd⟩ w' hM
                    have hHeld : True := trivial
                    dsimp only at hM
                    replace hM := am_ hM
                    refine norm_ (a' := ?_) ?_ ?_
                    rotate_left
                    · simp only [putAll, Act.put, List.setIfInBounds_toArray, List.set_cons_zero, List.set_cons_succ]
                      rfl
                    refine two_ (i := 4) (j := 5) (Ni := some 12) (Nj := some 13) (Sh.nm 11 95) (Sh.nm 11 111) rfl rfl rfl rfl (two_of HT_.out (by kernel_rfl)) (by decide) (by decide) (fun K hK => ?_) (fun K hK => ?_)
                    · skip
                      refine Kd.R_make_step (Kd.int .i64) _ 3 (by rfl) rfl 26 _ _ rfl (N.length : Int) (by rfl) (by rfl) Try.underlying26 (.int .i64 0) 8 info3 rfl (by decide) (by omega) 0 (ok := fun _ => True) (okp := fun _ => True) rfl (fun _ hk => hk) trivial (by omega) (by have := LM.out; omega) (Below.refl _ _) (Nat.le_refl _) ?_
                      intro v1 w1 ho hb _ hat
                      obtain ⟨b1, hat1, _⟩ := hat
                      rw [TJ_len1] at ho
                      have hM2 := am_ (MKs.pb hM.out hb ho ⟨b1, hat1⟩)
                      clear ho hb hat1 hM
                      refine hK.out _ _ trivial (fun hHeld => ?_)
                      clear hK K
                      refine norm_ (a' := ?_) ?_ ?_
                      rotate_left
                      · show Act.put _ (some 12) _ = _
                        simp only [Act.put, List.setIfInBounds_toArray, List.set_cons_zero, List.set_cons_succ, i64_w, i32_w]
                        rfl
                      exact norm_ (by first | (simp only [putAll, Act.put, List.setIfInBounds_toArray, List.set_cons_zero, List.set_cons_succ]; done) | (simp only [putAll, Act.put, List.setIfInBounds_toArray, List.set_cons_zero, List.set_cons_succ]; rfl)) (hJ2_4 (va, v1, vc, vd) _ hM2.out)
                    · skip
                      refine Kd.R_lit_step (Kd.int .i64) _ 3 (by rfl) rfl (xs := ([-1] : List Int)) (inner := [.int .i64 (-1)]) (ok := fun _ => True) (okp := fun _ => True) (by first | (go_simp; done) | (go_simp; rfl)) (Reps.one (show Kd.M (Kd.int .i64) _ _ _ (-1) [.int .i64 (-1)] from rfl) (Reps.none _ _)) (fun _ hk => hk) trivial (Below.refl _ _) (Nat.le_refl _) (by simp) ?_
                      intro v1 w1 ho hb _ _
                      have hM2 := am_ (MKs.pc hM.out hb ho)
                      clear ho hb hM
                      refine hK.out _ _ trivial (fun hHeld => ?_)
                      clear hK K
                      refine norm_ (a' := ?_) ?_ ?_
                      rotate_left
                      · show Act.put _ (some 13) _ = _
                        simp only [Act.put, List.setIfInBounds_toArray, List.set_cons_zero, List.set_cons_succ, i64_w, i32_w]
                        rfl
                      exact norm_ (by first | (simp only [putAll, Act.put, List.setIfInBounds_toArray, List.set_cons_zero, List.set_cons_succ]; done) | (simp only [putAll, Act.put, List.setIfInBounds_toArray, List.set_cons_zero, List.set_cons_succ]; rfl)) (hJ2_5 (va, vb, v1, vd) _ hM2.out)
                · skip
                  rintro ⟨va, vb, vc, vd⟩ w' hM
                  have hHeld : True := trivial
                  dsimp only at hM
                  replace hM := am_ hM
                  refine norm_ (a' := ?_) ?_ ?_
                  rotate_left
                  · simp only [putAll, Act.put, List.setIfInBounds_toArray, List.set_cons_zero, List.set_cons_succ]
                    rfl
                  refine two_ (i := 2) (j := 4) (Ni := some 10) (Nj := some 12) (Sh.nm 11 239) (Sh.nm 11 251) rfl rfl rfl rfl (two_of HT_.out (by kernel_rfl)) (by decide) (by decide) (fun K hK => ?_) (fun K hK => ?_)
                  · skip
                    refine Kd.R_make_step (Kd.int .i64) _ 3 (by rfl) rfl 26 _ _ rfl (N.length : Int) (by rfl) (by rfl) Try.underlying26 (.int .i64 0) 8 info3 rfl (by decide) (by omega) 0 (ok := fun _ => True) (okp := fun _ => True) rfl (fun _ hk => hk) trivial (by omega) (by have := LM.out; omega) (Below.refl _ _) (Nat.le_refl _) ?_
                    intro v1 w1 ho hb _ hat
                    obtain ⟨b1, hat1, _⟩ := hat
                    rw [TJ_len1] at ho
                    have hM2 := am_ (MKs.pa hM.out hb ho ⟨b1, hat1⟩)
                    clear ho hb hat1 hM
                    refine hK.out _ _ trivial (fun hHeld => ?_)
                    clear hK K
                    refine norm_ (a' := ?_) ?_ ?_
                    rotate_left
                    · show Act.put _ (some 10) _ = _
                      simp only [Act.put, List.setIfInBounds_toArray, List.set_cons_zero, List.set_cons_succ, i64_w, i32_w]
                      rfl
                    exact norm_ (by first | (simp only [putAll, Act.put, List.setIfInBounds_toArray, List.set_cons_zero, List.set_cons_succ]; done) | (simp only [putAll, Act.put, List.setIfInBounds_toArray, List.set_cons_zero, List.set_cons_succ]; rfl)) (hJ2_5_7 (v1, vb, vc, vd) _ hM2.out)
                  · skip
                    refine Kd.R_make_step (Kd.int .i64) _ 3 (by rfl) rfl 26 _ _ rfl (N.length : Int) (by rfl) (by rfl) Try.underlying26 (.int .i64 0) 8 info3 rfl (by decide) (by omega) 0 (ok := fun _ => True) (okp := fun _ => True) rfl (fun _ hk => hk) trivial (by omega) (by have := LM.out; omega) (Below.refl _ _) (Nat.le_refl _) ?_
                    intro v1 w1 ho hb _ hat
                    obtain ⟨b1, hat1, _⟩ := hat
                    rw [TJ_len1] at ho
                    have hM2 := am_ (MKs.pb hM.out hb ho ⟨b1, hat1⟩)
                    clear ho hb hat1 hM
                    refine hK.out _ _ trivial (fun hHeld => ?_)
                    clear hK K
                    refine norm_ (a' := ?_) ?_ ?_
                    rotate_left
                    · show Act.put _ (some 12) _ = _
                      simp only [Act.put, List.setIfInBounds_toArray, List.set_cons_zero, List.set_cons_succ, i64_w, i32_w]
                      rfl
                    exact norm_ (by first | (simp only [putAll, Act.put, List.setIfInBounds_toArray, List.set_cons_zero, List.set_cons_succ]; done) | (simp only [putAll, Act.put, List.setIfInBounds_toArray, List.set_cons_zero, List.set_cons_succ]; rfl)) (hJ4_5_7 (va, v1, vc, vd) _ hM2.out)
              · skip
                rintro ⟨va, vb, vc, vd⟩ w' hM
                have hHeld : True := trivial
                dsimp only at hM
                replace hM := am_ hM
                refine norm_ (a' := ?_) ?_ ?_
                rotate_left
                · simp only [putAll, Act.put, List.setIfInBounds_toArray, List.set_cons_zero, List.set_cons_succ]
                  rfl
                refine two_ (i := 2) (j := 7) (Ni := some 10) (Nj := some 15) (Sh.nm 11 127) (Sh.nm 11 251) rfl rfl rfl rfl (two_of HT_.out (by kernel_rfl)) (by decide) (by decide) (fun K hK => ?_) (fun K hK => ?_)
                · skip
                  refine Kd.R_make_step (Kd.int .i64) _ 3 (by rfl) rfl 26 _ _ rfl (N.length : Int) (by rfl) (by rfl) Try.underlying26 (.int .i64 0) 8 info3 rfl (by decide) (by omega) 0 (ok := fun _ => True) (okp := fun _ => True) rfl (fun _ hk => hk) trivial (by omega) (by have := LM.out; omega) (Below.refl _ _) (Nat.le_refl _) ?_
                  intro v1 w1 ho hb _ hat
                  obtain ⟨b1, hat1, _⟩ := hat
                  rw [TJ_len1] at ho
                  have hM2 := am_ (MKs.pa hM.out hb ho ⟨b1, hat1⟩)
                  clear ho hb hat1 hM
                  refine hK.out _ _ trivial (fun hHeld => ?_)
                  clear hK K
                  refine norm_ (a' := ?_) ?_ ?_
                  rotate_left
                  · show Act.put _ (some 10) _ = _
                    simp only [Act.put, List.setIfInBounds_toArray, List.set_cons_zero, List.set_cons_succ, i64_w, i32_w]
                    rfl
                  exact norm_ (by first | (simp only [putAll, Act.put, List.setIfInBounds_toArray, List.set_cons_zero, List.set_cons_succ]; done) | (simp only [putAll, Act.put, List.setIfInBounds_toArray, List.set_cons_zero, List.set_cons_succ]; rfl)) (hJ2_4_5 (v1, vb, vc, vd) _ hM2.out)
                · skip
                  have hC := hM.out.2.2.2.1 rfl
                  obtain ⟨A5, c5, e5⟩ := Kd.R_slice hC
                  subst e5
                  refine goes_ Try.func32 (by kernel_rfl) rfl #[.slice A5 ([-1] : List Int).length c5, .int .i64 (N.length : Int)] (by rfl) rfl rfl (by simp only [List.map_toArray, List.map_cons, List.map_nil]; rfl) ?_
                  with_reducible refine (slices_Repeat_int_int.calls _ _ _ _ (List.replicate N.length (-1)) _ (Kd.R_reads' hC).2.2 (Kd.R_reads' hC).2.1 hrep).mono ?_
                  rintro e w1 ⟨v1, rfl, ho, hb⟩
                  refine ⟨_, rfl, ?_⟩
                  have hM2 := am_ (MKs.pd hM.out hb ho)
                  clear ho hb hM hC
                  refine hK.out _ _ trivial (fun hHeld => ?_)
                  clear hK K
                  refine norm_ (a' := ?_) ?_ ?_
                  rotate_left
                  · show Act.put _ (some 15) _ = _
                    simp only [Act.put, List.setIfInBounds_toArray, List.set_cons_zero, List.set_cons_succ, i64_w, i32_w]
                    rfl
                  exact norm_ (by first | (simp only [putAll, Act.put, List.setIfInBounds_toArray, List.set_cons_zero, List.set_cons_succ]; done) | (simp only [putAll, Act.put, List.setIfInBounds_toArray, List.set_cons_zero, List.set_cons_succ]; rfl)) (hJ4_5_7 (va, vb, (.slice A5 ([-1] : List Int).length c5), v1) _ hM2.out)
            · skip
              rintro ⟨va, vb, vc, vd⟩ w' hM
              have hHeld : True := trivial
              dsimp only at hM
              replace hM := am_ hM
              refine norm_ (a' := ?_) ?_ ?_
              rotate_left
              · simp only [putAll, Act.put, List.setIfInBounds_toArray, List.set_cons_zero, List.set_cons_succ]
                rfl
              refine two_ (i := 4) (j := 7) (Ni := some 12) (Nj := some 15) (Sh.nm 11 127) (Sh.nm 11 239) rfl rfl rfl rfl (two_of HT_.out (by kernel_rfl)) (by decide) (by decide) (fun K hK => ?_) (fun K hK => ?_)
              · skip
                refine Kd.R_make_step (Kd.int .i64) _ 3 (by rfl) rfl 26 _ _ rfl (N.length : Int) (by rfl) (by rfl) Try.underlying26 (.int .i64 0) 8 info3 rfl (by decide) (by omega) 0 (ok := fun _ => True) (okp := fun _ => True) rfl (fun _ hk => hk) trivial (by omega) (by have := LM.out; omega) (Below.refl _ _) (Nat.le_refl _) ?_
                intro v1 w1 ho hb _ hat
                obtain ⟨b1, hat1, _⟩ := hat
                rw [TJ_len1] at ho
                have hM2 := am_ (MKs.pb hM.out hb ho ⟨b1, hat1⟩)
                clear ho hb hat1 hM
                refine hK.out _ _ trivial (fun hHeld => ?_)
                clear hK K
                refine norm_ (a' := ?_) ?_ ?_
                rotate_left
                · show Act.put _ (some 12) _ = _
                  simp only [Act.put, List.setIfInBounds_toArray, List.set_cons_zero, List.set_cons_succ, i64_w, i32_w]
                  rfl
                exact norm_ (by first | (simp only [putAll, Act.put, List.setIfInBounds_toArray, List.set_cons_zero, List.set_cons_succ]; done) | (simp only [putAll, Act.put, List.setIfInBounds_toArray, List.set_cons_zero, List.set_cons_succ]; rfl)) (hJ2_4_5 (va, v1, vc, vd) _ hM2.out)
              · skip
                have hC := hM.out.2.2.2.1 rfl
                obtain ⟨A5, c5, e5⟩ := Kd.R_slice hC
                subst e5
                refine goes_ Try.func32 (by kernel_rfl) rfl #[.slice A5 ([-1] : List Int).length c5, .int .i64 (N.length : Int)] (by rfl) rfl rfl (by simp only [List.map_toArray, List.map_cons, List.map_nil]; rfl) ?_
                with_reducible refine (slices_Repeat_int_int.calls _ _ _ _ (List.replicate N.length (-1)) _ (Kd.R_reads' hC).2.2 (Kd.R_reads' hC).2.1 hrep).mono ?_
                rintro e w1 ⟨v1, rfl, ho, hb⟩
                refine ⟨_, rfl, ?_⟩
                have hM2 := am_ (MKs.pd hM.out hb ho)
                clear ho hb hM hC
                refine hK.out _ _ trivial (fun hHeld => ?_)
                clear hK K
                refine norm_ (a' := ?_) ?_ ?_
                rotate_left
                · show Act.put _ (some 15) _ = _
                  simp only [Act.put, List.setIfInBounds_toArray, List.set_cons_zero, List.set_cons_succ, i64_w, i32_w]
                  rfl
                exact norm_ (by first | (simp only [putAll, Act.put, List.setIfInBounds_toArray, List.set_cons_zero, List.set_cons_succ]; done) | (simp only [putAll, Act.put, List.setIfInBounds_toArray, List.set_cons_zero, List.set_cons_succ]; rfl)) (hJ2_5_7 (va, vb, (.slice A5 ([-1] : List Int).length c5), v1) _ hM2.out)
          · skip
            rintro ⟨va, vb, vc, vd⟩ w' hM
            have hHeld : True := trivial
            dsimp only at hM
            replace hM := am_ hM
            refine norm_ (a' := ?_) ?_ ?_
            rotate_left
            · simp only [putAll, Act.put, List.setIfInBounds_toArray, List.set_cons_zero, List.set_cons_succ]
              rfl
            refine one_ (i := 5) (N := some 13) (Sh.nm 11 127) rfl rfl (one_of HT_.out (by kernel_rfl)) (by decide) (fun K hK => ?_)
            refine Kd.R_lit_step (Kd.int .i64) _ 3 (by rfl) rfl (xs := ([-1] : List Int)) (inner := [.int .i64 (-1)]) (ok := fun _ => True) (okp := fun _ => True) (by first | (go_simp; done) | (go_simp; rfl)) (Reps.one (show Kd.M (Kd.int .i64) _ _ _ (-1) [.int .i64 (-1)] from rfl) (Reps.none _ _)) (fun _ hk => hk) trivial (Below.refl _ _) (Nat.le_refl _) (by simp) ?_
            intro v1 w1 ho hb _ _
            have hM2 := am_ (MKs.pc hM.out hb ho)
            clear ho hb hM
            refine hK.out _ _ trivial (fun hHeld => ?_)
            clear hK K
            refine norm_ (a' := ?_) ?_ ?_
            rotate_left
            · show Act.put _ (some 13) _ = _
              simp only [Act.put, List.setIfInBounds_toArray, List.set_cons_zero, List.set_cons_succ, i64_w, i32_w]
              rfl
            exact norm_ (by first | (simp only [putAll, Act.put, List.setIfInBounds_toArray, List.set_cons_zero, List.set_cons_succ]; done) | (simp only [putAll, Act.put, List.setIfInBounds_toArray, List.set_cons_zero, List.set_cons_succ]; rfl)) (hJ2_4_5 (va, vb, v1, vd) _ hM2.out)
        · skip
          rintro ⟨va, vb, vc, vd⟩ w' hM
          have hHeld : True := trivial
          dsimp only at hM
          replace hM := am_ hM
          refine norm_ (a' := ?_) ?_ ?_
          rotate_left
          · simp only [putAll, Act.put, List.setIfInBounds_toArray, List.set_cons_zero, List.set_cons_succ]
            rfl
          refine one_ (i := 2) (N := some 10) (Sh.nm 11 255) rfl rfl (one_of HT_.out (by kernel_rfl)) (by decide) (fun K hK => ?_)
          refine Kd.R_make_step (Kd.int .i64) _ 3 (by rfl) rfl 26 _ _ rfl (N.length : Int) (by rfl) (by rfl) Try.underlying26 (.int .i64 0) 8 info3 rfl (by decide) (by omega) 0 (ok := fun _ => True) (okp := fun _ => True) rfl (fun _ hk => hk) trivial (by omega) (by have := LM.out; omega) (Below.refl _ _) (Nat.le_refl _) ?_
          intro v1 w1 ho hb _ hat
          obtain ⟨b1, hat1, _⟩ := hat
          rw [TJ_len1] at ho
          have hM2 := am_ (MKs.pa hM.out hb ho ⟨b1, hat1⟩)
          clear ho hb hat1 hM
          refine hK.out _ _ trivial (fun hHeld => ?_)
          clear hK K
          refine norm_ (a' := ?_) ?_ ?_
          rotate_left
          · show Act.put _ (some 10) _ = _
            simp only [Act.put, List.setIfInBounds_toArray, List.set_cons_zero, List.set_cons_succ, i64_w, i32_w]
            rfl
          exact norm_ (by first | (simp only [putAll, Act.put, List.setIfInBounds_toArray, List.set_cons_zero, List.set_cons_succ]; done) | (simp only [putAll, Act.put, List.setIfInBounds_toArray, List.set_cons_zero, List.set_cons_succ]; rfl)) (hJ2_4_5_7 (v1, vb, vc, vd) _ hM2.out)
      · skip
        rintro ⟨va, vb, vc, vd⟩ w' hM
        have hHeld : True := trivial
        dsimp only at hM
        replace hM := am_ hM
        refine norm_ (a' := ?_) ?_ ?_
        rotate_left
        · simp only [putAll, Act.put, List.setIfInBounds_toArray, List.set_cons_zero, List.set_cons_succ]
          rfl
        refine one_ (i := 4) (N := some 12) (Sh.nm 11 255) rfl rfl (one_of HT_.out (by kernel_rfl)) (by decide) (fun K hK => ?_)
        refine Kd.R_make_step (Kd.int .i64) _ 3 (by rfl) rfl 26 _ _ rfl (N.length : Int) (by rfl) (by rfl) Try.underlying26 (.int .i64 0) 8 info3 rfl (by decide) (by omega) 0 (ok := fun _ => True) (okp := fun _ => True) rfl (fun _ hk => hk) trivial (by omega) (by have := LM.out; omega) (Below.refl _ _) (Nat.le_refl _) ?_
        intro v1 w1 ho hb _ hat
        obtain ⟨b1, hat1, _⟩ := hat
        rw [TJ_len1] at ho
        have hM2 := am_ (MKs.pb hM.out hb ho ⟨b1, hat1⟩)
        clear ho hb hat1 hM
        refine hK.out _ _ trivial (fun hHeld => ?_)
        clear hK K
        refine norm_ (a' := ?_) ?_ ?_
        rotate_left
        · show Act.put _ (some 12) _ = _
          simp only [Act.put, List.setIfInBounds_toArray, List.set_cons_zero, List.set_cons_succ, i64_w, i32_w]
          rfl
        exact norm_ (by first | (simp only [putAll, Act.put, List.setIfInBounds_toArray, List.set_cons_zero, List.set_cons_succ]; done) | (simp only [putAll, Act.put, List.setIfInBounds_toArray, List.set_cons_zero, List.set_cons_succ]; rfl)) (hJ2_4_5_7 (va, v1, vc, vd) _ hM2.out)
    · skip
      rintro ⟨va, vb, vc, vd⟩ w' hM
      have hHeld : True := trivial
      dsimp only at hM
      replace hM := am_ hM
      refine norm_ (a' := ?_) ?_ ?_
      rotate_left
      · simp only [putAll, Act.put, List.setIfInBounds_toArray, List.set_cons_zero, List.set_cons_succ]
        rfl
      refine one_ (i := 7) (N := some 15) (Sh.nm 11 255) rfl rfl (one_of HT_.out (by kernel_rfl)) (by decide) (fun K hK => ?_)
      have hC := hM.out.2.2.2.1 rfl
      obtain ⟨A5, c5, e5⟩ := Kd.R_slice hC
      subst e5
      refine goes_ Try.func32 (by kernel_rfl) rfl #[.slice A5 ([-1] : List Int).length c5, .int .i64 (N.length : Int)] (by rfl) rfl rfl (by simp only [List.map_toArray, List.map_cons, List.map_nil]; rfl) ?_
      with_reducible refine (slices_Repeat_int_int.calls _ _ _ _ (List.replicate N.length (-1)) _ (Kd.R_reads' hC).2.2 (Kd.R_reads' hC).2.1 hrep).mono ?_
      rintro e w1 ⟨v1, rfl, ho, hb⟩
      refine ⟨_, rfl, ?_⟩
      have hM2 := am_ (MKs.pd hM.out hb ho)
      clear ho hb hM hC
      refine hK.out _ _ trivial (fun hHeld => ?_)
      clear hK K
      refine norm_ (a' := ?_) ?_ ?_
      rotate_left
      · show Act.put _ (some 15) _ = _
        simp only [Act.put, List.setIfInBounds_toArray, List.set_cons_zero, List.set_cons_succ, i64_w, i32_w]
        rfl
      exact norm_ (by first | (simp only [putAll, Act.put, List.setIfInBounds_toArray, List.set_cons_zero, List.set_cons_succ]; done) | (simp only [putAll, Act.put, List.setIfInBounds_toArray, List.set_cons_zero, List.set_cons_succ]; rfl)) (hJ2_4_5_7 (va, vb, (.slice A5 ([-1] : List Int).length c5), v1) _ hM2.out)
  rintro ⟨va, vb, vc, vd⟩ w' hM
  have hHeld : True := trivial
  dsimp only at hM
  replace hM := am_ hM
  obtain ⟨Aa, ca, ea⟩ := TJ_sl (hM.out.2.1 rfl).2
  obtain ⟨Ab, cb, eb⟩ := TJ_sl (hM.out.2.2.1 rfl).2
  obtain ⟨Ad, cd, ed⟩ := TJ_sl (hM.out.2.2.2.2.1 rfl)
  subst ea eb ed
  refine norm_ (a' := ?_) ?_ ?_
  rotate_left
  · simp only [putAll, Act.put, List.setIfInBounds_toArray, List.set_cons_zero, List.set_cons_succ]
    rfl
  refine one_ (i := 8) (N := some 16) (Sh.nm 11 511) rfl rfl (one_of HT_.out (by kernel_rfl)) (by decide) (fun K hK => ?_)
  refine value_ (w1 := ?_) (v := ?_) (by rfl) rfl ?_ ?_
  rotate_left 2
  · go_simp
    constructor
    · rfl
    · rfl
  refine hK.out _ _ trivial (fun hHeld => ?_)
  clear hK K
  refine norm_ (a' := ?_) ?_ ?_
  rotate_left
  · show Act.put _ (some 16) _ = _
    simp only [Act.put, List.setIfInBounds_toArray, List.set_cons_zero, List.set_cons_succ, i64_w, i32_w]
    rfl
  refine one_ (i := 9) (N := some 17) (Sh.nm 11 1023) rfl rfl (one_of HT_.out (by kernel_rfl)) (by decide) (fun K hK => ?_)
  obtain ⟨g, hg⟩ : ∃ g, g = w'.heap.size := ⟨_, rfl⟩
  refine value_ (w1 := w'.alloc (.cells #[.slice A0 N.length c0, .slice Aa N.length ca, .slice Ab N.length cb, .slice Ad N.length cd, .slice none 0 0, .int .i64 0] 62 (0, 0))) (v := .pointer (some ⟨g, 0, none⟩)) (by rfl) rfl (by rw [hg]; first | (go_simp; done) | (go_simp; rfl)) ?_
  have hBK := am_ (heap_alloc_new w' (.cells #[.slice A0 N.length c0, .slice Aa N.length ca, .slice Ab N.length cb, .slice Ad N.length cd, .slice none 0 0, .int .i64 0] 62 (0, 0)))
  have hM3 := am_ (MKs.step hM.out (below_alloc (Below.refl _ _) (.cells #[.slice A0 N.length c0, .slice Aa N.length ca, .slice Ab N.length cb, .slice Ad N.length cd, .slice none 0 0, .int .i64 0] 62 (0, 0))))
  rw [← hg] at hBK
  have hGE := am_ (show w.heap.size ≤ g from by rw [hg]; exact below_size hM.out.1)
  clear hg hM
  generalize w'.alloc _ = w1 at hBK hM3 ⊢
  refine hK.out _ _ trivial (fun hHeld => ?_)
  clear hK K
  refine norm_ (a' := ?_) ?_ ?_
  rotate_left
  · show Act.put _ (some 17) _ = _
    simp only [Act.put, List.setIfInBounds_toArray, List.set_cons_zero, List.set_cons_succ, i64_w, i32_w]
    rfl
  refine Sh.qA 10 ?_
  refine done_ (done_of HT_.out (by kernel_rfl)) ?_
  clear hHeld
  by_cases c2 : 0 < N.length
  ·skip
   obtain ⟨gF, gL, gP, hI, e1, e2, e3⟩ := MKs.isT hM3.out hBK.out hGE.out c2
   subst e1 e2 e3
   have HI := am_ hI
   have HB := am_ hM3.out.1
   clear hI hM3 hBK hGE
   go_wp2
   go_loopg [20] k (fun kq v20 w' => ∃ (i : Int) (vS : Value) (xF xL xP xS : List Int) (xv : Int), v20 = .int .i64 i ∧ Aside0 (impl_parts.l0 kq N i xF xL xP xS xv = some r) ∧ Aside0 (kq ≤ k) ∧ Aside0 (IsT (.slice A0 N.length c0) N.length w w' g gF ca gL cb gP cd vS xF xL xP xS xv) ∧ Aside0 (Below w.heap.size w w'))
   case atStart => exact ⟨0, _, _, _, _, _, _, rfl, H', ⟨Nat.le_refl _⟩, IsT.am HI, ⟨Sh.bw⟩⟩
   case round =>
    clear H' HI HB
    obtain ⟨i, vS, xF, xL, xP, xS, xv, rfl, HA, HK1, HI, HB⟩ := hrel
    cases gk with
    | zero => exact absurd HA.out (by simp [impl_parts.l0])
    | succ k1 =>
     have H := HA.out
     clear HA
     simp only [impl_parts.l0] at H
     obtain ⟨⟨hcz_0, hcz_1, hcz_2, hcz_3, hcz_4, hcz_5⟩, hfz_4, hfz_5⟩ := TJ_b6 HI.out.1
     by_cases c3 : i < (N.length : Int)
     ·rw [if_pos c3] at H
      by_cases c4 : 0 ≤ i
      ·rw [if_pos c4] at H
       have c3b := decide_eq_true c3
       have c3t := eq_true c3
       have c4t := eq_true c4
       have c4b := decide_eq_true c4
       have hcF : wr.cell? ⟨gF, i.toNat, none⟩ = some (.int .i64 (rd xF i)) := (Kd.R_celln 0 HI.out.2.2.2.2.1 i c4 c3).1
       by_cases c5 : rd xF i = 0
       ·rw [if_pos c5] at H
        have c5b : (rd xF i == 0) = true := beq_iff_eq.mpr c5
        obtain ⟨t, A_, H⟩ := Sh.ba H
        have H' := am_ H
        clear H
        go_wp2_with (first | (go_at_call 47; (with_reducible refine (impl_visit.calls k1 _ _ N g gF ca gL cb gP cd vS xF xL xP xS xv i t w _ HN.out HC.out (IsT.rl HI.out) Sh.bw A_.out).mono ?_); rintro e w9 ⟨rfl, vU, hI, hb⟩; have n1_ := am_ hI; have n2_ := am_ hb; clear hI hb HI HB hcF hcz_0 hcz_1 hcz_2 hcz_3 hcz_4 hcz_5 hfz_4 hfz_5; have HI := n1_; have HB := n2_; clear n1_ n2_))
        go_roundg k1
        case measure => have := HK1.out; omega
        case rel => exact ⟨_, _, _, _, _, _, _, rfl, H', ⟨by have := HK1.out; omega⟩, IsT.am HI, ⟨Sh.bw⟩⟩
       ·rw [if_neg c5] at H
        have c5b : (rd xF i == 0) = false := beq_eq_false_iff_ne.mpr c5
        have H' := am_ H
        clear H
        go_wp2
        go_roundg k1
        case measure => have := HK1.out; omega
        case rel => exact ⟨_, _, _, _, _, _, _, rfl, H', ⟨by have := HK1.out; omega⟩, IsT.am HI, ⟨Sh.bw⟩⟩
      ·rw [if_neg c4] at H
       cases H
     ·rw [if_neg c3] at H
      have c3b := decide_eq_false c3
      injection H with H
      subst H
      go_wp2
      exact bodyPost_ret (results_tmp rfl _ _ _) rfl ⟨.slice (some ⟨gP, 0, none⟩) N.length cd, rfl, HI.out.2.2.2.2.2.2.1, HB.out⟩
  ·skip
   have n0 : N.length = 0 := by omega
   have hR := am_ (Kd.R_mono (hM3.out.2.2.2.2.1 rfl) (ok' := fun _ => True) (fun _ _ => trivial))
   have HB := am_ hM3.out.1
   have hcz := Sh.bc hBK.out 3 rfl
   have h0 := H'.out
   rw [n0] at h0
   cases k with
   | zero => exact absurd h0 (by simp [impl_parts.l0])
   | succ k0 =>
    simp only [impl_parts.l0, n0] at h0
    rw [if_neg (by decide)] at h0
    injection h0 with h0
    have er : List.replicate N.length (-1) = r := by rw [n0]; exact h0
    rw [er] at hR
    clear hM3 hGE H' hBK
    have NZ := am_ n0
    have n0i : (N.length : Int) = 0 := by omega
    clear n0 c2
    go_wp2
    go_loopg [20] 0 (fun kq v20 w' => v20 = .int .i64 0 ∧ Aside0 (w' = w1))
    case atStart => exact ⟨rfl, ⟨rfl⟩⟩
    case round =>
     obtain ⟨rfl, hw⟩ := hrel
     replace hw := hw.out
     subst hw
     go_wp2
     exact bodyPost_ret (results_tmp rfl _ _ _) rfl ⟨.slice Ad N.length cd, rfl, hR.out, HB.out⟩
 ·rw [if_neg c1] at h
  exact absurd h (by simp)

theorem impl_visit.mono1 : ∀ k, (∀ y0 y1 y2 y3 y4 y5 y6 y7, LeO (impl_visit.l1 k y0 y1 y2 y3 y4 y5 y6 y7) (impl_visit.l1 (k + 1) y0 y1 y2 y3 y4 y5 y6 y7))
 | 0 => fun _ _ _ _ _ _ _ _ r h => by simp [impl_visit.l1] at h
 | k + 1 => by
  have ih0 := impl_visit.mono1 k
  intros
  unfold impl_visit.l1
  repeat' with_reducible first | apply ih0 | exact LeO.refl _ | exact LeO.none _ | apply LeO.ite | refine LeO.bind ?_ fun _ => ?_
theorem impl_visit.monoe (k : Nat) (y0 : Int) (y1 y2 y3 y4 : List Int) (y5 : Int) : LeO (impl_visit.e k y0 y1 y2 y3 y4 y5) (impl_visit.e (k + 1) y0 y1 y2 y3 y4 y5) := by
  have ih0 := impl_visit.mono1 k
  unfold impl_visit.e
  repeat' with_reducible first | apply ih0 | apply slices_Index_int_int.mono | apply slices_Min_int_int.mono | exact LeO.refl _ | exact LeO.none _ | apply LeO.ite | refine LeO.bind ?_ fun _ => ?_
theorem impl_visit.mono_l : ∀ k, (∀ y0 y1 y2 y3 y4 y5 y6 y7 y8, LeO (impl_visit.l0 k y0 y1 y2 y3 y4 y5 y6 y7 y8) (impl_visit.l0 (k + 1) y0 y1 y2 y3 y4 y5 y6 y7 y8)) ∧ (∀ y0 y1 y2 y3 y4 y5 y6, LeO (impl_visit.f k y0 y1 y2 y3 y4 y5 y6) (impl_visit.f (k + 1) y0 y1 y2 y3 y4 y5 y6))
 | 0 => ⟨fun _ _ _ _ _ _ _ _ _ r h => by simp [impl_visit.l0] at h, fun _ _ _ _ _ _ _ r h => by simp [impl_visit.f] at h⟩
 | k + 1 => by
  obtain ⟨ih0, ih1⟩ := impl_visit.mono_l k
  and_intros <;> intros
  all_goals (first | unfold impl_visit.l0 | unfold impl_visit.f)
  all_goals repeat' with_reducible first | apply ih0 | apply ih1 | apply impl_visit.monoe | exact LeO.refl _ | exact LeO.none _ | apply LeO.ite | refine LeO.bind ?_ fun _ => ?_
theorem impl_parts.mono_l : ∀ k, (∀ y0 y1 y2 y3 y4 y5 y6, LeO (impl_parts.l0 k y0 y1 y2 y3 y4 y5 y6) (impl_parts.l0 (k + 1) y0 y1 y2 y3 y4 y5 y6))
 | 0 => fun _ _ _ _ _ _ _ r h => by simp [impl_parts.l0] at h
 | k + 1 => by
  have ih0 := impl_parts.mono_l k
  have ih1 := (impl_visit.mono_l k).2
  intros
  unfold impl_parts.l0
  repeat' with_reducible first | apply ih0 | apply ih1 | exact LeO.refl _ | exact LeO.none _ | apply LeO.ite | refine LeO.bind ?_ fun _ => ?_
theorem impl_parts.mono : ∀ a0 k, LeO (impl_parts.f k a0) (impl_parts.f (k + 1) a0) := by
  intro a0 k
  have ih0 := impl_parts.mono_l k
  unfold impl_parts.f
  repeat' with_reducible first | apply ih0 | exact LeO.refl _ | exact LeO.none _ | apply LeO.ite | refine LeO.bind ?_ fun _ => ?_
end Go.Proofs.Ytnfpolhpanpeiaa.P
