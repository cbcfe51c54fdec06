/- Go functions of this seat as Lean functions, and the proofs that the calls come to what these say; printed by a program of this session. No condition. -/
import Derived.Test.YtfjbdmeokbfhaaaP0
import Derived.RangeFuncBox
import Derived.RangeFuncLeaves
import Derived.RangeFuncCalls
import Derived.RangeFuncNested
import Derived.Shelf.RegionOpen
import Derived.WalkKit
import Derived.OwnWalkIn
import Derived.TacticsInMore
import Derived.LoopNIn
import Derived.LoopIn
import Derived.Maps.AppendAt
namespace Go.Proofs.Ytfjbdmeokbfhaaa.P
open Go.RowKit Go.Proofs.YtfjbdmeokbfhaaaW.PrintWords Go.Proofs.YtfjbdmeokbfhaaaW.PrintLast Go.Proofs.YtfjbdmeokbfhaaaW.PrintMore Go.Proofs.Ytfjbdmeokbfhaaa.Hof
attribute [local go_sem] max2_int min2_int max_two min_two max_three min_three max_four min_four   -- for this text's walks alone
set_option linter.unusedVariables false
set_option linter.unusedSimpArgs false

/-! ### laws_big: function 4 -/
def laws_big.f (l0 : List Int) (l1 : List Int) : Option (Bool) := if (l0.length : Int) > 1048576 then (some true) else (some (decide ((l1.length : Int) > (wrap64 (1048576 - (l0.length : Int))))))
set_option maxHeartbeats 8000000 in
set_option maxRecDepth 100000 in
theorem laws_big.calls (A0 : Option Addr) (c0 : Nat) (l0 : List Int) (A1 : Option Addr) (c1 : Nat) (l1 : List Int) (r : Bool) (w : World) (hr0 : Kd.C (Kd.int .u8) w A0 l0.length l0) (hc0 : l0.length ≤ c0) (hr1 : Kd.C (Kd.int .u8) w A1 l1.length l1) (hc1 : l1.length ≤ c1) (h : laws_big.f l0 l1 = some r) :
  Calls Try.prog 4 #[.slice A0 l0.length c0, .slice A1 l1.length c1] w fun e w' => e = .returned (.bool r) ∧ Drawn0 w w' := by
 have HR0 := am_ hr0
 have HC0 := am_ hc0
 clear hr0 hc0
 have HR1 := am_ hr1
 have HC1 := am_ hc1
 clear hr1 hc1
 have H := h
 clear h
 unfold laws_big.f at H
 by_cases c3 : (l0.length : Int) > 1048576
 ·rw [if_pos c3] at H
  have c3b0 : decide (1048576 < (l0.length : Int)) = true := decide_eq_true c3
  have c3b1 : decide (1048576 < l0.length) = true := decide_eq_true (by omega)
  clear c3
  obtain rfl := Option.some.inj H
  go_enter Try.func4, Try.ntmps4
  go_wp2
  go_ret
  exact ⟨Sh.es, Sh.dr⟩
 ·rw [if_neg c3] at H
  have c3b0 : decide (1048576 < (l0.length : Int)) = false := decide_eq_false c3
  have c3b1 : decide (1048576 < l0.length) = false := decide_eq_false (by omega)
  clear c3
  obtain rfl := Option.some.inj H
  go_enter Try.func4, Try.ntmps4
  go_wp2
  go_ret
  exact ⟨Sh.es, Sh.dr⟩

end Go.Proofs.Ytfjbdmeokbfhaaa.P
namespace Go.Proofs.Ytfjbdmeokbfhaaa.P
open Go.RowKit Go.Proofs.YtfjbdmeokbfhaaaW.PrintWords Go.Proofs.YtfjbdmeokbfhaaaW.PrintLast Go.Proofs.YtfjbdmeokbfhaaaW.PrintMore Go.Proofs.Ytfjbdmeokbfhaaa.Hof
attribute [local go_sem] max2_int min2_int max_two min_two max_three min_three max_four min_four   -- for this text's walks alone
set_option linter.unusedVariables false
set_option linter.unusedSimpArgs false

/-- A state of type 39 at block g of W; what its slices lead to came in by w0. -/
def IsS39 (w0 W : World) (g : Nat) (f0 : List Int) (f1 : Int) (f2 : Int) : Prop := ∃ A0 c0, W.heap[g]? = some (.cells #[.slice A0 f0.length c0, .int .i64 f1, .int .u64 f2] 39 (0, 0)) ∧ w0.heap.size ≤ g ∧ Kd.C (Kd.int .u8) w0 A0 f0.length f0
theorem IsS39.grown {w0 W : World} {g : Nat} {f0 : List Int} {f1 : Int} {f2 : Int} {W1 : World} {row : Option Nat} (h : IsS39 w0 W g f0 f1 f2) (hw : W.grownBy W1 row) (hne : some g ≠ row) : IsS39 w0 W1 g f0 f1 f2 := by
 obtain ⟨A0, c0, hb, hg, hr0⟩ := h
 exact ⟨A0, c0, blk_grown hb hw hne, hg, hr0⟩
theorem IsS39.own_neN {w0 W : World} {g : Nat} {f0 : List Int} {f1 : Int} {f2 : Int} {α : Type} {d : Kd α} {e : Nat} {base : Nat} {ok : Nat → Prop} {v : Value} {xs : List α} (h : IsS39 w0 W g f0 f1 f2) (ho : Kd.N d e W base ok v xs) (ht : e ≠ 39) : some g ≠ v.ownBlock := by
 obtain ⟨A0, c0, hb, hg, hr0⟩ := h
 exact Kd.N_ne ho hb ht
theorem IsS39.fresh {w0 W : World} {g : Nat} {f0 : List Int} {f1 : Int} {f2 : Int} (h : IsS39 w0 W g f0 f1 f2) : ∀ k, W.heap.size ≤ k → k ≠ g := by
 obtain ⟨A0, c0, hb, hg, hr0⟩ := h
 exact Kd.freshB hb
theorem IsS39.kept {w0 W : World} {g : Nat} {f0 : List Int} {f1 : Int} {f2 : Int} {W1 : World} {S : Nat → Prop} (h : IsS39 w0 W g f0 f1 f2) (hk : Kept W W1 S) (hne : ¬ S g) : IsS39 w0 W1 g f0 f1 f2 := by
 obtain ⟨A0, c0, hb, hg, hr0⟩ := h
 exact ⟨A0, c0, blk_kept hb hk hne, hg, hr0⟩
theorem IsS39.below {w0 W : World} {g : Nat} {f0 : List Int} {f1 : Int} {f2 : Int} {W1 : World} (h : IsS39 w0 W g f0 f1 f2) (hw : Below W.heap.size W W1) : IsS39 w0 W1 g f0 f1 f2 := h.grown (grown_of_below hw none) (by simp)
theorem IsS39.alloc {w0 W : World} {g : Nat} {f0 : List Int} {f1 : Int} {f2 : Int} (h : IsS39 w0 W g f0 f1 f2) (o : Obj) : IsS39 w0 (W.alloc o) g f0 f1 f2 := h.below (below_alloc (Below.refl _ _) o)
theorem IsS39.drewN {w0 W : World} {g : Nat} {f0 : List Int} {f1 : Int} {f2 : Int} (h : IsS39 w0 W g f0 f1 f2) (m : Nat) : IsS39 w0 (W.drewN m) g f0 f1 f2 := h
theorem IsS39.drew {w0 W : World} {g : Nat} {f0 : List Int} {f1 : Int} {f2 : Int} (h : IsS39 w0 W g f0 f1 f2) : IsS39 w0 W.drew g f0 f1 f2 := h
theorem IsS39.at_ {w0 W : World} {g : Nat} {f0 : List Int} {f1 : Int} {f2 : Int} {w' : World} {m : Nat} (hq : W.drewN m = w') (h : IsS39 w0 W g f0 f1 f2) : IsS39 w0 w' g f0 f1 f2 := by subst hq; exact IsS39.drewN h m
theorem IsS39.apart {w0 W : World} {g : Nat} {f0 : List Int} {f1 : Int} {f2 : Int} {α : Type} {d : Kd α} {e : Nat} {base : Nat} {ok : Nat → Prop} {v : Value} {xs : List α} (h : IsS39 w0 W g f0 f1 f2) (ho : d.R e W base ok v xs) (ht : ∀ q, q ∈ e :: d.E → q ≠ 39) : d.R e W base (fun k => ok k ∧ k ≠ g) v xs := by
 obtain ⟨A0, c0, hb, hg, hr0⟩ := h
 exact Kd.R_types ho hb ht
theorem IsS39.own_ne {w0 W : World} {g : Nat} {f0 : List Int} {f1 : Int} {f2 : Int} {α : Type} {d : Kd α} {e : Nat} {base : Nat} {ok : Nat → Prop} {v : Value} {xs : List α} (h : IsS39 w0 W g f0 f1 f2) (ho : d.R e W base ok v xs) (ht : e ≠ 39) : some g ≠ v.ownBlock := by
 obtain ⟨A0, c0, hb, hg, hr0⟩ := h
 exact Kd.R_ne ho hb ht
theorem IsS39.apartQ {w0 W : World} {g : Nat} {f0 : List Int} {f1 : Int} {f2 : Int} {α : Type} {d : Kd α} {e : Nat} {base : Nat} {ok : Nat → Prop} {v : Value} {xs : List α} (h : IsS39 w0 W g f0 f1 f2) (ho : d.Q e W base ok v xs) (ht : ∀ q, q ∈ e :: d.E → q ≠ 39) : d.Q e W base (fun k => ok k ∧ k ≠ g) v xs := by
 obtain ⟨A0, c0, hb, hg, hr0⟩ := h
 exact Kd.Q_types ho hb ht
theorem IsS39.own_neQ {w0 W : World} {g : Nat} {f0 : List Int} {f1 : Int} {f2 : Int} {α : Type} {d : Kd α} {e : Nat} {base : Nat} {ok : Nat → Prop} {v : Value} {xs : List α} (h : IsS39 w0 W g f0 f1 f2) (ho : d.Q e W base ok v xs) (ht : e ≠ 39) : some g ≠ v.ownBlock := by
 obtain ⟨A0, c0, hb, hg, hr0⟩ := h
 exact Kd.Q_ne ho hb ht
theorem IsS39.apartS {w0 W : World} {g : Nat} {f0 : List Int} {f1 : Int} {f2 : Int} {α : Type} {d : Kd α} {e : Nat} {base : Nat} {ok : Nat → Prop} {v : Value} {xs : List α} (h : IsS39 w0 W g f0 f1 f2) (ho : d.S e W base ok v xs) (ht : ∀ q, q ∈ e :: d.E → q ≠ 39) : d.S e W base (fun k => ok k ∧ k ≠ g) v xs := by
 obtain ⟨A0, c0, hb, hg, hr0⟩ := h
 exact Kd.S_types ho hb ht
theorem IsS39.own_neS {w0 W : World} {g : Nat} {f0 : List Int} {f1 : Int} {f2 : Int} {α : Type} {d : Kd α} {e : Nat} {base : Nat} {ok : Nat → Prop} {v : Value} {xs : List α} (h : IsS39 w0 W g f0 f1 f2) (ho : d.S e W base ok v xs) (ht : e ≠ 39) : some g ≠ v.ownBlock := by
 obtain ⟨A0, c0, hb, hg, hr0⟩ := h
 exact Kd.S_ne ho hb ht
theorem IsS39.lt {w0 W : World} {g : Nat} {f0 : List Int} {f1 : Int} {f2 : Int} (h : IsS39 w0 W g f0 f1 f2) : g < W.heap.size := by
 obtain ⟨A0, c0, hb, hg, hr0⟩ := h
 exact blk_lt hb
theorem IsS39.ge {w0 W : World} {g : Nat} {f0 : List Int} {f1 : Int} {f2 : Int} (h : IsS39 w0 W g f0 f1 f2) : w0.heap.size ≤ g := by
 obtain ⟨A0, c0, hb, hg, hr0⟩ := h
 exact hg
theorem IsS39.ne_blk {w0 W : World} {g : Nat} {f0 : List Int} {f1 : Int} {f2 : Int} {a : Nat} {cs : Array Value} {t : TypeId} {fr : Nat × Nat} (h : IsS39 w0 W g f0 f1 f2) (hb2 : W.heap[a]? = some (.cells cs t fr)) (ht : t ≠ 39) : g ≠ a := by
 obtain ⟨A0, c0, hb, hg, hr0⟩ := h
 rintro rfl
 rw [hb] at hb2
 injection hb2 with hb2
 injection hb2 with _ ht2
 exact ht ht2.symm
theorem IsS39.far {w0 W : World} {g : Nat} {f0 : List Int} {f1 : Int} {f2 : Int} {p : Addr} (h : IsS39 w0 W g f0 f1 f2) (hne : g ≠ p.block) (u : Value) : IsS39 w0 (W.setCell p u) g f0 f1 f2 := by
 obtain ⟨A0, c0, hb, hg, hr0⟩ := h
 exact ⟨A0, c0, blk_far hb hne u, hg, hr0⟩
theorem cellS39_0 {W : World} {g : Nat} {A0 : Option Addr} {c0 : Nat} {f0 : List Int} {f1 : Int} {f2 : Int} (h : W.heap[g]? = some (.cells #[.slice A0 f0.length c0, .int .i64 f1, .int .u64 f2] 39 (0, 0))) : W.cell? ⟨g, 0, none⟩ = some (.slice A0 f0.length c0) := (blk_cell h 0).trans rfl
theorem cellS39_1 {W : World} {g : Nat} {A0 : Option Addr} {c0 : Nat} {f0 : List Int} {f1 : Int} {f2 : Int} (h : W.heap[g]? = some (.cells #[.slice A0 f0.length c0, .int .i64 f1, .int .u64 f2] 39 (0, 0))) : W.cell? ⟨g, 1, none⟩ = some (.int .i64 f1) := (blk_cell h 1).trans rfl
theorem IsS39.set_1 {w0 W : World} {g : Nat} {f0 : List Int} {f1 : Int} {f2 : Int} (h : IsS39 w0 W g f0 f1 f2) (x : Int) : IsS39 w0 (W.setCell ⟨g, 1, none⟩ (.int .i64 x)) g f0 x f2 := by
 obtain ⟨A0, c0, hb, hg, hr0⟩ := h
 exact ⟨A0, c0, by simpa using blk_set hb 1 (.int .i64 x), hg, hr0⟩
theorem cellS39_2 {W : World} {g : Nat} {A0 : Option Addr} {c0 : Nat} {f0 : List Int} {f1 : Int} {f2 : Int} (h : W.heap[g]? = some (.cells #[.slice A0 f0.length c0, .int .i64 f1, .int .u64 f2] 39 (0, 0))) : W.cell? ⟨g, 2, none⟩ = some (.int .u64 f2) := (blk_cell h 2).trans rfl
theorem IsS39.set_2 {w0 W : World} {g : Nat} {f0 : List Int} {f1 : Int} {f2 : Int} (h : IsS39 w0 W g f0 f1 f2) (x : Int) : IsS39 w0 (W.setCell ⟨g, 2, none⟩ (.int .u64 x)) g f0 f1 x := by
 obtain ⟨A0, c0, hb, hg, hr0⟩ := h
 exact ⟨A0, c0, by simpa using blk_set hb 2 (.int .u64 x), hg, hr0⟩
theorem IsS39.new (w0 W : World) (A0 : Option Addr) (c0 : Nat) (f0 : List Int) (f1 : Int) (f2 : Int) (hB : Below w0.heap.size w0 W) (hr0 : Kd.C (Kd.int .u8) w0 A0 f0.length f0) : IsS39 w0 (W.alloc (.cells #[.slice A0 f0.length c0, .int .i64 f1, .int .u64 f2] 39)) W.heap.size f0 f1 f2 := ⟨A0, c0, by simpa using heap_alloc_new W _, hB.size, hr0⟩

/-! ### spec_l1Cur_next: function 28 -/
def spec_l1Cur_next.f (s0_0 : List Int) (s0_1 : Int) (s0_2 : Int) : Option (Int × Int × Int) := if s0_1 < (s0_0.length : Int) then (if 0 ≤ s0_1 then (if (wrap64 (s0_1 + 1)) ≤ (s0_0.length : Int) then (some (wrap64 (rd s0_0 s0_1), wrap64 (s0_1 + 1), IntKind.u64.wrap ((IntKind.u64.wrap ((IntKind.u64.wrap (s0_2 * 6364136223846793005)) + (IntKind.u64.wrap (wrap64 (rd s0_0 s0_1))))) + 1442695040888963407))) else (some (wrap64 (Go.bits .and .u64 ((IntKind.u64.wrap ((IntKind.u64.wrap ((IntKind.u64.wrap (s0_2 * 6364136223846793005)) + (IntKind.u64.wrap (wrap64 (rd s0_0 s0_1))))) + 1442695040888963407)) / 1099511627776) 255), wrap64 (s0_1 + 1), IntKind.u64.wrap ((IntKind.u64.wrap ((IntKind.u64.wrap (s0_2 * 6364136223846793005)) + (IntKind.u64.wrap (wrap64 (rd s0_0 s0_1))))) + 1442695040888963407)))) else (none)) else (if (wrap64 (s0_1 + 1)) ≤ (s0_0.length : Int) then (some (0, wrap64 (s0_1 + 1), IntKind.u64.wrap ((IntKind.u64.wrap ((IntKind.u64.wrap (s0_2 * 6364136223846793005)))) + 1442695040888963407))) else (some (wrap64 (Go.bits .and .u64 ((IntKind.u64.wrap ((IntKind.u64.wrap ((IntKind.u64.wrap (s0_2 * 6364136223846793005)))) + 1442695040888963407)) / 1099511627776) 255), wrap64 (s0_1 + 1), IntKind.u64.wrap ((IntKind.u64.wrap ((IntKind.u64.wrap (s0_2 * 6364136223846793005)))) + 1442695040888963407))))
set_option maxHeartbeats 8000000 in
set_option maxRecDepth 100000 in
theorem spec_l1Cur_next.calls (g : Nat) (s0_0 : List Int) (s0_1 : Int) (s0_2 : Int) (r1 : Int) (r2 : Int) (r3 : Int) (w0 w : World) (hI : IsS39 w0 w g s0_0 s0_1 s0_2) (hB : Below w0.heap.size w0 w) (h : spec_l1Cur_next.f s0_0 s0_1 s0_2 = some (r1, r2, r3)) :
  Calls Try.prog 28 #[.pointer (some ⟨g, 0, none⟩)] w fun e w' => e = .returned (.int .i64 r1) ∧ IsS39 w0 w' g s0_0 r2 r3 ∧ Below w0.heap.size w0 w' ∧ KeepBut w w' g none := by
 have HI0 := am_ hI
 have HK := am_ (KeepBut.refl w g none)
 have HL := am_ hB.size
 clear hI
 have HW0 := am_ hB.size
 have HB := am_ hB
 clear hB
 have H := h
 clear h
 unfold spec_l1Cur_next.f at H
 by_cases c2 : s0_1 < (s0_0.length : Int)
 ·rw [if_pos c2] at H
  have c2b0 := decide_eq_true c2
  clear c2
  by_cases c3 : 0 ≤ s0_1
  ·rw [if_pos c3] at H
   have c3b0 := decide_eq_true c3
   clear c3
   by_cases c4 : (wrap64 (s0_1 + 1)) ≤ (s0_0.length : Int)
   ·rw [if_pos c4] at H
    have c4b0 := decide_eq_true c4
    clear c4
    simp only [Option.some.injEq, Prod.mk.injEq] at H
    obtain ⟨rfl, rfl, rfl⟩ := H
    obtain ⟨ASz5_0, cSz5_0, HGz5, hgz5, HSz5_0⟩ := HI0.out
    have hcz5_0 := cellS39_0 HGz5
    have hcz5_1 := cellS39_1 HGz5
    have hcz5_2 := cellS39_2 HGz5
    have hfz5_1 := blk_frozen HGz5 1
    have hfz5_2 := blk_frozen HGz5 2
    clear HGz5 hgz5
    have p101 : 0 ≤ (s0_1 : Int) := Sh.od
    have q101 : s0_1 < (s0_0.length : Int) := Sh.od
    obtain ⟨ad101, e101, hx101_0⟩ := Kd.at_int HSz5_0 s0_1 p101 q101
    cases e101
    replace hx101_0 := pw_cell_below HB.out hx101_0
    replace p101 := eq_true p101
    replace q101 := eq_true q101
    go_enter Try.func28, Try.ntmps28
    go_wp2
    repeat (go_quiet (fail); try go_wp2)
    go_ret
    exact ⟨Sh.eR, by repeat (first | (with_reducible first | exact HI0.out | apply IsS39.alloc | apply IsS39.drewN | apply IsS39.drew | apply IsS39.set_1 | apply IsS39.set_2) | exact HI0.out), by repeat (first | (with_reducible first | exact HB.out | apply below_alloc | apply pw_below_drewN | apply below_drew1 | refine below_set ?_ (IsS39.ge HI0.out)) | exact HB.out), by repeat (first | (with_reducible first | exact HK.out | apply KeepBut.set_ | apply keep_drewN | apply keep_drew | apply keep_alloc) | exact HK.out)⟩
   ·rw [if_neg c4] at H
    have c4b0 := decide_eq_false c4
    clear c4
    simp only [Option.some.injEq, Prod.mk.injEq] at H
    obtain ⟨rfl, rfl, rfl⟩ := H
    obtain ⟨ASz6_0, cSz6_0, HGz6, hgz6, HSz6_0⟩ := HI0.out
    have hcz6_0 := cellS39_0 HGz6
    have hcz6_1 := cellS39_1 HGz6
    have hcz6_2 := cellS39_2 HGz6
    have hfz6_1 := blk_frozen HGz6 1
    have hfz6_2 := blk_frozen HGz6 2
    clear HGz6 hgz6
    have p101 : 0 ≤ (s0_1 : Int) := Sh.od
    have q101 : s0_1 < (s0_0.length : Int) := Sh.od
    obtain ⟨ad101, e101, hx101_0⟩ := Kd.at_int HSz6_0 s0_1 p101 q101
    cases e101
    replace hx101_0 := pw_cell_below HB.out hx101_0
    replace p101 := eq_true p101
    replace q101 := eq_true q101
    go_enter Try.func28, Try.ntmps28
    go_wp2
    repeat (go_quiet (fail); try go_wp2)
    go_ret
    exact ⟨Sh.eR, by repeat (first | (with_reducible first | exact HI0.out | apply IsS39.alloc | apply IsS39.drewN | apply IsS39.drew | apply IsS39.set_1 | apply IsS39.set_2) | exact HI0.out), by repeat (first | (with_reducible first | exact HB.out | apply below_alloc | apply pw_below_drewN | apply below_drew1 | refine below_set ?_ (IsS39.ge HI0.out)) | exact HB.out), by repeat (first | (with_reducible first | exact HK.out | apply KeepBut.set_ | apply keep_drewN | apply keep_drew | apply keep_alloc) | exact HK.out)⟩
  ·rw [if_neg c3] at H
   exact absurd H (by simp)
 ·rw [if_neg c2] at H
  have c2b0 := decide_eq_false c2
  clear c2
  by_cases c7 : (wrap64 (s0_1 + 1)) ≤ (s0_0.length : Int)
  ·rw [if_pos c7] at H
   have c7b0 := decide_eq_true c7
   clear c7
   simp only [Option.some.injEq, Prod.mk.injEq] at H
   obtain ⟨rfl, rfl, rfl⟩ := H
   obtain ⟨ASz8_0, cSz8_0, HGz8, hgz8, HSz8_0⟩ := HI0.out
   have hcz8_0 := cellS39_0 HGz8
   have hcz8_1 := cellS39_1 HGz8
   have hcz8_2 := cellS39_2 HGz8
   have hfz8_1 := blk_frozen HGz8 1
   have hfz8_2 := blk_frozen HGz8 2
   clear HGz8 hgz8
   go_enter Try.func28, Try.ntmps28
   go_wp2
   repeat (go_quiet (fail); try go_wp2)
   go_ret
   exact ⟨Sh.eR, by repeat (first | (with_reducible first | exact HI0.out | apply IsS39.alloc | apply IsS39.drewN | apply IsS39.drew | apply IsS39.set_1 | apply IsS39.set_2) | exact HI0.out), by repeat (first | (with_reducible first | exact HB.out | apply below_alloc | apply pw_below_drewN | apply below_drew1 | refine below_set ?_ (IsS39.ge HI0.out)) | exact HB.out), by repeat (first | (with_reducible first | exact HK.out | apply KeepBut.set_ | apply keep_drewN | apply keep_drew | apply keep_alloc) | exact HK.out)⟩
  ·rw [if_neg c7] at H
   have c7b0 := decide_eq_false c7
   clear c7
   simp only [Option.some.injEq, Prod.mk.injEq] at H
   obtain ⟨rfl, rfl, rfl⟩ := H
   obtain ⟨ASz9_0, cSz9_0, HGz9, hgz9, HSz9_0⟩ := HI0.out
   have hcz9_0 := cellS39_0 HGz9
   have hcz9_1 := cellS39_1 HGz9
   have hcz9_2 := cellS39_2 HGz9
   have hfz9_1 := blk_frozen HGz9 1
   have hfz9_2 := blk_frozen HGz9 2
   clear HGz9 hgz9
   go_enter Try.func28, Try.ntmps28
   go_wp2
   repeat (go_quiet (fail); try go_wp2)
   go_ret
   exact ⟨Sh.eR, by repeat (first | (with_reducible first | exact HI0.out | apply IsS39.alloc | apply IsS39.drewN | apply IsS39.drew | apply IsS39.set_1 | apply IsS39.set_2) | exact HI0.out), by repeat (first | (with_reducible first | exact HB.out | apply below_alloc | apply pw_below_drewN | apply below_drew1 | refine below_set ?_ (IsS39.ge HI0.out)) | exact HB.out), by repeat (first | (with_reducible first | exact HK.out | apply KeepBut.set_ | apply keep_drewN | apply keep_drew | apply keep_alloc) | exact HK.out)⟩

end Go.Proofs.Ytfjbdmeokbfhaaa.P
namespace Go.Proofs.Ytfjbdmeokbfhaaa.P
open Go.RowKit Go.Proofs.YtfjbdmeokbfhaaaW.PrintWords Go.Proofs.YtfjbdmeokbfhaaaW.PrintLast Go.Proofs.YtfjbdmeokbfhaaaW.PrintMore Go.Proofs.Ytfjbdmeokbfhaaa.Hof
attribute [local go_sem] max2_int min2_int max_two min_two max_three min_three max_four min_four   -- for this text's walks alone
set_option linter.unusedVariables false
set_option linter.unusedSimpArgs false

/-! ### spec_l1Cur_pick: function 15 -/
def spec_l1Cur_pick.f (s0_0 : List Int) (s0_1 : Int) (s0_2 : Int) (a1 : Int) : Option (Int × Int × Int) := if a1 ≤ 1 then (some (0, s0_1, s0_2)) else ((spec_l1Cur_next.f s0_0 s0_1 s0_2).bind fun bt102 => (if a1 > 200 then ((spec_l1Cur_next.f s0_0 bt102.2.1 bt102.2.2).bind fun bt105 => (if a1 = 0 then (none) else (some (Int.tmod (wrap64 ((wrap64 (bt102.1 * 256)) + bt105.1)) a1, bt105.2.1, bt105.2.2)))) else (if a1 = 0 then (none) else (some (Int.tmod bt102.1 a1, bt102.2.1, bt102.2.2)))))
set_option maxHeartbeats 8000000 in
set_option maxRecDepth 100000 in
theorem spec_l1Cur_pick.calls (g : Nat) (s0_0 : List Int) (s0_1 : Int) (s0_2 : Int) (a1 : Int) (r1 : Int) (r2 : Int) (r3 : Int) (w0 w : World) (hI : IsS39 w0 w g s0_0 s0_1 s0_2) (hB : Below w0.heap.size w0 w) (h : spec_l1Cur_pick.f s0_0 s0_1 s0_2 a1 = some (r1, r2, r3)) :
  Calls Try.prog 15 #[.pointer (some ⟨g, 0, none⟩), .int .i64 a1] w fun e w' => e = .returned (.int .i64 r1) ∧ IsS39 w0 w' g s0_0 r2 r3 ∧ Below w0.heap.size w0 w' ∧ KeepBut w w' g none := by
 have HI0 := am_ hI
 have HK := am_ (KeepBut.refl w g none)
 have HL := am_ hB.size
 clear hI
 have HW0 := am_ hB.size
 have HB := am_ hB
 clear hB
 have H := h
 clear h
 unfold spec_l1Cur_pick.f at H
 by_cases c3 : a1 ≤ 1
 ·rw [if_pos c3] at H
  have c3b0 := decide_eq_true c3
  clear c3
  simp only [Option.some.injEq, Prod.mk.injEq] at H
  obtain ⟨rfl, rfl, rfl⟩ := H
  go_enter Try.func15, Try.ntmps15
  go_wp2
  go_ret
  exact ⟨Sh.eR, by repeat (first | (with_reducible first | exact HI0.out | apply IsS39.alloc | apply IsS39.drewN | apply IsS39.drew | apply IsS39.set_1 | apply IsS39.set_2) | exact HI0.out), by repeat (first | (with_reducible first | exact HB.out | apply below_alloc | apply pw_below_drewN | apply below_drew1 | refine below_set ?_ (IsS39.ge HI0.out)) | exact HB.out), by repeat (first | (with_reducible first | exact HK.out | apply KeepBut.set_ | apply keep_drewN | apply keep_drew | apply keep_alloc) | exact HK.out)⟩
 ·rw [if_neg c3] at H
  have c3b0 := decide_eq_false c3
  clear c3
  obtain ⟨⟨t102, t103, t104⟩, A40, H⟩ := Sh.bd H
  have A4 := am_ A40
  clear A40
  by_cases c5 : a1 > 200
  ·rw [if_pos c5] at H
   have c5b0 : decide (200 < a1) = true := decide_eq_true c5
   clear c5
   obtain ⟨⟨t105, t106, t107⟩, A60, H⟩ := Sh.bd H
   have A6 := am_ A60
   clear A60
   by_cases c7 : a1 = 0
   ·rw [if_pos c7] at H
    exact absurd H (by simp)
   ·rw [if_neg c7] at H
    have c7b0 : (a1 == 0) = false := beq_eq_false_iff_ne.mpr c7
    have c7b1 : (a1 != 0) = true := bne_iff_ne.mpr c7
    simp only [Option.some.injEq, Prod.mk.injEq] at H
    obtain ⟨rfl, rfl, rfl⟩ := H
    go_enter Try.func15, Try.ntmps15
    go_wp2_with (first | ((with_reducible refine Sh.k 28 ?_); refine Sh.gL (some 9) Try.func28 #[.pointer (some ⟨g, 0, none⟩)] (h := ?_); (with_reducible refine (spec_l1Cur_next.calls g s0_0 s0_1 s0_2 t102 t103 t104 w0 _ ?side1 ?side2 A4.out).mono ?_); (case side1 => repeat (first | (with_reducible first | exact HI0.out | apply IsS39.alloc | apply IsS39.drewN | apply IsS39.drew | apply IsS39.set_1 | apply IsS39.set_2) | exact HI0.out)); (case side2 => repeat (first | (with_reducible first | exact HB.out | apply below_alloc | apply pw_below_drewN | apply below_drew1 | refine below_set ?_ (IsS39.ge HI0.out)) | exact HB.out)); rintro e w8 ⟨rfl, hi, hb, hk⟩; refine ⟨_, rfl, ?_⟩; replace HK := am_ (KeepBut.trans (by repeat (first | (with_reducible first | exact HK.out | apply KeepBut.set_ | apply keep_drewN | apply keep_drew | apply keep_alloc) | exact HK.out)) hk (.inl rfl)); replace HB := am_ hb; replace HI0 := am_ hi; (try clear hb); (try clear hb2); (try clear hk); (try clear hi)) | ((with_reducible refine Sh.k 28 ?_); refine Sh.gL (some 15) Try.func28 #[.pointer (some ⟨g, 0, none⟩)] (h := ?_); (with_reducible refine (spec_l1Cur_next.calls g s0_0 t103 t104 t105 t106 t107 w0 _ ?side1 ?side2 A6.out).mono ?_); (case side1 => repeat (first | (with_reducible first | exact HI0.out | apply IsS39.alloc | apply IsS39.drewN | apply IsS39.drew | apply IsS39.set_1 | apply IsS39.set_2) | exact HI0.out)); (case side2 => repeat (first | (with_reducible first | exact HB.out | apply below_alloc | apply pw_below_drewN | apply below_drew1 | refine below_set ?_ (IsS39.ge HI0.out)) | exact HB.out)); rintro e w9 ⟨rfl, hi, hb, hk⟩; refine ⟨_, rfl, ?_⟩; replace HK := am_ (KeepBut.trans (by repeat (first | (with_reducible first | exact HK.out | apply KeepBut.set_ | apply keep_drewN | apply keep_drew | apply keep_alloc) | exact HK.out)) hk (.inl rfl)); replace HB := am_ hb; replace HI0 := am_ hi; (try clear hb); (try clear hb2); (try clear hk); (try clear hi)))
    go_ret
    exact ⟨Sh.eR, by repeat (first | (with_reducible first | exact HI0.out | apply IsS39.alloc | apply IsS39.drewN | apply IsS39.drew | apply IsS39.set_1 | apply IsS39.set_2) | exact HI0.out), by repeat (first | (with_reducible first | exact HB.out | apply below_alloc | apply pw_below_drewN | apply below_drew1 | refine below_set ?_ (IsS39.ge HI0.out)) | exact HB.out), by repeat (first | (with_reducible first | exact HK.out | apply KeepBut.set_ | apply keep_drewN | apply keep_drew | apply keep_alloc) | exact HK.out)⟩
  ·rw [if_neg c5] at H
   have c5b0 : decide (200 < a1) = false := decide_eq_false c5
   clear c5
   by_cases c10 : a1 = 0
   ·rw [if_pos c10] at H
    exact absurd H (by simp)
   ·rw [if_neg c10] at H
    have c10b0 : (a1 == 0) = false := beq_eq_false_iff_ne.mpr c10
    have c10b1 : (a1 != 0) = true := bne_iff_ne.mpr c10
    simp only [Option.some.injEq, Prod.mk.injEq] at H
    obtain ⟨rfl, rfl, rfl⟩ := H
    go_enter Try.func15, Try.ntmps15
    go_wp2_with (first | ((with_reducible refine Sh.k 28 ?_); refine Sh.gL (some 9) Try.func28 #[.pointer (some ⟨g, 0, none⟩)] (h := ?_); (with_reducible refine (spec_l1Cur_next.calls g s0_0 s0_1 s0_2 t102 t103 t104 w0 _ ?side1 ?side2 A4.out).mono ?_); (case side1 => repeat (first | (with_reducible first | exact HI0.out | apply IsS39.alloc | apply IsS39.drewN | apply IsS39.drew | apply IsS39.set_1 | apply IsS39.set_2) | exact HI0.out)); (case side2 => repeat (first | (with_reducible first | exact HB.out | apply below_alloc | apply pw_below_drewN | apply below_drew1 | refine below_set ?_ (IsS39.ge HI0.out)) | exact HB.out)); rintro e w11 ⟨rfl, hi, hb, hk⟩; refine ⟨_, rfl, ?_⟩; replace HK := am_ (KeepBut.trans (by repeat (first | (with_reducible first | exact HK.out | apply KeepBut.set_ | apply keep_drewN | apply keep_drew | apply keep_alloc) | exact HK.out)) hk (.inl rfl)); replace HB := am_ hb; replace HI0 := am_ hi; (try clear hb); (try clear hb2); (try clear hk); (try clear hi)))
    go_ret
    exact ⟨Sh.eR, by repeat (first | (with_reducible first | exact HI0.out | apply IsS39.alloc | apply IsS39.drewN | apply IsS39.drew | apply IsS39.set_1 | apply IsS39.set_2) | exact HI0.out), by repeat (first | (with_reducible first | exact HB.out | apply below_alloc | apply pw_below_drewN | apply below_drew1 | refine below_set ?_ (IsS39.ge HI0.out)) | exact HB.out), by repeat (first | (with_reducible first | exact HK.out | apply KeepBut.set_ | apply keep_drewN | apply keep_drew | apply keep_alloc) | exact HK.out)⟩

end Go.Proofs.Ytfjbdmeokbfhaaa.P
namespace Go.Proofs.Ytfjbdmeokbfhaaa.P
open Go.RowKit Go.Proofs.YtfjbdmeokbfhaaaW.PrintWords Go.Proofs.YtfjbdmeokbfhaaaW.PrintLast Go.Proofs.YtfjbdmeokbfhaaaW.PrintMore Go.Proofs.Ytfjbdmeokbfhaaa.Hof
attribute [local go_sem] max2_int min2_int max_two min_two max_three min_three max_four min_four   -- for this text's walks alone
set_option linter.unusedVariables false
set_option linter.unusedSimpArgs false

/-! ### spec_l1Cur_among: function 13 -/
def spec_l1Cur_among.f (s0_0 : List Int) (s0_1 : Int) (s0_2 : Int) (l1 : List Int) : Option (Int × Int × Int) := (spec_l1Cur_pick.f s0_0 s0_1 s0_2 (l1.length : Int)).bind fun bt108 => (if 0 ≤ bt108.1 then (if bt108.1 < (l1.length : Int) then (some (rd l1 bt108.1, bt108.2.1, bt108.2.2)) else (none)) else (none))
set_option maxHeartbeats 8000000 in
set_option maxRecDepth 100000 in
theorem spec_l1Cur_among.calls (g : Nat) (s0_0 : List Int) (s0_1 : Int) (s0_2 : Int) (A1 : Option Addr) (c1 : Nat) (l1 : List Int) (r1 : Int) (r2 : Int) (r3 : Int) (w0 w : World) (hI : IsS39 w0 w g s0_0 s0_1 s0_2) (hB : Below w0.heap.size w0 w) (hr1 : Kd.C (Kd.int .i64) w A1 l1.length l1) (hc1 : l1.length ≤ c1) (hf1 : ∀ ad, A1 = some ad → 0 < l1.length → ad.block ≠ g) (h : spec_l1Cur_among.f s0_0 s0_1 s0_2 l1 = some (r1, r2, r3)) :
  Calls Try.prog 13 #[.pointer (some ⟨g, 0, none⟩), .slice A1 l1.length c1] w fun e w' => e = .returned (.int .i64 r1) ∧ IsS39 w0 w' g s0_0 r2 r3 ∧ Below w0.heap.size w0 w' ∧ KeepBut w w' g none := by
 have HR1 := am_ hr1
 have HC1 := am_ hc1
 clear hr1 hc1
 have HI0 := am_ hI
 have HK := am_ (KeepBut.refl w g none)
 have HL := am_ hB.size
 clear hI
 have HW0 := am_ hB.size
 have HB := am_ hB
 clear hB
 have H := h
 clear h
 unfold spec_l1Cur_among.f at H
 obtain ⟨⟨t108, t109, t110⟩, A30, H⟩ := Sh.bd H
 have A3 := am_ A30
 clear A30
 by_cases c4 : 0 ≤ t108
 ·rw [if_pos c4] at H
  have c4b0 := decide_eq_true c4
  clear c4
  by_cases c5 : t108 < (l1.length : Int)
  ·rw [if_pos c5] at H
   have c5b0 := decide_eq_true c5
   clear c5
   simp only [Option.some.injEq, Prod.mk.injEq] at H
   obtain ⟨rfl, rfl, rfl⟩ := H
   go_enter Try.func13, Try.ntmps13
   go_wp2_with (first | ((with_reducible refine Sh.k 15 ?_); refine Sh.gL (some 9) Try.func15 #[.pointer (some ⟨g, 0, none⟩), .int .i64 (l1.length : Int)] (h := ?_); (with_reducible refine (spec_l1Cur_pick.calls g s0_0 s0_1 s0_2 (l1.length : Int) t108 t109 t110 w0 _ ?side1 ?side2 A3.out).mono ?_); (case side1 => repeat (first | (with_reducible first | exact HI0.out | apply IsS39.alloc | apply IsS39.drewN | apply IsS39.drew | apply IsS39.set_1 | apply IsS39.set_2) | exact HI0.out)); (case side2 => repeat (first | (with_reducible first | exact HB.out | apply below_alloc | apply pw_below_drewN | apply below_drew1 | refine below_set ?_ (IsS39.ge HI0.out)) | exact HB.out)); rintro e w6 ⟨rfl, hi, hb, hk⟩; refine ⟨_, rfl, ?_⟩; replace HK := am_ (KeepBut.trans (by repeat (first | (with_reducible first | exact HK.out | apply KeepBut.set_ | apply keep_drewN | apply keep_drew | apply keep_alloc) | exact HK.out)) hk (.inl rfl)); replace HB := am_ hb; replace HI0 := am_ hi; (try clear hb); (try clear hb2); (try clear hk); (try clear hi); have p111 : 0 ≤ (t108 : Int) := Sh.od; have q111 : t108 < (l1.length : Int) := Sh.od; obtain ⟨ad111, e111, hx111_0⟩ := Kd.at_int HR1.out t108 p111 q111; cases e111; replace hx111_0 := keep_cell HK.out hx111_0 (by first | (rw [add_block]; exact hf1 _ rfl (by omega)) | exact hf1 _ rfl (by omega) | exact hf1 ad111 rfl (by omega)); replace p111 := eq_true p111; replace q111 := eq_true q111))
   go_ret
   exact ⟨Sh.eR, by repeat (first | (with_reducible first | exact HI0.out | apply IsS39.alloc | apply IsS39.drewN | apply IsS39.drew | apply IsS39.set_1 | apply IsS39.set_2) | exact HI0.out), by repeat (first | (with_reducible first | exact HB.out | apply below_alloc | apply pw_below_drewN | apply below_drew1 | refine below_set ?_ (IsS39.ge HI0.out)) | exact HB.out), by repeat (first | (with_reducible first | exact HK.out | apply KeepBut.set_ | apply keep_drewN | apply keep_drew | apply keep_alloc) | exact HK.out)⟩
  ·rw [if_neg c5] at H
   exact absurd H (by simp)
 ·rw [if_neg c4] at H
  exact absurd H (by simp)

end Go.Proofs.Ytfjbdmeokbfhaaa.P
namespace Go.Proofs.Ytfjbdmeokbfhaaa.P
open Go.RowKit Go.Proofs.YtfjbdmeokbfhaaaW.PrintWords Go.Proofs.YtfjbdmeokbfhaaaW.PrintLast Go.Proofs.YtfjbdmeokbfhaaaW.PrintMore Go.Proofs.Ytfjbdmeokbfhaaa.Hof
attribute [local go_sem] max2_int min2_int max_two min_two max_three min_three max_four min_four   -- for this text's walks alone
set_option linter.unusedVariables false
set_option linter.unusedSimpArgs false

/-! ### spec_l1Cur_one: function 36 -/
def spec_l1Cur_one.f (s0_0 : List Int) (s0_1 : Int) (s0_2 : Int) (a1 : Int) : Option (Bool × Int × Int) := (spec_l1Cur_pick.f s0_0 s0_1 s0_2 a1).bind fun bt112 => (some ((bt112.1 == 0), bt112.2.1, bt112.2.2))
set_option maxHeartbeats 8000000 in
set_option maxRecDepth 100000 in
theorem spec_l1Cur_one.calls (g : Nat) (s0_0 : List Int) (s0_1 : Int) (s0_2 : Int) (a1 : Int) (r1 : Bool) (r2 : Int) (r3 : Int) (w0 w : World) (hI : IsS39 w0 w g s0_0 s0_1 s0_2) (hB : Below w0.heap.size w0 w) (h : spec_l1Cur_one.f s0_0 s0_1 s0_2 a1 = some (r1, r2, r3)) :
  Calls Try.prog 36 #[.pointer (some ⟨g, 0, none⟩), .int .i64 a1] w fun e w' => e = .returned (.bool r1) ∧ IsS39 w0 w' g s0_0 r2 r3 ∧ Below w0.heap.size w0 w' ∧ KeepBut w w' g none := by
 have HI0 := am_ hI
 have HK := am_ (KeepBut.refl w g none)
 have HL := am_ hB.size
 clear hI
 have HW0 := am_ hB.size
 have HB := am_ hB
 clear hB
 have H := h
 clear h
 unfold spec_l1Cur_one.f at H
 obtain ⟨⟨t112, t113, t114⟩, A30, H⟩ := Sh.bd H
 have A3 := am_ A30
 clear A30
 simp only [Option.some.injEq, Prod.mk.injEq] at H
 obtain ⟨rfl, rfl, rfl⟩ := H
 go_enter Try.func36, Try.ntmps36
 go_wp2_with (first | ((with_reducible refine Sh.k 15 ?_); refine Sh.gL (some 7) Try.func15 #[.pointer (some ⟨g, 0, none⟩), .int .i64 a1] (h := ?_); (with_reducible refine (spec_l1Cur_pick.calls g s0_0 s0_1 s0_2 a1 t112 t113 t114 w0 _ ?side1 ?side2 A3.out).mono ?_); (case side1 => repeat (first | (with_reducible first | exact HI0.out | apply IsS39.alloc | apply IsS39.drewN | apply IsS39.drew | apply IsS39.set_1 | apply IsS39.set_2) | exact HI0.out)); (case side2 => repeat (first | (with_reducible first | exact HB.out | apply below_alloc | apply pw_below_drewN | apply below_drew1 | refine below_set ?_ (IsS39.ge HI0.out)) | exact HB.out)); rintro e w4 ⟨rfl, hi, hb, hk⟩; refine ⟨_, rfl, ?_⟩; replace HK := am_ (KeepBut.trans (by repeat (first | (with_reducible first | exact HK.out | apply KeepBut.set_ | apply keep_drewN | apply keep_drew | apply keep_alloc) | exact HK.out)) hk (.inl rfl)); replace HB := am_ hb; replace HI0 := am_ hi; (try clear hb); (try clear hb2); (try clear hk); (try clear hi)))
 go_ret
 exact ⟨Sh.eR, by repeat (first | (with_reducible first | exact HI0.out | apply IsS39.alloc | apply IsS39.drewN | apply IsS39.drew | apply IsS39.set_1 | apply IsS39.set_2) | exact HI0.out), by repeat (first | (with_reducible first | exact HB.out | apply below_alloc | apply pw_below_drewN | apply below_drew1 | refine below_set ?_ (IsS39.ge HI0.out)) | exact HB.out), by repeat (first | (with_reducible first | exact HK.out | apply KeepBut.set_ | apply keep_drewN | apply keep_drew | apply keep_alloc) | exact HK.out)⟩

end Go.Proofs.Ytfjbdmeokbfhaaa.P
namespace Go.Proofs.Ytfjbdmeokbfhaaa.P
open Go.RowKit Go.Proofs.YtfjbdmeokbfhaaaW.PrintWords Go.Proofs.YtfjbdmeokbfhaaaW.PrintLast Go.Proofs.YtfjbdmeokbfhaaaW.PrintMore Go.Proofs.Ytfjbdmeokbfhaaa.Hof
attribute [local go_sem] max2_int min2_int max_two min_two max_three min_three max_four min_four   -- for this text's walks alone
set_option linter.unusedVariables false
set_option linter.unusedSimpArgs false

/-! ### spec_l1Cur_long: function 37 -/
def spec_l1Cur_long.l0 : Nat → Int → Int → List Int → Int → Int → Option (Int × Int × Int)
 | 0, _, _, _, _, _ => none
 | k + 1, x3, x4, x1000, x1001, x1002 => if x4 < 8 then ((spec_l1Cur_next.f x1000 x1001 x1002).bind fun bt115 => (spec_l1Cur_long.l0 k (Go.bits .or .u64 (IntKind.u64.wrap (x3 * 256)) (IntKind.u64.wrap (bt115.1))) (wrap64 (x4 + 1)) x1000 bt115.2.1 bt115.2.2)) else (some (x3, x1001, x1002))
def spec_l1Cur_long.f (k : Nat) (s0_0 : List Int) (s0_1 : Int) (s0_2 : Int) : Option (Int × Int × Int) := spec_l1Cur_long.l0 k 0 0 s0_0 s0_1 s0_2
theorem spec_l1Cur_long.mono_l : ∀ k, (∀ y0 y1 y2 y3 y4, LeO (spec_l1Cur_long.l0 k y0 y1 y2 y3 y4) (spec_l1Cur_long.l0 (k + 1) y0 y1 y2 y3 y4))
 | 0 => fun _ _ _ _ _ r h => by simp [spec_l1Cur_long.l0] at h
 | k + 1 => by
  have ih0 := spec_l1Cur_long.mono_l k
  ·intro y0 y1 y2 y3 y4
   unfold spec_l1Cur_long.l0
   repeat' with_reducible first | apply ih0 | exact LeO.refl _ | exact LeO.none _ | apply LeO.ite | refine LeO.bind ?_ fun _ => ?_
theorem spec_l1Cur_long.mono : ∀ a0 a1 a2 k, LeO (spec_l1Cur_long.f k a0 a1 a2) (spec_l1Cur_long.f (k + 1) a0 a1 a2) := by
 intro a0 a1 a2 k
 have ih0 := spec_l1Cur_long.mono_l k
 unfold spec_l1Cur_long.f
 repeat' with_reducible first | apply ih0 | exact LeO.refl _ | exact LeO.none _ | apply LeO.ite | refine LeO.bind ?_ fun _ => ?_
set_option maxHeartbeats 8000000 in
set_option maxRecDepth 100000 in
theorem spec_l1Cur_long.calls (k : Nat) (g : Nat) (s0_0 : List Int) (s0_1 : Int) (s0_2 : Int) (r1 : Int) (r2 : Int) (r3 : Int) (w0 w : World) (hI : IsS39 w0 w g s0_0 s0_1 s0_2) (hB : Below w0.heap.size w0 w) (h : spec_l1Cur_long.f k s0_0 s0_1 s0_2 = some (r1, r2, r3)) :
  Calls Try.prog 37 #[.pointer (some ⟨g, 0, none⟩)] w fun e w' => e = .returned (.int .u64 r1) ∧ IsS39 w0 w' g s0_0 r2 r3 ∧ Below w0.heap.size w0 w' ∧ KeepBut w w' g none := by
 have HI0 := am_ hI
 have HK := am_ (KeepBut.refl w g none)
 have HL := am_ hB.size
 clear hI
 have HW0 := am_ hB.size
 have HB := am_ hB
 clear hB
 have H := h
 clear h
 unfold spec_l1Cur_long.f at H
 have H' := am_ H
 clear H
 go_enter Try.func37, Try.ntmps37
 go_wp2
 go_loopg [3, 4] k (fun kq v3 v4 w' => ∃ (x3_1 : Int) (x4_1 : Int) (x1001_1 : Int) (x1002_1 : Int), v3 = .int .u64 x3_1 ∧ v4 = .int .i64 x4_1 ∧ Aside0 (spec_l1Cur_long.l0 kq x3_1 x4_1 s0_0 x1001_1 x1002_1 = some (r1, r2, r3)) ∧ Aside0 (kq ≤ k) ∧ Aside0 (IsS39 w0 w' g s0_0 x1001_1 x1002_1) ∧ Aside0 (KeepBut w w' g none) ∧ Aside0 (Below w0.heap.size w0 w'))
 case atStart => exact ⟨(0), (0), (s0_1), (s0_2), (Sh.es), (Sh.es), H', ⟨Nat.le_refl _⟩, ⟨by repeat (first | (with_reducible first | exact HI0.out | apply IsS39.alloc | apply IsS39.drewN | apply IsS39.drew | apply IsS39.set_1 | apply IsS39.set_2) | exact HI0.out)⟩, ⟨by repeat (first | (with_reducible first | exact HK.out | apply KeepBut.set_ | apply keep_drewN | apply keep_drew | apply keep_alloc) | exact HK.out)⟩, ⟨by repeat (first | (with_reducible first | exact HB.out | apply below_alloc | apply pw_below_drewN | apply below_drew1 | refine below_set ?_ (IsS39.ge HI0.out)) | exact HB.out)⟩⟩
 case round =>
  clear H'
  obtain ⟨x3_1, x4_1, x1001_1, x1002_1, rfl, rfl, HA, HK1, HI0, HK, HB⟩ := hrel
  cases gk with
  | zero => exact absurd HA.out (by simp [spec_l1Cur_long.l0])
  | succ k1 =>
   have H := HA.out
   clear HA
   simp only [spec_l1Cur_long.l0] at H
   by_cases c2 : x4_1 < 8
   ·rw [if_pos c2] at H
    have c2b0 := decide_eq_true c2
    clear c2
    obtain ⟨⟨t115, t116, t117⟩, A30, H⟩ := Sh.bd H
    have A3 := am_ A30
    clear A30
    have H' := am_ H
    clear H
    go_wp2_with (first | ((with_reducible refine Sh.k 28 ?_); refine Sh.gL (some 12) Try.func28 #[.pointer (some ⟨g, 0, none⟩)] (h := ?_); (with_reducible refine (spec_l1Cur_next.calls g s0_0 x1001_1 x1002_1 t115 t116 t117 w0 _ ?side1 ?side2 A3.out).mono ?_); (case side1 => repeat (first | (with_reducible first | exact HI0.out | apply IsS39.alloc | apply IsS39.drewN | apply IsS39.drew | apply IsS39.set_1 | apply IsS39.set_2) | exact HI0.out)); (case side2 => repeat (first | (with_reducible first | exact HB.out | apply below_alloc | apply pw_below_drewN | apply below_drew1 | refine below_set ?_ (IsS39.ge HI0.out)) | exact HB.out)); rintro e w4 ⟨rfl, hi, hb, hk⟩; refine ⟨_, rfl, ?_⟩; replace HK := am_ (KeepBut.trans (by repeat (first | (with_reducible first | exact HK.out | apply KeepBut.set_ | apply keep_drewN | apply keep_drew | apply keep_alloc) | exact HK.out)) hk (.inl rfl)); replace HB := am_ hb; replace HI0 := am_ hi; (try clear hb); (try clear hb2); (try clear hk); (try clear hi)))
    go_roundg k1
    case measure => have := HK1.out; omega
    case rel => exact ⟨(Go.bits .or .u64 (IntKind.u64.wrap (x3_1 * 256)) (IntKind.u64.wrap (t115))), (wrap64 (x4_1 + 1)), (t116), (t117), (Sh.es), (Sh.es), H', ⟨by have := HK1.out; omega⟩, ⟨by repeat (first | (with_reducible first | exact HI0.out | apply IsS39.alloc | apply IsS39.drewN | apply IsS39.drew | apply IsS39.set_1 | apply IsS39.set_2) | exact HI0.out)⟩, ⟨by repeat (first | (with_reducible first | exact HK.out | apply KeepBut.set_ | apply keep_drewN | apply keep_drew | apply keep_alloc) | exact HK.out)⟩, ⟨by repeat (first | (with_reducible first | exact HB.out | apply below_alloc | apply pw_below_drewN | apply below_drew1 | refine below_set ?_ (IsS39.ge HI0.out)) | exact HB.out)⟩⟩
   ·rw [if_neg c2] at H
    have c2b0 := decide_eq_false c2
    clear c2
    simp only [Option.some.injEq, Prod.mk.injEq] at H
    obtain ⟨rfl, rfl, rfl⟩ := H
    go_wp2
    go_ret
    exact ⟨Sh.eR, by repeat (first | (with_reducible first | exact HI0.out | apply IsS39.alloc | apply IsS39.drewN | apply IsS39.drew | apply IsS39.set_1 | apply IsS39.set_2) | exact HI0.out), by repeat (first | (with_reducible first | exact HB.out | apply below_alloc | apply pw_below_drewN | apply below_drew1 | refine below_set ?_ (IsS39.ge HI0.out)) | exact HB.out), by repeat (first | (with_reducible first | exact HK.out | apply KeepBut.set_ | apply keep_drewN | apply keep_drew | apply keep_alloc) | exact HK.out)⟩

end Go.Proofs.Ytfjbdmeokbfhaaa.P
namespace Go.Proofs.Ytfjbdmeokbfhaaa.P
open Go.RowKit Go.Proofs.YtfjbdmeokbfhaaaW.PrintWords Go.Proofs.YtfjbdmeokbfhaaaW.PrintLast Go.Proofs.YtfjbdmeokbfhaaaW.PrintMore Go.Proofs.Ytfjbdmeokbfhaaa.Hof
attribute [local go_sem] max2_int min2_int max_two min_two max_three min_three max_four min_four   -- for this text's walks alone
set_option linter.unusedVariables false
set_option linter.unusedSimpArgs false

/-! ### spec_l1Cut: function 38 -/
def spec_l1Cut.l0 : Nat → Int → Int → Int → Int → Option (Int)
 | 0, _, _, _, _ => none
 | k + 1, x0, x1, x5, x6 => if x6 < x0 then (if 0 ≤ (IntKind.u64.wrap (x6)) then (spec_l1Cut.l0 k x0 x1 (Go.bits .or .u64 x5 (Go.bits .and .u64 x1 (shl .u64 1 (IntKind.u64.wrap (x6))))) (wrap64 (x6 + 1))) else (none)) else (some x5)
def spec_l1Cut.f (k : Nat) (a0 : Int) (a1 : Int) : Option (Int) := spec_l1Cut.l0 k a0 a1 0 0
theorem spec_l1Cut.mono_l : ∀ k, (∀ y0 y1 y2 y3, LeO (spec_l1Cut.l0 k y0 y1 y2 y3) (spec_l1Cut.l0 (k + 1) y0 y1 y2 y3))
 | 0 => fun _ _ _ _ r h => by simp [spec_l1Cut.l0] at h
 | k + 1 => by
  have ih0 := spec_l1Cut.mono_l k
  ·intro y0 y1 y2 y3
   unfold spec_l1Cut.l0
   repeat' with_reducible first | apply ih0 | exact LeO.refl _ | exact LeO.none _ | apply LeO.ite | refine LeO.bind ?_ fun _ => ?_
theorem spec_l1Cut.mono : ∀ a0 a1 k, LeO (spec_l1Cut.f k a0 a1) (spec_l1Cut.f (k + 1) a0 a1) := by
 intro a0 a1 k
 have ih0 := spec_l1Cut.mono_l k
 unfold spec_l1Cut.f
 repeat' with_reducible first | apply ih0 | exact LeO.refl _ | exact LeO.none _ | apply LeO.ite | refine LeO.bind ?_ fun _ => ?_
set_option maxHeartbeats 8000000 in
set_option maxRecDepth 100000 in
theorem spec_l1Cut.calls (k : Nat) (a0 : Int) (a1 : Int) (r : Int) (w : World) (h : spec_l1Cut.f k a0 a1 = some r) :
  Calls Try.prog 38 #[.int .i64 a0, .int .u64 a1] w fun e w' => e = .returned (.int .u64 r) ∧ Drawn0 w w' := by
 have H := h
 clear h
 unfold spec_l1Cut.f at H
 have H' := am_ H
 clear H
 go_enter Try.func38, Try.ntmps38
 go_wp2
 go_loopg [5, 6] k (fun kq v5 v6 w' => ∃ (x5_1 : Int) (x6_1 : Int), v5 = .int .u64 x5_1 ∧ v6 = .int .i64 x6_1 ∧ Aside0 (spec_l1Cut.l0 kq a0 a1 x5_1 x6_1 = some r) ∧ Aside0 (kq ≤ k) ∧ Drawn0 w w')
 case atStart => exact ⟨(0), (0), (Sh.es), (Sh.es), H', ⟨Nat.le_refl _⟩, Sh.dr⟩
 case round =>
  clear H'
  obtain ⟨x5_1, x6_1, rfl, rfl, HA, HK1, ⟨m1, rfl⟩⟩ := hrel
  cases gk with
  | zero => exact absurd HA.out (by simp [spec_l1Cut.l0])
  | succ k1 =>
   have H := HA.out
   clear HA
   simp only [spec_l1Cut.l0] at H
   by_cases c3 : x6_1 < a0
   ·rw [if_pos c3] at H
    have c3b0 := decide_eq_true c3
    clear c3
    obtain ⟨ji4, hj1⟩ : ∃ j_ : Int, (IntKind.u64.wrap (x6_1)) = j_ := ⟨_, rfl⟩
    replace H : (if 0 ≤ (ji4) then (spec_l1Cut.l0 k1 a0 a1 (Go.bits .or .u64 x5_1 (Go.bits .and .u64 a1 (shl .u64 1 (ji4)))) (wrap64 (x6_1 + 1))) else (none)) = some r := by first | (rw [hj1] at H; exact H) | (simp only [hj1] at H ⊢; exact H)
    by_cases c5 : 0 ≤ (ji4)
    ·rw [if_pos c5] at H
     have c5b0 := eq_true c5
     have c5b1 := decide_eq_true c5
     clear c5
     obtain ⟨ji6, hj2⟩ : ∃ j_ : Int, (shl .u64 1 (ji4)) = j_ := ⟨_, rfl⟩
     replace H : (spec_l1Cut.l0 k1 a0 a1 (Go.bits .or .u64 x5_1 (Go.bits .and .u64 a1 (ji6))) (wrap64 (x6_1 + 1))) = some r := by first | (rw [hj2] at H; exact H) | (simp only [hj2] at H ⊢; exact H)
     have hji6_ : (IntKind.u64.wrap (1 * 2 ^ min (ji4).toNat 64)) = ji6 := hj2
     have hji6z : (ji4) ≤ 64 → (IntKind.u64.wrap (1 * 2 ^ (ji4).toNat)) = ji6 := shl_small hj2
     have hji6u : (IntKind.u64.wrap (2 ^ min (ji4).toNat 64)) = ji6 := by have h_ := hji6_; rw [Int.one_mul] at h_; exact h_
     have hji6v : (ji4) ≤ 64 → (IntKind.u64.wrap (2 ^ (ji4).toNat)) = ji6 := fun hle_ => by have h_ := hji6z hle_; rw [Int.one_mul] at h_; exact h_
     have H' := am_ H
     clear H
     go_wp2
     go_roundg k1
     case measure => have := HK1.out; omega
     case rel => exact ⟨(Go.bits .or .u64 x5_1 (Go.bits .and .u64 a1 (ji6))), (wrap64 (x6_1 + 1)), (by first | rfl | (simp; done) | (simp only [← hj2] <;> (first | rfl | simp)) | (simp [*]; done)), (Sh.es), H', ⟨by have := HK1.out; omega⟩, Sh.dr⟩
    ·rw [if_neg c5] at H
     exact absurd H (by simp)
   ·rw [if_neg c3] at H
    have c3b0 := decide_eq_false c3
    clear c3
    obtain rfl := Option.some.inj H
    go_wp2
    go_ret
    exact ⟨Sh.es, Sh.dr⟩

end Go.Proofs.Ytfjbdmeokbfhaaa.P
namespace Go.Proofs.Ytfjbdmeokbfhaaa.P
open Go.RowKit Go.Proofs.YtfjbdmeokbfhaaaW.PrintWords Go.Proofs.YtfjbdmeokbfhaaaW.PrintLast Go.Proofs.YtfjbdmeokbfhaaaW.PrintMore Go.Proofs.Ytfjbdmeokbfhaaa.Hof
attribute [local go_sem] max2_int min2_int max_two min_two max_three min_three max_four min_four   -- for this text's walks alone
set_option linter.unusedVariables false
set_option linter.unusedSimpArgs false

/-! ### spec_l1Cur_word: function 27 -/
def spec_l1Cur_word.j0 : Nat → Int → Int → List Int → Int → Int → Option (Int × Int × Int)
 | 0, _, _, _, _, _ => none
 | k + 1, x1, x5, x1000, x1001, x1002 => (spec_l1Cur_one.f x1000 x1001 x1002 30).bind fun bt133 => (if bt133.1 = true then (some (x5, bt133.2.1, bt133.2.2)) else ((spec_l1Cut.f k x1 x5).bind fun t136 => (some (t136, bt133.2.1, bt133.2.2))))
def spec_l1Cur_word.f (k : Nat) (s0_0 : List Int) (s0_1 : Int) (s0_2 : Int) (a1 : Int) : Option (Int × Int × Int) := (spec_l1Cur_pick.f s0_0 s0_1 s0_2 5).bind fun bt118 => ((spec_l1Cur_pick.f s0_0 bt118.2.1 bt118.2.2 5).bind fun bt121 => (if bt121.1 = 0 then ((spec_l1Cur_long.f k s0_0 bt121.2.1 bt121.2.2).bind fun bt124 => (spec_l1Cur_word.j0 k a1 bt124.1 s0_0 bt124.2.1 bt124.2.2)) else (if bt121.1 = 1 then ((spec_l1Cur_pick.f s0_0 bt121.2.1 bt121.2.2 3).bind fun bt127 => (spec_l1Cur_word.j0 k a1 (IntKind.u64.wrap (18446744073709551615 - (IntKind.u64.wrap (bt127.1)))) s0_0 bt127.2.1 bt127.2.2)) else (if bt121.1 = 2 then ((spec_l1Cur_pick.f s0_0 bt121.2.1 bt121.2.2 64).bind fun bt130 => (if 0 ≤ (IntKind.u64.wrap (bt130.1)) then (spec_l1Cur_word.j0 k a1 (shl .u64 1 (IntKind.u64.wrap (bt130.1))) s0_0 bt130.2.1 bt130.2.2) else (none))) else (spec_l1Cur_word.j0 k a1 (IntKind.u64.wrap (bt118.1)) s0_0 bt121.2.1 bt121.2.2)))))
theorem spec_l1Cur_word.mono_l : ∀ k, (∀ y0 y1 y2 y3 y4, LeO (spec_l1Cur_word.j0 k y0 y1 y2 y3 y4) (spec_l1Cur_word.j0 (k + 1) y0 y1 y2 y3 y4))
 | 0 => fun _ _ _ _ _ r h => by simp [spec_l1Cur_word.j0] at h
 | k + 1 => by
  have ih0 := spec_l1Cur_word.mono_l k
  ·intro y0 y1 y2 y3 y4
   unfold spec_l1Cur_word.j0
   repeat' with_reducible first | apply ih0 | apply spec_l1Cur_long.mono | apply spec_l1Cut.mono | exact LeO.refl _ | exact LeO.none _ | apply LeO.ite | refine LeO.bind ?_ fun _ => ?_
theorem spec_l1Cur_word.mono : ∀ a0 a1 a2 a3 k, LeO (spec_l1Cur_word.f k a0 a1 a2 a3) (spec_l1Cur_word.f (k + 1) a0 a1 a2 a3) := by
 intro a0 a1 a2 a3 k
 have ih0 := spec_l1Cur_word.mono_l k
 unfold spec_l1Cur_word.f
 repeat' with_reducible first | apply ih0 | apply spec_l1Cur_long.mono | apply spec_l1Cut.mono | exact LeO.refl _ | exact LeO.none _ | apply LeO.ite | refine LeO.bind ?_ fun _ => ?_
set_option maxHeartbeats 8000000 in
set_option maxRecDepth 100000 in
theorem spec_l1Cur_word.calls (k : Nat) (g : Nat) (s0_0 : List Int) (s0_1 : Int) (s0_2 : Int) (a1 : Int) (r1 : Int) (r2 : Int) (r3 : Int) (w0 w : World) (hI : IsS39 w0 w g s0_0 s0_1 s0_2) (hB : Below w0.heap.size w0 w) (h : spec_l1Cur_word.f k s0_0 s0_1 s0_2 a1 = some (r1, r2, r3)) :
  Calls Try.prog 27 #[.pointer (some ⟨g, 0, none⟩), .int .i64 a1] w fun e w' => e = .returned (.int .u64 r1) ∧ IsS39 w0 w' g s0_0 r2 r3 ∧ Below w0.heap.size w0 w' ∧ KeepBut w w' g none := by
 have HI0 := am_ hI
 have HK := am_ (KeepBut.refl w g none)
 have HL := am_ hB.size
 clear hI
 have HW0 := am_ hB.size
 have HB := am_ hB
 clear hB
 have H := h
 clear h
 unfold spec_l1Cur_word.f at H
 obtain ⟨⟨t118, t119, t120⟩, A30, H⟩ := Sh.bd H
 have A3 := am_ A30
 clear A30
 obtain ⟨⟨t121, t122, t123⟩, A40, H⟩ := Sh.bd H
 have A4 := am_ A40
 clear A40
 have HC5 := am_ H
 clear H
 go_enter Try.func27, Try.ntmps27
 go_upto_block 0 with (first | ((with_reducible refine Sh.k 15 ?_); refine Sh.gL (some 7) Try.func15 #[.pointer (some ⟨g, 0, none⟩), .int .i64 5] (h := ?_); (with_reducible refine (spec_l1Cur_pick.calls g s0_0 s0_1 s0_2 5 t118 t119 t120 w0 _ ?side1 ?side2 A3.out).mono ?_); (case side1 => repeat (first | (with_reducible first | exact HI0.out | apply IsS39.alloc | apply IsS39.drewN | apply IsS39.drew | apply IsS39.set_1 | apply IsS39.set_2) | exact HI0.out)); (case side2 => repeat (first | (with_reducible first | exact HB.out | apply below_alloc | apply pw_below_drewN | apply below_drew1 | refine below_set ?_ (IsS39.ge HI0.out)) | exact HB.out)); rintro e w6 ⟨rfl, hi, hb, hk⟩; refine ⟨_, rfl, ?_⟩; replace HK := am_ (KeepBut.trans (by repeat (first | (with_reducible first | exact HK.out | apply KeepBut.set_ | apply keep_drewN | apply keep_drew | apply keep_alloc) | exact HK.out)) hk (.inl rfl)); replace HB := am_ hb; replace HI0 := am_ hi; (try clear hb); (try clear hb2); (try clear hk); (try clear hi)) | ((with_reducible refine Sh.k 15 ?_); refine Sh.gL (some 10) Try.func15 #[.pointer (some ⟨g, 0, none⟩), .int .i64 5] (h := ?_); (with_reducible refine (spec_l1Cur_pick.calls g s0_0 t119 t120 5 t121 t122 t123 w0 _ ?side1 ?side2 A4.out).mono ?_); (case side1 => repeat (first | (with_reducible first | exact HI0.out | apply IsS39.alloc | apply IsS39.drewN | apply IsS39.drew | apply IsS39.set_1 | apply IsS39.set_2) | exact HI0.out)); (case side2 => repeat (first | (with_reducible first | exact HB.out | apply below_alloc | apply pw_below_drewN | apply below_drew1 | refine below_set ?_ (IsS39.ge HI0.out)) | exact HB.out)); rintro e w7 ⟨rfl, hi, hb, hk⟩; refine ⟨_, rfl, ?_⟩; replace HK := am_ (KeepBut.trans (by repeat (first | (with_reducible first | exact HK.out | apply KeepBut.set_ | apply keep_drewN | apply keep_drew | apply keep_alloc) | exact HK.out)) hk (.inl rfl)); replace HB := am_ hb; replace HI0 := am_ hi; (try clear hb); (try clear hb2); (try clear hk); (try clear hi)))
 (try simp only [Act.put, List.setIfInBounds_toArray, List.set_cons_zero, List.set_cons_succ])
 go_cut [5] (fun v5 wc => ∃ (kq : Nat) (x5_4 : Int) (x1001_4 : Int) (x1002_4 : Int), v5 = .int .u64 x5_4 ∧ Aside0 (spec_l1Cur_word.j0 kq a1 x5_4 s0_0 x1001_4 x1002_4 = some (r1, r2, r3)) ∧ Aside0 (kq ≤ k) ∧ Aside0 (IsS39 w0 wc g s0_0 x1001_4 x1002_4) ∧ Aside0 (KeepBut w wc g none) ∧ Aside0 (Below w0.heap.size w0 wc))
 case first =>
  have H := HC5.out
  clear HC5
  by_cases c8 : t121 = 0
  ·rw [if_pos c8] at H
   have c8b0 : (t121 == 0) = true := beq_iff_eq.mpr c8
   have c8b1 : (t121 != 0) = false := bne_eq_false_iff_eq.mpr c8
   clear c8
   first | rw [c8b0] | (simp only [i64_w, i32_w]; rw [c8b0]) | skip
   obtain ⟨⟨t124, t125, t126⟩, A90, H⟩ := Sh.bd H
   have A9 := am_ A90
   clear A90
   have H' := am_ H
   clear H
   go_wp2_with (first | ((with_reducible refine Sh.k 37 ?_); refine Sh.gL (some 14) Try.func37 #[.pointer (some ⟨g, 0, none⟩)] (h := ?_); (with_reducible refine (spec_l1Cur_long.calls k g s0_0 t122 t123 t124 t125 t126 w0 _ ?side1 ?side2 A9.out).mono ?_); (case side1 => repeat (first | (with_reducible first | exact HI0.out | apply IsS39.alloc | apply IsS39.drewN | apply IsS39.drew | apply IsS39.set_1 | apply IsS39.set_2) | exact HI0.out)); (case side2 => repeat (first | (with_reducible first | exact HB.out | apply below_alloc | apply pw_below_drewN | apply below_drew1 | refine below_set ?_ (IsS39.ge HI0.out)) | exact HB.out)); rintro e w10 ⟨rfl, hi, hb, hk⟩; refine ⟨_, rfl, ?_⟩; replace HK := am_ (KeepBut.trans (by repeat (first | (with_reducible first | exact HK.out | apply KeepBut.set_ | apply keep_drewN | apply keep_drew | apply keep_alloc) | exact HK.out)) hk (.inl rfl)); replace HB := am_ hb; replace HI0 := am_ hi; (try clear hb); (try clear hb2); (try clear hk); (try clear hi)))
   go_meet
   case rel => exact ⟨_, (t124), (t125), (t126), (Sh.es), H', ⟨Sh.om⟩, ⟨by repeat (first | (with_reducible first | exact HI0.out | apply IsS39.alloc | apply IsS39.drewN | apply IsS39.drew | apply IsS39.set_1 | apply IsS39.set_2) | exact HI0.out)⟩, ⟨by repeat (first | (with_reducible first | exact HK.out | apply KeepBut.set_ | apply keep_drewN | apply keep_drew | apply keep_alloc) | exact HK.out)⟩, ⟨by repeat (first | (with_reducible first | exact HB.out | apply below_alloc | apply pw_below_drewN | apply below_drew1 | refine below_set ?_ (IsS39.ge HI0.out)) | exact HB.out)⟩⟩
  ·rw [if_neg c8] at H
   have c8b0 : (t121 == 0) = false := beq_eq_false_iff_ne.mpr c8
   have c8b1 : (t121 != 0) = true := bne_iff_ne.mpr c8
   first | rw [c8b0] | (simp only [i64_w, i32_w]; rw [c8b0]) | skip
   by_cases c11 : t121 = 1
   ·rw [if_pos c11] at H
    have c11b0 : (t121 == 1) = true := beq_iff_eq.mpr c11
    have c11b1 : (t121 != 1) = false := bne_eq_false_iff_eq.mpr c11
    clear c11
    obtain ⟨⟨t127, t128, t129⟩, A120, H⟩ := Sh.bd H
    have A12 := am_ A120
    clear A120
    have H' := am_ H
    clear H
    go_wp2_with (first | ((with_reducible refine Sh.k 15 ?_); refine Sh.gL (some 18) Try.func15 #[.pointer (some ⟨g, 0, none⟩), .int .i64 3] (h := ?_); (with_reducible refine (spec_l1Cur_pick.calls g s0_0 t122 t123 3 t127 t128 t129 w0 _ ?side1 ?side2 A12.out).mono ?_); (case side1 => repeat (first | (with_reducible first | exact HI0.out | apply IsS39.alloc | apply IsS39.drewN | apply IsS39.drew | apply IsS39.set_1 | apply IsS39.set_2) | exact HI0.out)); (case side2 => repeat (first | (with_reducible first | exact HB.out | apply below_alloc | apply pw_below_drewN | apply below_drew1 | refine below_set ?_ (IsS39.ge HI0.out)) | exact HB.out)); rintro e w13 ⟨rfl, hi, hb, hk⟩; refine ⟨_, rfl, ?_⟩; replace HK := am_ (KeepBut.trans (by repeat (first | (with_reducible first | exact HK.out | apply KeepBut.set_ | apply keep_drewN | apply keep_drew | apply keep_alloc) | exact HK.out)) hk (.inl rfl)); replace HB := am_ hb; replace HI0 := am_ hi; (try clear hb); (try clear hb2); (try clear hk); (try clear hi)))
    go_meet
    case rel => exact ⟨_, (IntKind.u64.wrap (18446744073709551615 - (IntKind.u64.wrap (t127)))), (t128), (t129), (Sh.es), H', ⟨Sh.om⟩, ⟨by repeat (first | (with_reducible first | exact HI0.out | apply IsS39.alloc | apply IsS39.drewN | apply IsS39.drew | apply IsS39.set_1 | apply IsS39.set_2) | exact HI0.out)⟩, ⟨by repeat (first | (with_reducible first | exact HK.out | apply KeepBut.set_ | apply keep_drewN | apply keep_drew | apply keep_alloc) | exact HK.out)⟩, ⟨by repeat (first | (with_reducible first | exact HB.out | apply below_alloc | apply pw_below_drewN | apply below_drew1 | refine below_set ?_ (IsS39.ge HI0.out)) | exact HB.out)⟩⟩
   ·rw [if_neg c11] at H
    have c11b0 : (t121 == 1) = false := beq_eq_false_iff_ne.mpr c11
    have c11b1 : (t121 != 1) = true := bne_iff_ne.mpr c11
    by_cases c14 : t121 = 2
    ·rw [if_pos c14] at H
     have c14b0 : (t121 == 2) = true := beq_iff_eq.mpr c14
     have c14b1 : (t121 != 2) = false := bne_eq_false_iff_eq.mpr c14
     clear c14
     obtain ⟨⟨t130, t131, t132⟩, A150, H⟩ := Sh.bd H
     have A15 := am_ A150
     clear A150
     obtain ⟨ji16, hj1⟩ : ∃ j_ : Int, (IntKind.u64.wrap (t130)) = j_ := ⟨_, rfl⟩
     replace H : (if 0 ≤ (ji16) then (spec_l1Cur_word.j0 k a1 (shl .u64 1 (ji16)) s0_0 t131 t132) else (none)) = some (r1, r2, r3) := by first | (rw [hj1] at H; exact H) | (simp only [hj1] at H ⊢; exact H)
     (try rw [hj1] at A15)
     by_cases c17 : 0 ≤ (ji16)
     ·rw [if_pos c17] at H
      have c17b0 := eq_true c17
      have c17b1 := decide_eq_true c17
      clear c17
      obtain ⟨ji18, hj2⟩ : ∃ j_ : Int, (shl .u64 1 (ji16)) = j_ := ⟨_, rfl⟩
      replace H : (spec_l1Cur_word.j0 k a1 ji18 s0_0 t131 t132) = some (r1, r2, r3) := by first | (rw [hj2] at H; exact H) | (simp only [hj2] at H ⊢; exact H)
      (try rw [hj2] at A15)
      have hji18_ : (IntKind.u64.wrap (1 * 2 ^ min (ji16).toNat 64)) = ji18 := hj2
      have hji18z : (ji16) ≤ 64 → (IntKind.u64.wrap (1 * 2 ^ (ji16).toNat)) = ji18 := shl_small hj2
      have hji18u : (IntKind.u64.wrap (2 ^ min (ji16).toNat 64)) = ji18 := by have h_ := hji18_; rw [Int.one_mul] at h_; exact h_
      have hji18v : (ji16) ≤ 64 → (IntKind.u64.wrap (2 ^ (ji16).toNat)) = ji18 := fun hle_ => by have h_ := hji18z hle_; rw [Int.one_mul] at h_; exact h_
      have H' := am_ H
      clear H
      go_wp2_with (first | ((with_reducible refine Sh.k 15 ?_); refine Sh.gL (some 24) Try.func15 #[.pointer (some ⟨g, 0, none⟩), .int .i64 64] (h := ?_); (with_reducible refine (spec_l1Cur_pick.calls g s0_0 t122 t123 64 t130 t131 t132 w0 _ ?side1 ?side2 A15.out).mono ?_); (case side1 => repeat (first | (with_reducible first | exact HI0.out | apply IsS39.alloc | apply IsS39.drewN | apply IsS39.drew | apply IsS39.set_1 | apply IsS39.set_2) | exact HI0.out)); (case side2 => repeat (first | (with_reducible first | exact HB.out | apply below_alloc | apply pw_below_drewN | apply below_drew1 | refine below_set ?_ (IsS39.ge HI0.out)) | exact HB.out)); rintro e w19 ⟨rfl, hi, hb, hk⟩; refine ⟨_, rfl, ?_⟩; replace HK := am_ (KeepBut.trans (by repeat (first | (with_reducible first | exact HK.out | apply KeepBut.set_ | apply keep_drewN | apply keep_drew | apply keep_alloc) | exact HK.out)) hk (.inl rfl)); replace HB := am_ hb; replace HI0 := am_ hi; (try clear hb); (try clear hb2); (try clear hk); (try clear hi)))
      go_meet
      case rel => exact ⟨_, (ji18), (t131), (t132), (by first | rfl | (simp; done) | (simp only [← hj2] <;> (first | rfl | simp)) | (simp [*]; done)), H', ⟨Sh.om⟩, ⟨by repeat (first | (with_reducible first | exact HI0.out | apply IsS39.alloc | apply IsS39.drewN | apply IsS39.drew | apply IsS39.set_1 | apply IsS39.set_2) | exact HI0.out)⟩, ⟨by repeat (first | (with_reducible first | exact HK.out | apply KeepBut.set_ | apply keep_drewN | apply keep_drew | apply keep_alloc) | exact HK.out)⟩, ⟨by repeat (first | (with_reducible first | exact HB.out | apply below_alloc | apply pw_below_drewN | apply below_drew1 | refine below_set ?_ (IsS39.ge HI0.out)) | exact HB.out)⟩⟩
     ·rw [if_neg c17] at H
      exact absurd H (by simp)
    ·rw [if_neg c14] at H
     have c14b0 : (t121 == 2) = false := beq_eq_false_iff_ne.mpr c14
     have c14b1 : (t121 != 2) = true := bne_iff_ne.mpr c14
     have H' := am_ H
     clear H
     go_wp2
     go_meet
     case rel => exact ⟨_, (IntKind.u64.wrap (t118)), (t122), (t123), (Sh.es), H', ⟨Sh.om⟩, ⟨by repeat (first | (with_reducible first | exact HI0.out | apply IsS39.alloc | apply IsS39.drewN | apply IsS39.drew | apply IsS39.set_1 | apply IsS39.set_2) | exact HI0.out)⟩, ⟨by repeat (first | (with_reducible first | exact HK.out | apply KeepBut.set_ | apply keep_drewN | apply keep_drew | apply keep_alloc) | exact HK.out)⟩, ⟨by repeat (first | (with_reducible first | exact HB.out | apply below_alloc | apply pw_below_drewN | apply below_drew1 | refine below_set ?_ (IsS39.ge HI0.out)) | exact HB.out)⟩⟩
 case rest =>
  clear HC5
  obtain ⟨kq, x5_4, x1001_4, x1002_4, rfl, HA, HJ4, HI0, HK, HB⟩ := hcut
  cases kq with
  | zero => exact absurd HA.out (by simp [spec_l1Cur_word.j0])
  | succ kj4 =>
   have H := HA.out
   clear HA
   simp only [spec_l1Cur_word.j0] at H
   obtain ⟨⟨t133, t134, t135⟩, A200, H⟩ := Sh.bd H
   have A20 := am_ A200
   clear A200
   by_cases c21 : t133 = true
   ·subst c21
    rw [if_pos rfl] at H
    simp only [Option.some.injEq, Prod.mk.injEq] at H
    obtain ⟨rfl, rfl, rfl⟩ := H
    go_wp2_with (first | ((with_reducible refine Sh.k 36 ?_); refine Sh.gL (some 28) Try.func36 #[.pointer (some ⟨g, 0, none⟩), .int .i64 30] (h := ?_); (with_reducible refine (spec_l1Cur_one.calls g s0_0 x1001_4 x1002_4 30 true t134 t135 w0 _ ?side1 ?side2 A20.out).mono ?_); (case side1 => repeat (first | (with_reducible first | exact HI0.out | apply IsS39.alloc | apply IsS39.drewN | apply IsS39.drew | apply IsS39.set_1 | apply IsS39.set_2) | exact HI0.out)); (case side2 => repeat (first | (with_reducible first | exact HB.out | apply below_alloc | apply pw_below_drewN | apply below_drew1 | refine below_set ?_ (IsS39.ge HI0.out)) | exact HB.out)); rintro e w22 ⟨rfl, hi, hb, hk⟩; refine ⟨_, rfl, ?_⟩; replace HK := am_ (KeepBut.trans (by repeat (first | (with_reducible first | exact HK.out | apply KeepBut.set_ | apply keep_drewN | apply keep_drew | apply keep_alloc) | exact HK.out)) hk (.inl rfl)); replace HB := am_ hb; replace HI0 := am_ hi; (try clear hb); (try clear hb2); (try clear hk); (try clear hi)))
    go_ret
    exact ⟨Sh.eR, by repeat (first | (with_reducible first | exact HI0.out | apply IsS39.alloc | apply IsS39.drewN | apply IsS39.drew | apply IsS39.set_1 | apply IsS39.set_2) | exact HI0.out), by repeat (first | (with_reducible first | exact HB.out | apply below_alloc | apply pw_below_drewN | apply below_drew1 | refine below_set ?_ (IsS39.ge HI0.out)) | exact HB.out), by repeat (first | (with_reducible first | exact HK.out | apply KeepBut.set_ | apply keep_drewN | apply keep_drew | apply keep_alloc) | exact HK.out)⟩
   ·replace c21 := Bool.eq_false_iff.mpr c21
    subst c21
    rw [Sh.nf] at H
    obtain ⟨t136, A23, H⟩ := Sh.ba H
    simp only [Option.some.injEq, Prod.mk.injEq] at H
    obtain ⟨rfl, rfl, rfl⟩ := H
    go_wp2_with (first | ((with_reducible refine Sh.k 36 ?_); refine Sh.gL (some 28) Try.func36 #[.pointer (some ⟨g, 0, none⟩), .int .i64 30] (h := ?_); (with_reducible refine (spec_l1Cur_one.calls g s0_0 x1001_4 x1002_4 30 false t134 t135 w0 _ ?side1 ?side2 A20.out).mono ?_); (case side1 => repeat (first | (with_reducible first | exact HI0.out | apply IsS39.alloc | apply IsS39.drewN | apply IsS39.drew | apply IsS39.set_1 | apply IsS39.set_2) | exact HI0.out)); (case side2 => repeat (first | (with_reducible first | exact HB.out | apply below_alloc | apply pw_below_drewN | apply below_drew1 | refine below_set ?_ (IsS39.ge HI0.out)) | exact HB.out)); rintro e w24 ⟨rfl, hi, hb, hk⟩; refine ⟨_, rfl, ?_⟩; replace HK := am_ (KeepBut.trans (by repeat (first | (with_reducible first | exact HK.out | apply KeepBut.set_ | apply keep_drewN | apply keep_drew | apply keep_alloc) | exact HK.out)) hk (.inl rfl)); replace HB := am_ hb; replace HI0 := am_ hi; (try clear hb); (try clear hb2); (try clear hk); (try clear hi)) | ((with_reducible refine Sh.k 38 ?_); refine Sh.gD (some 32) Try.func38 #[.int .i64 a1, .int .u64 x5_4] (spec_l1Cut.calls kj4 a1 x5_4 t136 _ A23.out) fun nd => ?_))
    go_ret
    exact ⟨Sh.eR, by repeat (first | (with_reducible first | exact HI0.out | apply IsS39.alloc | apply IsS39.drewN | apply IsS39.drew | apply IsS39.set_1 | apply IsS39.set_2) | exact HI0.out), by repeat (first | (with_reducible first | exact HB.out | apply below_alloc | apply pw_below_drewN | apply below_drew1 | refine below_set ?_ (IsS39.ge HI0.out)) | exact HB.out), by repeat (first | (with_reducible first | exact HK.out | apply KeepBut.set_ | apply keep_drewN | apply keep_drew | apply keep_alloc) | exact HK.out)⟩

end Go.Proofs.Ytfjbdmeokbfhaaa.P
namespace Go.Proofs.Ytfjbdmeokbfhaaa.P
open Go.RowKit Go.Proofs.YtfjbdmeokbfhaaaW.PrintWords Go.Proofs.YtfjbdmeokbfhaaaW.PrintLast Go.Proofs.YtfjbdmeokbfhaaaW.PrintMore Go.Proofs.Ytfjbdmeokbfhaaa.Hof
attribute [local go_sem] max2_int min2_int max_two min_two max_three min_three max_four min_four   -- for this text's walks alone
set_option linter.unusedVariables false
set_option linter.unusedSimpArgs false

/-! ### spec_l1Cur_state: function 14 -/
def spec_l1Cur_state.l0 : Nat → Int → Int → List Int → Int → List Int → Int → Int → Option (List Int × Int × Int)
 | 0, _, _, _, _, _, _, _ => none
 | k + 1, x1, x2, x7, x8, x1000, x1001, x1002 => if x8 < x2 then ((spec_l1Cur_word.f k x1000 x1001 x1002 x1).bind fun bt137 => (if x7.length < 17592186044416 then (spec_l1Cur_state.l0 k x1 x2 (x7 ++ [bt137.1]) (wrap64 (x8 + 1)) x1000 bt137.2.1 bt137.2.2) else (none))) else (some (x7, x1001, x1002))
def spec_l1Cur_state.f (k : Nat) (s0_0 : List Int) (s0_1 : Int) (s0_2 : Int) (a1 : Int) (a2 : Int) : Option (List Int × Int × Int) := spec_l1Cur_state.l0 k a1 a2 ([] : List Int) 0 s0_0 s0_1 s0_2
theorem spec_l1Cur_state.mono_l : ∀ k, (∀ y0 y1 y2 y3 y4 y5 y6, LeO (spec_l1Cur_state.l0 k y0 y1 y2 y3 y4 y5 y6) (spec_l1Cur_state.l0 (k + 1) y0 y1 y2 y3 y4 y5 y6))
 | 0 => fun _ _ _ _ _ _ _ r h => by simp [spec_l1Cur_state.l0] at h
 | k + 1 => by
  have ih0 := spec_l1Cur_state.mono_l k
  ·intro y0 y1 y2 y3 y4 y5 y6
   unfold spec_l1Cur_state.l0
   repeat' with_reducible first | apply ih0 | apply spec_l1Cur_word.mono | exact LeO.refl _ | exact LeO.none _ | apply LeO.ite | refine LeO.bind ?_ fun _ => ?_
theorem spec_l1Cur_state.mono : ∀ a0 a1 a2 a3 a4 k, LeO (spec_l1Cur_state.f k a0 a1 a2 a3 a4) (spec_l1Cur_state.f (k + 1) a0 a1 a2 a3 a4) := by
 intro a0 a1 a2 a3 a4 k
 have ih0 := spec_l1Cur_state.mono_l k
 unfold spec_l1Cur_state.f
 repeat' with_reducible first | apply ih0 | apply spec_l1Cur_word.mono | exact LeO.refl _ | exact LeO.none _ | apply LeO.ite | refine LeO.bind ?_ fun _ => ?_
set_option maxHeartbeats 8000000 in
set_option maxRecDepth 100000 in
theorem spec_l1Cur_state.calls (k : Nat) (g : Nat) (s0_0 : List Int) (s0_1 : Int) (s0_2 : Int) (a1 : Int) (a2 : Int) (r1 : List Int) (r2 : Int) (r3 : Int) (w0 w : World) (hI : IsS39 w0 w g s0_0 s0_1 s0_2) (hB : Below w0.heap.size w0 w) (h : spec_l1Cur_state.f k s0_0 s0_1 s0_2 a1 a2 = some (r1, r2, r3)) :
  Calls Try.prog 14 #[.pointer (some ⟨g, 0, none⟩), .int .i64 a1, .int .i64 a2] w fun e w' => ∃ v0_ : Value, e = .returned (v0_) ∧ Kd.R (Kd.int .u64) 37 w' w.heap.size (fun _ => True) v0_ r1 ∧ IsS39 w0 w' g s0_0 r2 r3 ∧ Below w0.heap.size w0 w' ∧ KeepBut w w' g none := by
 have HI0 := am_ hI
 have HK := am_ (KeepBut.refl w g none)
 have HL := am_ hB.size
 clear hI
 have HW0 := am_ hB.size
 have HB := am_ hB
 clear hB
 have H := h
 clear h
 unfold spec_l1Cur_state.f at H
 have H' := am_ H
 clear H
 go_enter Try.func14, Try.ntmps14
 go_wp2
 go_loopg [7, 8] k (fun kq v7 v8 w' => ∃ (x7_1 : List Int) (x8_1 : Int) (x1001_1 : Int) (x1002_1 : Int), v8 = .int .i64 x8_1 ∧ Aside0 (spec_l1Cur_state.l0 kq a1 a2 x7_1 x8_1 s0_0 x1001_1 x1002_1 = some (r1, r2, r3)) ∧ Aside0 (kq ≤ k) ∧ Aside0 (Kd.R (Kd.int .u64) 37 w' w.heap.size (fun _ => True) v7 x7_1) ∧ Aside0 (IsS39 w0 w' g s0_0 x1001_1 x1002_1) ∧ Aside0 (KeepBut w w' g none) ∧ Aside0 (Below w0.heap.size w0 w'))
 case atStart => exact ⟨(([] : List Int)), (0), (s0_1), (s0_2), (Sh.es), H', ⟨Nat.le_refl _⟩, ⟨by first | exact Kd.R_nil _ _ _ _ _ | exact Kd.N_nil _ _ _ _ _ | exact Kd.V_nil _ _ _ _ _ | exact Kd.Q_nil _ _ _ _ _ | exact Kd.S_nil _ _ _ _ _⟩, ⟨by repeat (first | (with_reducible first | exact HI0.out | apply IsS39.alloc | apply IsS39.drewN | apply IsS39.drew | apply IsS39.set_1 | apply IsS39.set_2) | exact HI0.out)⟩, ⟨by repeat (first | (with_reducible first | exact HK.out | apply KeepBut.set_ | apply keep_drewN | apply keep_drew | apply keep_alloc) | exact HK.out)⟩, ⟨by repeat (first | (with_reducible first | exact HB.out | apply below_alloc | apply pw_below_drewN | apply below_drew1 | refine below_set ?_ (IsS39.ge HI0.out)) | exact HB.out)⟩⟩
 case round =>
  clear H'
  obtain ⟨x7_1, x8_1, x1001_1, x1002_1, rfl, HA, HK1, HO_7, HI0, HK, HB⟩ := hrel
  cases gk with
  | zero => exact absurd HA.out (by simp [spec_l1Cur_state.l0])
  | succ k1 =>
   have H := HA.out
   clear HA
   simp only [spec_l1Cur_state.l0] at H
   by_cases c4 : x8_1 < a2
   ·rw [if_pos c4] at H
    have c4b0 := decide_eq_true c4
    clear c4
    obtain ⟨⟨t137, t138, t139⟩, A50, H⟩ := Sh.bd H
    have A5 := am_ A50
    clear A50
    by_cases c6 : x7_1.length < 17592186044416
    ·rw [if_pos c6] at H
     have LMc6 := am_ c6
     clear c6
     obtain ⟨y140, hy140⟩ : ∃ y_ : List Int, y_ = (x7_1 ++ [t137]) := ⟨_, rfl⟩
     replace H : (spec_l1Cur_state.l0 k1 a1 a2 y140 (wrap64 (x8_1 + 1)) s0_0 t138 t139) = some (r1, r2, r3) := by first | (rw [hy140]; with_reducible exact H) | (have H2_ := (Option.bind_some _ _).symm.trans H; rw [hy140]; with_reducible exact H2_) | (have H2_ := (Option.bind_some _ _).symm.trans H; with_reducible exact H2_) | with_reducible exact H | (rw [hy140]; exact H) | exact H
     have Ny140 := am_ hy140
     clear hy140
     have H' := am_ H
     clear H
     go_wp2_with (first | ((with_reducible refine Sh.k 27 ?_); refine Sh.gL (some 17) Try.func27 #[.pointer (some ⟨g, 0, none⟩), .int .i64 a1] (h := ?_); (with_reducible refine (spec_l1Cur_word.calls k1 g s0_0 x1001_1 x1002_1 a1 t137 t138 t139 w0 _ ?side1 ?side2 A5.out).mono ?_); (case side1 => repeat (first | (with_reducible first | exact HI0.out | apply IsS39.alloc | apply IsS39.drewN | apply IsS39.drew | apply IsS39.set_1 | apply IsS39.set_2) | exact HI0.out)); (case side2 => repeat (first | (with_reducible first | exact HB.out | apply below_alloc | apply pw_below_drewN | apply below_drew1 | refine below_set ?_ (IsS39.ge HI0.out)) | exact HB.out)); rintro e w7 ⟨rfl, hi, hb, hk⟩; refine ⟨_, rfl, ?_⟩; replace HO_7 := am_ (Kd.R_mono (Kd.R_keep (IsS39.apart (show IsS39 w0 _ g s0_0 x1001_1 x1002_1 from by repeat (first | (with_reducible first | exact HI0.out | apply IsS39.alloc | apply IsS39.drewN | apply IsS39.drew | apply IsS39.set_1 | apply IsS39.set_2) | exact HI0.out)) (Sh.rl HO_7.out) (by decide)) hk (fun _ h => h.2)) (fun _ h => h.1)); replace HK := am_ (KeepBut.trans (by repeat (first | (with_reducible first | exact HK.out | apply KeepBut.set_ | apply keep_drewN | apply keep_drew | apply keep_alloc) | exact HK.out)) hk (.inl rfl)); replace HB := am_ hb; replace HI0 := am_ hi; (try clear hb); (try clear hb2); (try clear hk); (try clear hi)) | ((with_reducible refine gate_builtin (b := .append) (xs := #[.tmp 14, .tmp 18]) rfl ?_); at_builtin; refine Kd.R_append (Kd.int .u64) w.heap.size rfl (.tmp 14) (.tmp 18) 24 37 (.int .u64 0) 8 rfl Try.underlying24 info37 rfl (by decide) (by omega) u7 x7_1 t137 [.int .u64 t137] (fun _ => True) (fun _ => False) rfl rfl ?aP (fun _ hk => hk.elim) ?aF ?aO (Below.refl _ _) ?aS ?aL ?_; (case aP => exact rfl); (case aF => exact (fun _ _ => trivial)); (case aO => exact (Sh.rl HO_7.out)); (case aS => exact (keep_size (w := w) (g := g) (row := none) (by repeat (first | (with_reducible first | exact HK.out | apply KeepBut.set_ | apply keep_drewN | apply keep_drew | apply keep_alloc) | exact HK.out)))); (case aL => have := LMc6.out; omega); intro v141 w8 ho hb hg hat; rw [← Ny140.out] at ho; have n0_ := am_ (IsS39.grown (by repeat (first | (with_reducible first | exact HI0.out | apply IsS39.alloc | apply IsS39.drewN | apply IsS39.drew | apply IsS39.set_1 | apply IsS39.set_2) | exact HI0.out)) hg (IsS39.own_ne HI0.out HO_7.out (by decide))); have n1_ := am_ (below_weaken (by repeat (first | (with_reducible first | exact HB.out | apply below_alloc | apply pw_below_drewN | apply below_drew1 | refine below_set ?_ (IsS39.ge HI0.out)) | exact HB.out)) HL.out hb); have n2_ := am_ (KeepBut.trans (by repeat (first | (with_reducible first | exact HK.out | apply KeepBut.set_ | apply keep_drewN | apply keep_drew | apply keep_alloc) | exact HK.out)) (KeepBut.of_grown hg g) (Kd.R_base2 HO_7.out)); have n3_ := am_ ho; clear HI0; clear HB; clear HK; clear HO_7; have HI0 := n0_; have HB := n1_; have HK := n2_; have HO142 := n3_; clear n0_ n1_ n2_ n3_; clear ho hb hg hat))
     go_roundg k1
     case measure => have := HK1.out; omega
     case rel => exact ⟨(y140), (wrap64 (x8_1 + 1)), (t138), (t139), (Sh.es), H', ⟨by have := HK1.out; omega⟩, ⟨Sh.rl HO142.out⟩, ⟨by repeat (first | (with_reducible first | exact HI0.out | apply IsS39.alloc | apply IsS39.drewN | apply IsS39.drew | apply IsS39.set_1 | apply IsS39.set_2) | exact HI0.out)⟩, ⟨by repeat (first | (with_reducible first | exact HK.out | apply KeepBut.set_ | apply keep_drewN | apply keep_drew | apply keep_alloc) | exact HK.out)⟩, ⟨by repeat (first | (with_reducible first | exact HB.out | apply below_alloc | apply pw_below_drewN | apply below_drew1 | refine below_set ?_ (IsS39.ge HI0.out)) | exact HB.out)⟩⟩
    ·rw [if_neg c6] at H
     exact absurd H (by simp)
   ·rw [if_neg c4] at H
    have c4b0 := decide_eq_false c4
    clear c4
    simp only [Option.some.injEq, Prod.mk.injEq] at H
    obtain ⟨rfl, rfl, rfl⟩ := H
    go_wp2
    go_ret
    exact ⟨_, Sh.eR, Sh.rl HO_7.out, by repeat (first | (with_reducible first | exact HI0.out | apply IsS39.alloc | apply IsS39.drewN | apply IsS39.drew | apply IsS39.set_1 | apply IsS39.set_2) | exact HI0.out), by repeat (first | (with_reducible first | exact HB.out | apply below_alloc | apply pw_below_drewN | apply below_drew1 | refine below_set ?_ (IsS39.ge HI0.out)) | exact HB.out), by repeat (first | (with_reducible first | exact HK.out | apply KeepBut.set_ | apply keep_drewN | apply keep_drew | apply keep_alloc) | exact HK.out)⟩

end Go.Proofs.Ytfjbdmeokbfhaaa.P
namespace Go.Proofs.Ytfjbdmeokbfhaaa.P
open Go.RowKit Go.Proofs.YtfjbdmeokbfhaaaW.PrintWords Go.Proofs.YtfjbdmeokbfhaaaW.PrintLast Go.Proofs.YtfjbdmeokbfhaaaW.PrintMore Go.Proofs.Ytfjbdmeokbfhaaa.Hof
attribute [local go_sem] max2_int min2_int max_two min_two max_three min_three max_four min_four   -- for this text's walks alone
set_option linter.unusedVariables false
set_option linter.unusedSimpArgs false

/-! ### spec_DrawBitsOf: function 5 -/
def spec_DrawBitsOf.f (k : Nat) (l0 : List Int) : Option (Int × List Int) := (spec_l1Cur_among.f l0 0 0 (([1, 2, 3, 4, 4, 5] : List Int))).bind fun bt147 => ((spec_l1Cur_pick.f l0 bt147.2.1 bt147.2.2 6).bind fun bt150 => ((spec_l1Cur_state.f k l0 bt150.2.1 bt150.2.2 bt147.1 bt150.1).bind fun bt153 => (some (bt147.1, bt153.1))))
theorem spec_DrawBitsOf.mono : ∀ a0 k, LeO (spec_DrawBitsOf.f k a0) (spec_DrawBitsOf.f (k + 1) a0) := by
 intro a0 k
 unfold spec_DrawBitsOf.f
 repeat' with_reducible first | apply spec_l1Cur_state.mono | exact LeO.refl _ | exact LeO.none _ | apply LeO.ite | refine LeO.bind ?_ fun _ => ?_
set_option maxHeartbeats 8000000 in
set_option maxRecDepth 100000 in
theorem spec_DrawBitsOf.calls (k : Nat) (A0 : Option Addr) (c0 : Nat) (l0 : List Int) (r1 : Int) (r2 : List Int) (w : World) (hr0 : Kd.C (Kd.int .u8) w A0 l0.length l0) (hc0 : l0.length ≤ c0) (h : spec_DrawBitsOf.f k l0 = some (r1, r2)) :
  Calls Try.prog 5 #[.slice A0 l0.length c0] w fun e w' => ∃ v1_ : Value, e = .returned (.tuple #[.int .i64 r1, v1_]) ∧ Kd.R (Kd.int .u64) 37 w' w.heap.size (fun _ => True) v1_ r2 ∧ Below w.heap.size w w' := by
 have hu39 := Try.underlying39
 have HR0 := am_ hr0
 have HC0 := am_ hc0
 clear hr0 hc0
 have HB := am_ (Below.refl w.heap.size w)
 have H := h
 clear h
 unfold spec_DrawBitsOf.f at H
 obtain ⟨y144, hy144⟩ : ∃ y_ : List Int, y_ = (([1, 2, 3, 4, 4, 5] : List Int)) := ⟨_, rfl⟩
 replace H : ((spec_l1Cur_among.f l0 0 0 y144).bind fun bt147 => ((spec_l1Cur_pick.f l0 bt147.2.1 bt147.2.2 6).bind fun bt150 => ((spec_l1Cur_state.f k l0 bt150.2.1 bt150.2.2 bt147.1 bt150.1).bind fun bt153 => (some (bt147.1, bt153.1))))) = some (r1, r2) := by first | (rw [hy144]; with_reducible exact H) | (have H2_ := (Option.bind_some _ _).symm.trans H; rw [hy144]; with_reducible exact H2_) | (have H2_ := (Option.bind_some _ _).symm.trans H; with_reducible exact H2_) | with_reducible exact H | (rw [hy144]; exact H) | exact H
 have Ny144 := am_ hy144
 clear hy144
 obtain ⟨⟨t147, t148, t149⟩, A20, H⟩ := Sh.bd H
 have A2 := am_ A20
 clear A20
 obtain ⟨⟨t150, t151, t152⟩, A30, H⟩ := Sh.bd H
 have A3 := am_ A30
 clear A30
 obtain ⟨⟨t153, t156, t157⟩, A40, H⟩ := Sh.bd H
 have A4 := am_ A40
 clear A40
 simp only [Option.some.injEq, Prod.mk.injEq] at H
 obtain ⟨rfl, rfl⟩ := H
 go_enter Try.func5, Try.ntmps5
 go_wp2_with (first | ((with_reducible refine Sh.d 8 ?_); refine Sh.bz w (N := 8) (cs := #[.slice A0 l0.length c0, .int .i64 0, .int .u64 0]) (t := 39) (h := ?_); clear HB; intro gb143 w5 BK143 GE143 HB) | ((with_reducible refine Sh.d 10 ?_); refine Kd.R_lit (Kd.int .i64) _ 3 ?hg (N := 10) ?hd (xs := ([1, 2, 3, 4, 4, 5] : List Int)) (inner := [.int .i64 1, .int .i64 2, .int .i64 3, .int .i64 4, .int .i64 4, .int .i64 5]) (ok := fun _ => True) (okp := fun _ => True) ?hr ?hp (fun _ hk => hk) trivial (Below.refl _ _) (Nat.le_refl _) (by simp) ?_; (case hd => rfl); (case hg => rfl); (case hr => first | (go_simp; done) | (go_simp; rfl)); (case hp => exact (Reps.one (show Kd.M (Kd.int .i64) _ _ _ 1 [.int .i64 1] from rfl) (Reps.one (show Kd.M (Kd.int .i64) _ _ _ 2 [.int .i64 2] from rfl) (Reps.one (show Kd.M (Kd.int .i64) _ _ _ 3 [.int .i64 3] from rfl) (Reps.one (show Kd.M (Kd.int .i64) _ _ _ 4 [.int .i64 4] from rfl) (Reps.one (show Kd.M (Kd.int .i64) _ _ _ 4 [.int .i64 4] from rfl) (Reps.one (show Kd.M (Kd.int .i64) _ _ _ 5 [.int .i64 5] from rfl) (Reps.none _ _)))))))); intro v145 w6 ho7 hb hg_ hnew_; clear hg_ hnew_; (first | rw [← Ny144.out] at ho7 | (simp only [Int.reduceToNat] at ho7; rw [← Ny144.out] at ho7)); have HO146 := am_ (Kd.R_lower ho7 (below_size Sh.bw)); replace BK143 := Sh.ab BK143 hb; replace HB := Sh.hb hb; clear hb ho7; have HI143 := am_ (show IsS39 w w6 gb143 l0 0 0 from ⟨_, _, BK143.out, GE143.out, HR0.out⟩); obtain ⟨Ao8, co8, eo8⟩ := Kd.R_slice HO146.out; subst eo8) | ((with_reducible refine Sh.k 13 ?_); refine Sh.gL (some 11) Try.func13 #[.pointer (some ⟨gb143, 0, none⟩), .slice Ao8 y144.length co8] (h := ?_); (with_reducible refine (spec_l1Cur_among.calls gb143 l0 0 0 _ _ y144 t147 t148 t149 w _ ?side1 ?side2 ?side3 ?side4 ?side5 A2.out).mono ?_); (case side1 => repeat (first | (with_reducible first | exact HI143.out | apply IsS39.alloc | apply IsS39.drewN | apply IsS39.drew | apply IsS39.set_1 | apply IsS39.set_2) | exact HI143.out)); (case side2 => repeat (first | (with_reducible first | exact HB.out | apply below_alloc | apply pw_below_drewN | apply below_drew1 | refine below_set ?_ (IsS39.ge HI143.out)) | exact HB.out)); (case side3 => repeat (first | exact (Kd.R_reads' HO146.out).2.2 | (with_reducible first | refine Kd.C_alloc ?_ _ | refine Kd.C_drewN ?_ _ | refine Kd.C_drew ?_))); (case side4 => exact (Kd.R_reads' HO146.out).2.1); (case side5 => exact far_slice (IsS39.own_ne HI143.out HO146.out (by decide))); rintro e w9 ⟨rfl, hi, hb, hk⟩; refine ⟨_, rfl, ?_⟩; replace HO146 := am_ (Kd.R_mono (Kd.R_keep (IsS39.apart (show IsS39 w _ gb143 l0 0 0 from by repeat (first | (with_reducible first | exact HI143.out | apply IsS39.alloc | apply IsS39.drewN | apply IsS39.drew | apply IsS39.set_1 | apply IsS39.set_2) | exact HI143.out)) (Sh.rl HO146.out) (by decide)) hk (fun _ h => h.2)) (fun _ h => h.1)); replace HB := am_ hb; replace HI143 := am_ hi; (try clear hb); (try clear hb2); (try clear hk); (try clear hi)) | ((with_reducible refine Sh.k 15 ?_); refine Sh.gL (some 16) Try.func15 #[.pointer (some ⟨gb143, 0, none⟩), .int .i64 6] (h := ?_); (with_reducible refine (spec_l1Cur_pick.calls gb143 l0 t148 t149 6 t150 t151 t152 w _ ?side1 ?side2 A3.out).mono ?_); (case side1 => repeat (first | (with_reducible first | exact HI143.out | apply IsS39.alloc | apply IsS39.drewN | apply IsS39.drew | apply IsS39.set_1 | apply IsS39.set_2) | exact HI143.out)); (case side2 => repeat (first | (with_reducible first | exact HB.out | apply below_alloc | apply pw_below_drewN | apply below_drew1 | refine below_set ?_ (IsS39.ge HI143.out)) | exact HB.out)); rintro e w10 ⟨rfl, hi, hb, hk⟩; refine ⟨_, rfl, ?_⟩; replace HO146 := am_ (Kd.R_mono (Kd.R_keep (IsS39.apart (show IsS39 w _ gb143 l0 t148 t149 from by repeat (first | (with_reducible first | exact HI143.out | apply IsS39.alloc | apply IsS39.drewN | apply IsS39.drew | apply IsS39.set_1 | apply IsS39.set_2) | exact HI143.out)) (Sh.rl HO146.out) (by decide)) hk (fun _ h => h.2)) (fun _ h => h.1)); replace HB := am_ hb; replace HI143 := am_ hi; (try clear hb); (try clear hb2); (try clear hk); (try clear hi)) | ((with_reducible refine Sh.k 14 ?_); refine Sh.gL (some 17) Try.func14 #[.pointer (some ⟨gb143, 0, none⟩), .int .i64 t147, .int .i64 t150] (h := ?_); (with_reducible refine (spec_l1Cur_state.calls k gb143 l0 t151 t152 t147 t150 t153 t156 t157 w _ ?side1 ?side2 A4.out).mono ?_); (case side1 => repeat (first | (with_reducible first | exact HI143.out | apply IsS39.alloc | apply IsS39.drewN | apply IsS39.drew | apply IsS39.set_1 | apply IsS39.set_2) | exact HI143.out)); (case side2 => repeat (first | (with_reducible first | exact HB.out | apply below_alloc | apply pw_below_drewN | apply below_drew1 | refine below_set ?_ (IsS39.ge HI143.out)) | exact HB.out)); rintro e w11 ⟨v154, rfl, ho0, hi, hb, hk⟩; refine ⟨_, rfl, ?_⟩; replace HO146 := am_ (Kd.R_mono (Kd.R_keep (IsS39.apart (show IsS39 w _ gb143 l0 t151 t152 from by repeat (first | (with_reducible first | exact HI143.out | apply IsS39.alloc | apply IsS39.drewN | apply IsS39.drew | apply IsS39.set_1 | apply IsS39.set_2) | exact HI143.out)) (Sh.rl HO146.out) (by decide)) hk (fun _ h => h.2)) (fun _ h => h.1)); have HO155 := am_ (Kd.R_lower ho0 (below_size (by repeat (first | (with_reducible first | exact HB.out | apply below_alloc | apply pw_below_drewN | apply below_drew1 | refine below_set ?_ (IsS39.ge HI143.out)) | exact HB.out)))); replace HB := am_ hb; replace HI143 := am_ hi; (try clear hb); (try clear hb2); (try clear hk); (try clear hi); (try clear ho0)))
 go_ret2
 exact ⟨_, Sh.eR, Sh.rl HO155.out, by repeat (first | (with_reducible first | exact HB.out | apply below_alloc | apply pw_below_drewN | apply below_drew1 | refine below_set ?_ (IsS39.ge HI143.out)) | exact HB.out)⟩

end Go.Proofs.Ytfjbdmeokbfhaaa.P
namespace Go.Proofs.Ytfjbdmeokbfhaaa.P
open Go.RowKit Go.Proofs.YtfjbdmeokbfhaaaW.PrintWords Go.Proofs.YtfjbdmeokbfhaaaW.PrintLast Go.Proofs.YtfjbdmeokbfhaaaW.PrintMore Go.Proofs.Ytfjbdmeokbfhaaa.Hof
attribute [local go_sem] max2_int min2_int max_two min_two max_three min_three max_four min_four   -- for this text's walks alone
set_option linter.unusedVariables false
set_option linter.unusedSimpArgs false

/-! ### impl_isLaid: function 16 -/
def impl_isLaid.f (a0 : Int) : Option (Bool) := if a0 ≥ 1 then (some (decide (a0 ≤ 4))) else (some false)
set_option maxHeartbeats 8000000 in
set_option maxRecDepth 100000 in
theorem impl_isLaid.calls (a0 : Int) (r : Bool) (w : World) (h : impl_isLaid.f a0 = some r) :
  Calls Try.prog 16 #[.int .i64 a0] w fun e w' => e = .returned (.bool r) ∧ Drawn0 w w' := by
 have H := h
 clear h
 unfold impl_isLaid.f at H
 by_cases c2 : a0 ≥ 1
 ·rw [if_pos c2] at H
  have c2b0 : decide (1 ≤ a0) = true := decide_eq_true c2
  clear c2
  obtain rfl := Option.some.inj H
  go_enter Try.func16, Try.ntmps16
  go_wp2
  go_ret
  exact ⟨Sh.es, Sh.dr⟩
 ·rw [if_neg c2] at H
  have c2b0 : decide (1 ≤ a0) = false := decide_eq_false c2
  clear c2
  obtain rfl := Option.some.inj H
  go_enter Try.func16, Try.ntmps16
  go_wp2
  go_ret
  exact ⟨Sh.es, Sh.dr⟩

end Go.Proofs.Ytfjbdmeokbfhaaa.P
namespace Go.Proofs.Ytfjbdmeokbfhaaa.P
open Go.RowKit Go.Proofs.YtfjbdmeokbfhaaaW.PrintWords Go.Proofs.YtfjbdmeokbfhaaaW.PrintLast Go.Proofs.YtfjbdmeokbfhaaaW.PrintMore Go.Proofs.Ytfjbdmeokbfhaaa.Hof
attribute [local go_sem] max2_int min2_int max_two min_two max_three min_three max_four min_four   -- for this text's walks alone
set_option linter.unusedVariables false
set_option linter.unusedSimpArgs false

/-! ### impl_isVars: function 22 -/
def impl_isVars.f (a0 : Int) : Option (Bool) := if a0 ≥ 1 then (some (decide (a0 ≤ 4))) else (some false)
set_option maxHeartbeats 8000000 in
set_option maxRecDepth 100000 in
theorem impl_isVars.calls (a0 : Int) (r : Bool) (w : World) (h : impl_isVars.f a0 = some r) :
  Calls Try.prog 22 #[.int .i64 a0] w fun e w' => e = .returned (.bool r) ∧ Drawn0 w w' := by
 have H := h
 clear h
 unfold impl_isVars.f at H
 by_cases c2 : a0 ≥ 1
 ·rw [if_pos c2] at H
  have c2b0 : decide (1 ≤ a0) = true := decide_eq_true c2
  clear c2
  obtain rfl := Option.some.inj H
  go_enter Try.func22, Try.ntmps22
  go_wp2
  go_ret
  exact ⟨Sh.es, Sh.dr⟩
 ·rw [if_neg c2] at H
  have c2b0 : decide (1 ≤ a0) = false := decide_eq_false c2
  clear c2
  obtain rfl := Option.some.inj H
  go_enter Try.func22, Try.ntmps22
  go_wp2
  go_ret
  exact ⟨Sh.es, Sh.dr⟩

end Go.Proofs.Ytfjbdmeokbfhaaa.P
namespace Go.Proofs.Ytfjbdmeokbfhaaa.P
open Go.RowKit Go.Proofs.YtfjbdmeokbfhaaaW.PrintWords Go.Proofs.YtfjbdmeokbfhaaaW.PrintLast Go.Proofs.YtfjbdmeokbfhaaaW.PrintMore Go.Proofs.Ytfjbdmeokbfhaaa.Hof
attribute [local go_sem] max2_int min2_int max_two min_two max_three min_three max_four min_four   -- for this text's walks alone
set_option linter.unusedVariables false
set_option linter.unusedSimpArgs false

/-! ### impl_isWide: function 29 -/
def impl_isWide.f (a0 : Int) : Option (Bool) := if a0 ≥ 1 then (some (decide (a0 ≤ 64))) else (some false)
set_option maxHeartbeats 8000000 in
set_option maxRecDepth 100000 in
theorem impl_isWide.calls (a0 : Int) (r : Bool) (w : World) (h : impl_isWide.f a0 = some r) :
  Calls Try.prog 29 #[.int .i64 a0] w fun e w' => e = .returned (.bool r) ∧ Drawn0 w w' := by
 have H := h
 clear h
 unfold impl_isWide.f at H
 by_cases c2 : a0 ≥ 1
 ·rw [if_pos c2] at H
  have c2b0 : decide (1 ≤ a0) = true := decide_eq_true c2
  clear c2
  obtain rfl := Option.some.inj H
  go_enter Try.func29, Try.ntmps29
  go_wp2
  go_ret
  exact ⟨Sh.es, Sh.dr⟩
 ·rw [if_neg c2] at H
  have c2b0 : decide (1 ≤ a0) = false := decide_eq_false c2
  clear c2
  obtain rfl := Option.some.inj H
  go_enter Try.func29, Try.ntmps29
  go_wp2
  go_ret
  exact ⟨Sh.es, Sh.dr⟩

end Go.Proofs.Ytfjbdmeokbfhaaa.P
namespace Go.Proofs.Ytfjbdmeokbfhaaa.P
open Go.RowKit Go.Proofs.YtfjbdmeokbfhaaaW.PrintWords Go.Proofs.YtfjbdmeokbfhaaaW.PrintLast Go.Proofs.YtfjbdmeokbfhaaaW.PrintMore Go.Proofs.Ytfjbdmeokbfhaaa.Hof
attribute [local go_sem] max2_int min2_int max_two min_two max_three min_three max_four min_four   -- for this text's walks alone
set_option linter.unusedVariables false
set_option linter.unusedSimpArgs false

/-! ### slices_IndexFunc_uint64_uint64: function 39, whatever the predicate -/
set_option maxHeartbeats 2000000 in
theorem slices_IndexFunc_uint64_uint64.gen (g : Nat) (lb : Array Value) (eg : ∀ args w, (callFunc g args).run Try.prog w = .ok (.enter g args) w) (q : Int → Option Bool) (A0 : Option Addr) (c0 : Nat) (l0 : List (Int)) (r : Int) (w : World) (hr0 : Kd.C (Kd.int .u64) w A0 l0.length l0) (hc0 : l0.length ≤ c0)
  (hp : ∀ (W : World) (x : Int) (b : Bool), Below w.heap.size w W → x ∈ l0 → q x = some b → Calls Try.prog g (#[.int .u64 x] ++ lb) W fun e w' => e = .returned (.bool b) ∧ Below W.heap.size W w')
  (h : idxO q l0 0 = some r) : Calls Try.prog 39 #[.slice A0 l0.length c0, .func (.func g) #[] lb] w fun e w' => e = .returned (.int .i64 r) ∧ Below w.heap.size w w' := by
 have HR := am_ hr0
 have HP := am_ hp
 have HH := am_ h
 have hn : l0.length ≤ 9223372036854775807 := hr0.2.1
 clear hr0 hp h
 go_enter Try.func39, Try.ntmps39
 go_wp2
 go_loopg [5, 8] l0.length (fun gg _ s8 wr => ∃ kk : Nat, kk ≤ l0.length ∧ l0.length - kk ≤ gg ∧ s8 = .int .i64 kk ∧ Aside0 (idxO q (l0.drop kk) kk = some r) ∧ Aside0 (Below w.heap.size w wr))
 case atStart => exact ⟨0, Nat.zero_le _, by omega, rfl, HH, ⟨Below.refl _ _⟩⟩
 case round =>
  obtain ⟨kk, hkk, hg, rfl, HA, HB⟩ := hrel
  clear HH
  by_cases hlt : kk < l0.length
  ·have hltz : (kk : Int) < (l0.length : Int) := by omega
   have h0z : 0 ≤ (kk : Int) := by omega
   obtain ⟨ad, e, hx⟩ := Kd.at_int HR.out (kk : Int) h0z hltz
   have er : rd l0 (kk : Int) = l0.getD kk 0 := by simp [rd]
   rw [er] at hx
   have hA := HA.out
   rw [drop_getD hlt 0] at hA
   obtain ⟨b, hb, hA2⟩ := Option.bind_eq_some_iff.mp hA
   have HA2 := am_ hA2
   have hin := getD_in hlt (0 : Int)
   have hcall := HP.out wr _ b HB.out hin hb
   generalize l0.getD kk 0 = y at hx hcall
   clear HA hA hA2 hb er hin
   skip
   cases e
   simp only [Int.toNat_natCast] at hx
   replace hx := (HB.out.cell (World.block_lt_of_cell? w _ hx)).trans hx
   cases b with
   | true =>
    go_wp2_with (go_at_fn g; refine hcall.mono ?_; rintro e w' ⟨rfl, hb2⟩)
    go_ret
    have h3 := HA2.out
    simp only [if_true] at h3
    exact ⟨by rw [← Option.some.inj h3]; rfl, below_step HB.out hb2⟩
   | false =>
    go_wp2_with (go_at_fn g; refine hcall.mono ?_; rintro e w' ⟨rfl, hb2⟩)
    go_roundg (l0.length - (kk + 1))
    case measure => omega
    case rel =>
     refine ⟨kk + 1, by omega, by omega, by go_num, ⟨by have h3 := HA2.out; simpa using h3⟩, ⟨below_step HB.out hb2⟩⟩
  ·have hltz : ¬ (kk : Int) < (l0.length : Int) := by omega
   have hA := HA.out
   rw [List.drop_of_length_le (by omega)] at hA
   have h4 : (-1 : Int) = r := Option.some.inj hA
   subst h4
   clear HA hA
   have : kk = l0.length := by omega
   subst this
   go_wp2
   go_ret
   exact ⟨rfl, HB.out⟩

end Go.Proofs.Ytfjbdmeokbfhaaa.P
namespace Go.Proofs.Ytfjbdmeokbfhaaa.P
open Go.RowKit Go.Proofs.YtfjbdmeokbfhaaaW.PrintWords Go.Proofs.YtfjbdmeokbfhaaaW.PrintLast Go.Proofs.YtfjbdmeokbfhaaaW.PrintMore Go.Proofs.Ytfjbdmeokbfhaaa.Hof
attribute [local go_sem] max2_int min2_int max_two min_two max_three min_three max_four min_four   -- for this text's walks alone
set_option linter.unusedVariables false
set_option linter.unusedSimpArgs false

/-! ### slices_ContainsFunc_uint64_uint64: function 30, whatever the predicate -/
set_option maxHeartbeats 2000000 in
theorem slices_ContainsFunc_uint64_uint64.gen (g : Nat) (lb : Array Value) (eg : ∀ args w, (callFunc g args).run Try.prog w = .ok (.enter g args) w) (q : Int → Option Bool) (A0 : Option Addr) (c0 : Nat) (l0 : List (Int)) (r : Bool) (w : World) (hr0 : Kd.C (Kd.int .u64) w A0 l0.length l0) (hc0 : l0.length ≤ c0)
  (hp : ∀ (W : World) (x : Int) (b : Bool), Below w.heap.size w W → x ∈ l0 → q x = some b → Calls Try.prog g (#[.int .u64 x] ++ lb) W fun e w' => e = .returned (.bool b) ∧ Below W.heap.size W w')
  (h : anyO q l0 = some r) : Calls Try.prog 30 #[.slice A0 l0.length c0, .func (.func g) #[] lb] w fun e w' => e = .returned (.bool r) ∧ Below w.heap.size w w' := by
 obtain ⟨i, hi, hd⟩ := idxO_of_anyO l0 r 0 (Int.le_refl 0) h
 have HC := am_ (slices_IndexFunc_uint64_uint64.gen g lb eg q A0 c0 l0 i w hr0 hc0 hp hi)
 have HD := am_ hd
 clear hr0 hp h hi hd
 go_enter Try.func30, Try.ntmps30
 go_wp2_with (go_at_call 39; refine HC.out.mono ?_; rintro e w' ⟨rfl, hb2⟩)
 go_ret
 exact ⟨by rw [← HD.out]; rfl, hb2⟩

end Go.Proofs.Ytfjbdmeokbfhaaa.P
namespace Go.Proofs.Ytfjbdmeokbfhaaa.P
open Go.RowKit Go.Proofs.YtfjbdmeokbfhaaaW.PrintWords Go.Proofs.YtfjbdmeokbfhaaaW.PrintLast Go.Proofs.YtfjbdmeokbfhaaaW.PrintMore Go.Proofs.Ytfjbdmeokbfhaaa.Hof
attribute [local go_sem] max2_int min2_int max_two min_two max_three min_three max_four min_four   -- for this text's walks alone
set_option linter.unusedVariables false
set_option linter.unusedSimpArgs false

/-! ### impl_mask: function 40 -/
def impl_mask.f (a0 : Int) : Option (Int) := if 0 ≤ (wrap64 (64 - a0)) then (some (shr .u64 18446744073709551615 (wrap64 (64 - a0)))) else (none)
set_option maxHeartbeats 8000000 in
set_option maxRecDepth 100000 in
theorem impl_mask.calls (a0 : Int) (r : Int) (w : World) (h : impl_mask.f a0 = some r) :
  Calls Try.prog 40 #[.int .i64 a0] w fun e w' => e = .returned (.int .u64 r) ∧ Drawn0 w w' := by
 have H := h
 clear h
 unfold impl_mask.f at H
 obtain ⟨ji2, hj1⟩ : ∃ j_ : Int, (wrap64 (64 - a0)) = j_ := ⟨_, rfl⟩
 replace H : (if 0 ≤ (ji2) then (some (shr .u64 18446744073709551615 (ji2))) else (none)) = some r := by first | (rw [hj1] at H; exact H) | (simp only [hj1] at H ⊢; exact H)
 have hji2w : (IntKind.i64.wrap (64 - a0)) = ji2 := (i64_w _).trans hj1
 by_cases c3 : 0 ≤ (ji2)
 ·rw [if_pos c3] at H
  have c3b0 := eq_true c3
  have c3b1 := decide_eq_true c3
  clear c3
  obtain ⟨ji4, hj2⟩ : ∃ j_ : Int, (shr .u64 18446744073709551615 (ji2)) = j_ := ⟨_, rfl⟩
  replace H : (some ji4) = some r := by first | (rw [hj2] at H; exact H) | (simp only [hj2] at H ⊢; exact H)
  have hji4_ : (18446744073709551615 / 2 ^ min (ji2).toNat 64) = ji4 := hj2
  have hji4z : (ji2) ≤ 64 → (18446744073709551615 / 2 ^ (ji2).toNat) = ji4 := shr_small hj2
  obtain rfl := Option.some.inj H
  go_enter Try.func40, Try.ntmps40
  go_wp2
  go_ret
  exact ⟨by first | rfl | (simp; done) | (simp only [← hj1, ← hj2] <;> (first | rfl | simp)) | (simp [*]; done), Sh.dr⟩
 ·rw [if_neg c3] at H
  exact absurd H (by simp)

end Go.Proofs.Ytfjbdmeokbfhaaa.P
namespace Go.Proofs.Ytfjbdmeokbfhaaa.P
open Go.RowKit Go.Proofs.YtfjbdmeokbfhaaaW.PrintWords Go.Proofs.YtfjbdmeokbfhaaaW.PrintLast Go.Proofs.YtfjbdmeokbfhaaaW.PrintMore Go.Proofs.Ytfjbdmeokbfhaaa.Hof
attribute [local go_sem] max2_int min2_int max_two min_two max_three min_three max_four min_four   -- for this text's walks alone
set_option linter.unusedVariables false
set_option linter.unusedSimpArgs false

/-! ### impl_GoodWord: function 32 -/
def impl_GoodWord.f (a0 : Int) (a1 : Int) : Option (Bool) := (impl_isWide.f a0).bind fun t158 => (if t158 = true then ((impl_mask.f a0).bind fun t159 => (some (decide (a1 ≤ t159)))) else (some false))
set_option maxHeartbeats 8000000 in
set_option maxRecDepth 100000 in
theorem impl_GoodWord.calls (a0 : Int) (a1 : Int) (r : Bool) (w : World) (h : impl_GoodWord.f a0 a1 = some r) :
  Calls Try.prog 32 #[.int .i64 a0, .int .u64 a1] w fun e w' => e = .returned (.bool r) ∧ Drawn0 w w' := by
 have H := h
 clear h
 unfold impl_GoodWord.f at H
 obtain ⟨t158, A3, H⟩ := Sh.ba H
 by_cases c4 : t158 = true
 ·subst c4
  rw [if_pos rfl] at H
  obtain ⟨t159, A5, H⟩ := Sh.ba H
  obtain rfl := Option.some.inj H
  go_enter Try.func32, Try.ntmps32
  go_wp2_with (first | ((with_reducible refine Sh.k 29 ?_); refine Sh.gD (some 6) Try.func29 #[.int .i64 a0] (impl_isWide.calls a0 true _ A3.out) fun nd => ?_) | (go_at_call 40; (with_reducible refine (impl_mask.calls a0 t159 _ A5.out).mono ?_); rintro e w' ⟨rfl, ⟨nd, rfl⟩⟩))
  go_ret
  exact ⟨Sh.es, Sh.dr⟩
 ·replace c4 := Bool.eq_false_iff.mpr c4
  subst c4
  rw [Sh.nf] at H
  obtain rfl := Option.some.inj H
  go_enter Try.func32, Try.ntmps32
  go_wp2_with (first | ((with_reducible refine Sh.k 29 ?_); refine Sh.gD (some 6) Try.func29 #[.int .i64 a0] (impl_isWide.calls a0 false _ A3.out) fun nd => ?_))
  go_ret
  exact ⟨Sh.es, Sh.dr⟩

end Go.Proofs.Ytfjbdmeokbfhaaa.P
namespace Go.Proofs.Ytfjbdmeokbfhaaa.P
open Go.RowKit Go.Proofs.YtfjbdmeokbfhaaaW.PrintWords Go.Proofs.YtfjbdmeokbfhaaaW.PrintLast Go.Proofs.YtfjbdmeokbfhaaaW.PrintMore Go.Proofs.Ytfjbdmeokbfhaaa.Hof
attribute [local go_sem] max2_int min2_int max_two min_two max_three min_three max_four min_four   -- for this text's walks alone
set_option linter.unusedVariables false
set_option linter.unusedSimpArgs false

/-! ### impl_isState_1: function 31 -/
def impl_isState_1.f (a0 : Int) (a1_0 : Int) : Option (Bool) := (impl_GoodWord.f a1_0 a0).bind fun t160 => (some (!t160))
set_option maxHeartbeats 8000000 in
set_option maxRecDepth 100000 in
theorem impl_isState_1.calls (a0 : Int) (bp1 : Nat) (a1_0 : Int) (r : Bool) (w : World) (hb1 : w.heap[bp1]? = some (.cells #[.int .i64 a1_0] 3 (0, 0))) (h : impl_isState_1.f a0 a1_0 = some r) :
  Calls Try.prog 31 #[.int .u64 a0, .pointer (some ⟨bp1, 0, none⟩)] w fun e w' => e = .returned (.bool r) ∧ Drawn0 w w' := by
 have HX1 := am_ hb1
 clear hb1
 have H := h
 clear h
 unfold impl_isState_1.f at H
 obtain ⟨t160, A3, H⟩ := Sh.ba H
 obtain rfl := Option.some.inj H
 have hcz4_0 : w.cell? ⟨bp1, 0, none⟩ = some (.int .i64 a1_0) := (blk_cell HX1.out 0).trans rfl
 have hfz4_0 := blk_frozen HX1.out 0
 go_enter Try.func31, Try.ntmps31
 go_wp2_with (first | ((with_reducible refine Sh.k 32 ?_); refine Sh.gD (some 6) Try.func32 #[.int .i64 a1_0, .int .u64 a0] (impl_GoodWord.calls a1_0 a0 t160 _ A3.out) fun nd => ?_))
 go_ret
 exact ⟨Sh.es, Sh.dr⟩

end Go.Proofs.Ytfjbdmeokbfhaaa.P
namespace Go.Proofs.Ytfjbdmeokbfhaaa.P
open Go.RowKit Go.Proofs.YtfjbdmeokbfhaaaW.PrintWords Go.Proofs.YtfjbdmeokbfhaaaW.PrintLast Go.Proofs.YtfjbdmeokbfhaaaW.PrintMore Go.Proofs.Ytfjbdmeokbfhaaa.Hof
attribute [local go_sem] max2_int min2_int max_two min_two max_three min_three max_four min_four   -- for this text's walks alone
set_option linter.unusedVariables false
set_option linter.unusedSimpArgs false

/-! ### slices_ContainsFunc_uint64_uint64_by_impl_isState_1: function 30 by function 31 -/
def slices_ContainsFunc_uint64_uint64_by_impl_isState_1.f (l0 : List Int) (a1_0 : Int) : Option (Bool) := anyO (fun x_ => impl_isState_1.f x_ a1_0) l0
set_option maxHeartbeats 2000000 in
theorem slices_ContainsFunc_uint64_uint64_by_impl_isState_1.calls (A0 : Option Addr) (c0 : Nat) (l0 : List Int) (bp1 : Nat) (a1_0 : Int) (r : Bool) (w : World) (hr0 : Kd.C (Kd.int .u64) w A0 l0.length l0) (hc0 : l0.length ≤ c0) (hb1 : w.heap[bp1]? = some (.cells #[.int .i64 a1_0] 3 (0, 0))) (h : slices_ContainsFunc_uint64_uint64_by_impl_isState_1.f l0 a1_0 = some r) :
  Calls Try.prog 30 #[.slice A0 l0.length c0, .func (.func 31) #[] #[.pointer (some ⟨bp1, 0, none⟩)]] w fun e w' => e = .returned (.bool r) ∧ Below w.heap.size w w' := by
 refine slices_ContainsFunc_uint64_uint64.gen 31 #[.pointer (some ⟨bp1, 0, none⟩)] (enters_of Try.func31 (by kernel_rfl) rfl) _ A0 c0 l0 r w hr0 hc0 ?_ h
 intro W x b hB_ hin_ hq_
 refine (impl_isState_1.calls x bp1 a1_0 b W ((hB_.block _ (blk_lt hb1)).trans hb1) hq_).mono ?_
 rintro e w' ⟨rfl, hd_⟩
 exact ⟨rfl, hd_.below⟩

end Go.Proofs.Ytfjbdmeokbfhaaa.P
namespace Go.Proofs.Ytfjbdmeokbfhaaa.P
open Go.RowKit Go.Proofs.YtfjbdmeokbfhaaaW.PrintWords Go.Proofs.YtfjbdmeokbfhaaaW.PrintLast Go.Proofs.YtfjbdmeokbfhaaaW.PrintMore Go.Proofs.Ytfjbdmeokbfhaaa.Hof
attribute [local go_sem] max2_int min2_int max_two min_two max_three min_three max_four min_four   -- for this text's walks alone
set_option linter.unusedVariables false
set_option linter.unusedSimpArgs false

/-! ### impl_isState: function 17 -/
def impl_isState.f (a0 : Int) (a1 : Int) (l2 : List Int) : Option (Bool) := (impl_isWide.f a0).bind fun t162 => (if t162 = true then ((impl_isVars.f a1).bind fun t163 => (if t163 = true then (if (l2.length : Int) = a1 then ((slices_ContainsFunc_uint64_uint64_by_impl_isState_1.f l2 a0).bind fun t164 => (some (!t164))) else (some false)) else (some false))) else (some false))
set_option maxHeartbeats 8000000 in
set_option maxRecDepth 100000 in
theorem impl_isState.calls (a0 : Int) (a1 : Int) (A2 : Option Addr) (c2 : Nat) (l2 : List Int) (r : Bool) (w : World) (hr2 : Kd.C (Kd.int .u64) w A2 l2.length l2) (hc2 : l2.length ≤ c2) (h : impl_isState.f a0 a1 l2 = some r) :
  Calls Try.prog 17 #[.int .i64 a0, .int .i64 a1, .slice A2 l2.length c2] w fun e w' => e = .returned (.bool r) ∧ Below w.heap.size w w' := by
 have HR2 := am_ hr2
 have HC2 := am_ hc2
 clear hr2 hc2
 have HB := am_ (Below.refl w.heap.size w)
 have H := h
 clear h
 unfold impl_isState.f at H
 obtain ⟨t162, A4, H⟩ := Sh.ba H
 by_cases c5 : t162 = true
 ·subst c5
  rw [if_pos rfl] at H
  obtain ⟨t163, A6, H⟩ := Sh.ba H
  by_cases c7 : t163 = true
  ·subst c7
   rw [if_pos rfl] at H
   by_cases c8 : (l2.length : Int) = a1
   ·rw [if_pos c8] at H
    have c8b0 : ((l2.length : Int) == a1) = true := beq_iff_eq.mpr c8
    have c8b1 : ((l2.length : Int) != a1) = false := bne_eq_false_iff_eq.mpr c8
    clear c8
    obtain ⟨t164, A9, H⟩ := Sh.ba H
    obtain rfl := Option.some.inj H
    go_enter Try.func17, Try.ntmps17
    go_wp2_with (first | ((with_reducible refine Sh.d 3 ?_); (try (refine gate_guard (by rfl) ?_; dsimp only)); refine Sh.bz w (N := 3) (cs := #[.int .i64 a0]) (t := 3) (h := ?_); clear HB; intro gb161 w10 BK161 GE161 HB; have hcz11_0 := Sh.bc BK161.out 0; have hfz11_0 := blk_frozen BK161.out 0) | ((with_reducible refine Sh.k 29 ?_); refine Sh.gD (some 8) Try.func29 #[.int .i64 a0] (impl_isWide.calls a0 true _ A4.out) fun nd => ?_) | (go_at_call 22; (with_reducible refine (impl_isVars.calls a1 true _ A6.out).mono ?_); rintro e w' ⟨rfl, ⟨nd, rfl⟩⟩) | (go_at_call 30; (with_reducible refine (slices_ContainsFunc_uint64_uint64_by_impl_isState_1.calls _ _ l2 gb161 a0 t164 _ (Sh.cB HR2.out) HC2.out ?side3 A9.out).mono ?_); (case side3 => refine Sh.pl ?_; exact BK161.out); rintro e w12 ⟨rfl, hb⟩; replace BK161 := Sh.ab BK161 hb; replace HB := Sh.hb hb; (try clear hb); (try clear hb2); (try clear hk); (try clear hi)))
    go_ret
    exact ⟨Sh.eR, Sh.bw⟩
   ·rw [if_neg c8] at H
    have c8b0 : ((l2.length : Int) == a1) = false := beq_eq_false_iff_ne.mpr c8
    have c8b1 : ((l2.length : Int) != a1) = true := bne_iff_ne.mpr c8
    obtain rfl := Option.some.inj H
    go_enter Try.func17, Try.ntmps17
    go_wp2_with (first | ((with_reducible refine Sh.d 3 ?_); (try (refine gate_guard (by rfl) ?_; dsimp only)); refine Sh.bz w (N := 3) (cs := #[.int .i64 a0]) (t := 3) (h := ?_); clear HB; intro gb161 w13 BK161 GE161 HB; have hcz14_0 := Sh.bc BK161.out 0; have hfz14_0 := blk_frozen BK161.out 0) | ((with_reducible refine Sh.k 29 ?_); refine Sh.gD (some 8) Try.func29 #[.int .i64 a0] (impl_isWide.calls a0 true _ A4.out) fun nd => ?_) | (go_at_call 22; (with_reducible refine (impl_isVars.calls a1 true _ A6.out).mono ?_); rintro e w' ⟨rfl, ⟨nd, rfl⟩⟩))
    go_ret
    exact ⟨Sh.eR, Sh.bw⟩
  ·replace c7 := Bool.eq_false_iff.mpr c7
   subst c7
   rw [Sh.nf] at H
   obtain rfl := Option.some.inj H
   go_enter Try.func17, Try.ntmps17
   go_wp2_with (first | ((with_reducible refine Sh.d 3 ?_); (try (refine gate_guard (by rfl) ?_; dsimp only)); refine Sh.bz w (N := 3) (cs := #[.int .i64 a0]) (t := 3) (h := ?_); clear HB; intro gb161 w15 BK161 GE161 HB; have hcz16_0 := Sh.bc BK161.out 0; have hfz16_0 := blk_frozen BK161.out 0) | ((with_reducible refine Sh.k 29 ?_); refine Sh.gD (some 8) Try.func29 #[.int .i64 a0] (impl_isWide.calls a0 true _ A4.out) fun nd => ?_) | (go_at_call 22; (with_reducible refine (impl_isVars.calls a1 false _ A6.out).mono ?_); rintro e w' ⟨rfl, ⟨nd, rfl⟩⟩))
   go_ret
   exact ⟨Sh.eR, Sh.bw⟩
 ·replace c5 := Bool.eq_false_iff.mpr c5
  subst c5
  rw [Sh.nf] at H
  obtain rfl := Option.some.inj H
  go_enter Try.func17, Try.ntmps17
  go_wp2_with (first | ((with_reducible refine Sh.d 3 ?_); (try (refine gate_guard (by rfl) ?_; dsimp only)); refine Sh.bz w (N := 3) (cs := #[.int .i64 a0]) (t := 3) (h := ?_); clear HB; intro gb161 w17 BK161 GE161 HB; have hcz18_0 := Sh.bc BK161.out 0; have hfz18_0 := blk_frozen BK161.out 0) | ((with_reducible refine Sh.k 29 ?_); refine Sh.gD (some 8) Try.func29 #[.int .i64 a0] (impl_isWide.calls a0 false _ A4.out) fun nd => ?_))
  go_ret
  exact ⟨Sh.eR, Sh.bw⟩

end Go.Proofs.Ytfjbdmeokbfhaaa.P
namespace Go.Proofs.Ytfjbdmeokbfhaaa.P
open Go.RowKit Go.Proofs.YtfjbdmeokbfhaaaW.PrintWords Go.Proofs.YtfjbdmeokbfhaaaW.PrintLast Go.Proofs.YtfjbdmeokbfhaaaW.PrintMore Go.Proofs.Ytfjbdmeokbfhaaa.Hof
attribute [local go_sem] max2_int min2_int max_two min_two max_three min_three max_four min_four   -- for this text's walks alone
set_option linter.unusedVariables false
set_option linter.unusedSimpArgs false

/-! ### impl_BitsOf: function 6 -/
mutual
def impl_BitsOf.j0 : Nat → Int → List Int → Bool → Option (List Bool × Bool)
 | 0, _, _, _ => none
 | k + 1, x0, x1, x20 => if x20 = true then (some (([] : List Bool), false)) else (impl_BitsOf.l0 k x0 (([] : List Bool)) x1 (x1.length : Int) 0)
def impl_BitsOf.l0 : Nat → Int → List Bool → List Int → Int → Int → Option (List Bool × Bool)
 | 0, _, _, _, _, _ => none
 | k + 1, x0, x6, x22, x23, x24 => if x24 < x23 then (if 0 ≤ x24 then (if x24 < (x22.length : Int) then (impl_BitsOf.l1 k x0 x6 (rd x22 x24) x22 x23 x24 x0 0) else (none)) else (none)) else (some (x6, true))
def impl_BitsOf.l1 : Nat → Int → List Bool → Int → List Int → Int → Int → Int → Int → Option (List Bool × Bool)
 | 0, _, _, _, _, _, _, _, _ => none
 | k + 1, x0, x6, x8, x22, x23, x24, x28, x29 => if x29 < x28 then (if 0 ≤ x29 then (if x6.length < 140737488355328 then (impl_BitsOf.l1 k x0 (x6 ++ [((Go.bits .and .u64 (shr .u64 x8 x29) 1) == 1)]) x8 x22 x23 x24 x28 (wrap64 (x29 + 1))) else (none)) else (none)) else (impl_BitsOf.l0 k x0 x6 x22 x23 (wrap64 (x24 + 1)))
end
def impl_BitsOf.f (k : Nat) (a0 : Int) (l1 : List Int) : Option (List Bool × Bool) := (impl_isLaid.f a0).bind fun t165 => (if t165 = true then ((impl_isState.f a0 (l1.length : Int) l1).bind fun t166 => (impl_BitsOf.j0 k a0 l1 (!t166))) else (impl_BitsOf.j0 k a0 l1 true))
theorem impl_BitsOf.mono_l : ∀ k, (∀ y0 y1 y2, LeO (impl_BitsOf.j0 k y0 y1 y2) (impl_BitsOf.j0 (k + 1) y0 y1 y2)) ∧ (∀ y0 y1 y2 y3 y4, LeO (impl_BitsOf.l0 k y0 y1 y2 y3 y4) (impl_BitsOf.l0 (k + 1) y0 y1 y2 y3 y4)) ∧ (∀ y0 y1 y2 y3 y4 y5 y6 y7, LeO (impl_BitsOf.l1 k y0 y1 y2 y3 y4 y5 y6 y7) (impl_BitsOf.l1 (k + 1) y0 y1 y2 y3 y4 y5 y6 y7))
 | 0 => ⟨fun _ _ _ r h => by simp [impl_BitsOf.j0] at h, fun _ _ _ _ _ r h => by simp [impl_BitsOf.l0] at h, fun _ _ _ _ _ _ _ _ r h => by simp [impl_BitsOf.l1] at h⟩
 | k + 1 => by
  obtain ⟨ih0, ih1, ih2⟩ := impl_BitsOf.mono_l k
  and_intros <;> intros
  all_goals (first | unfold impl_BitsOf.j0 | unfold impl_BitsOf.l0 | unfold impl_BitsOf.l1)
  all_goals repeat' with_reducible first | apply ih0 | apply ih1 | apply ih2 | exact LeO.refl _ | exact LeO.none _ | apply LeO.ite | refine LeO.bind ?_ fun _ => ?_
theorem impl_BitsOf.mono : ∀ a0 a1 k, LeO (impl_BitsOf.f k a0 a1) (impl_BitsOf.f (k + 1) a0 a1) := by
 intro a0 a1 k
 obtain ⟨ih0, ih1, ih2⟩ := impl_BitsOf.mono_l k
 unfold impl_BitsOf.f
 repeat' with_reducible first | apply ih0 | apply ih1 | apply ih2 | exact LeO.refl _ | exact LeO.none _ | apply LeO.ite | refine LeO.bind ?_ fun _ => ?_
set_option maxHeartbeats 8000000 in
set_option maxRecDepth 100000 in
theorem impl_BitsOf.calls (k : Nat) (a0 : Int) (A1 : Option Addr) (c1 : Nat) (l1 : List Int) (r1 : List Bool) (r2 : Bool) (w : World) (hr1 : Kd.C (Kd.int .u64) w A1 l1.length l1) (hc1 : l1.length ≤ c1) (h : impl_BitsOf.f k a0 l1 = some (r1, r2)) :
  Calls Try.prog 6 #[.int .i64 a0, .slice A1 l1.length c1] w fun e w' => ∃ v0_ : Value, e = .returned (.tuple #[v0_, .bool r2]) ∧ Kd.R Kd.bool 4 w' w.heap.size (fun _ => True) v0_ r1 ∧ Below w.heap.size w w' := by
 have HR1 := am_ hr1
 have HC1 := am_ hc1
 clear hr1 hc1
 have HB := am_ (Below.refl w.heap.size w)
 have H := h
 clear h
 unfold impl_BitsOf.f at H
 have HC3 := am_ H
 clear H
 go_enter Try.func6, Try.ntmps6
 go_upto_region 1 with (fail)
 go_cut [20] (fun v20 wc => ∃ (kq : Nat) (x20_2 : Bool), v20 = .bool x20_2 ∧ Aside0 (impl_BitsOf.j0 kq a0 l1 x20_2 = some (r1, r2)) ∧ Aside0 (kq ≤ k) ∧ Aside0 (Below w.heap.size w wc))
 case first =>
  have H := HC3.out
  clear HC3
  obtain ⟨t165, A4, H⟩ := Sh.ba H
  by_cases c5 : t165 = true
  ·subst c5
   rw [if_pos rfl] at H
   obtain ⟨t166, A6, H⟩ := Sh.ba H
   have H' := am_ H
   clear H
   go_wp2_with (first | ((with_reducible refine Sh.k 16 ?_); refine Sh.gD (some 11) Try.func16 #[.int .i64 a0] (impl_isLaid.calls a0 true _ A4.out) fun nd => ?_) | (go_at_call 17; (with_reducible refine (impl_isState.calls a0 (l1.length : Int) _ _ l1 t166 _ (Sh.cB HR1.out) HC1.out A6.out).mono ?_); rintro e w7 ⟨rfl, hb⟩; replace HB := Sh.hb hb; (try clear hb); (try clear hb2); (try clear hk); (try clear hi)))
   go_meet
   case rel => exact ⟨_, (!t166), (Sh.es), H', ⟨Sh.om⟩, ⟨Sh.bw⟩⟩
  ·replace c5 := Bool.eq_false_iff.mpr c5
   subst c5
   rw [Sh.nf] at H
   have H' := am_ H
   clear H
   go_wp2_with (first | ((with_reducible refine Sh.k 16 ?_); refine Sh.gD (some 11) Try.func16 #[.int .i64 a0] (impl_isLaid.calls a0 false _ A4.out) fun nd => ?_))
   go_meet
   case rel => exact ⟨_, (true), (Sh.es), H', ⟨Sh.om⟩, ⟨Sh.bw⟩⟩
 case rest =>
  clear HC3
  obtain ⟨kq, x20_2, rfl, HA, HJ2, HB⟩ := hcut
  cases kq with
  | zero => exact absurd HA.out (by simp [impl_BitsOf.j0])
  | succ kj2 =>
   have H := HA.out
   clear HA
   simp only [impl_BitsOf.j0] at H
   by_cases c8 : x20_2 = true
   ·subst c8
    rw [if_pos rfl] at H
    simp only [Option.some.injEq, Prod.mk.injEq] at H
    obtain ⟨rfl, rfl⟩ := H
    go_wp2
    go_ret2
    exact ⟨_, Sh.eR, by first | exact Kd.R_nil _ _ _ _ _ | exact Kd.N_nil _ _ _ _ _ | exact Kd.V_nil _ _ _ _ _ | exact Kd.Q_nil _ _ _ _ _ | exact Kd.S_nil _ _ _ _ _, Sh.bw⟩
   ·replace c8 := Bool.eq_false_iff.mpr c8
    subst c8
    rw [Sh.nf] at H
    obtain ⟨y167, hy167⟩ : ∃ y_ : List Bool, y_ = (([] : List Bool)) := ⟨_, rfl⟩
    replace H : (impl_BitsOf.l0 kj2 a0 y167 l1 (l1.length : Int) 0) = some (r1, r2) := by first | (rw [hy167]; with_reducible exact H) | (have H2_ := (Option.bind_some _ _).symm.trans H; rw [hy167]; with_reducible exact H2_) | (have H2_ := (Option.bind_some _ _).symm.trans H; with_reducible exact H2_) | with_reducible exact H | (rw [hy167]; exact H) | exact H
    have Ny167 := am_ hy167
    clear hy167
    have H' := am_ H
    clear H
    go_wp2_with (first | ((with_reducible refine Sh.d 21 ?_); (try (refine gate_guard (by rfl) ?_; dsimp only)); refine Kd.R_lit Kd.bool _ 4 ?hg (N := 21) ?hd (xs := ([] : List Bool)) (inner := []) (ok := fun _ => True) (okp := fun _ => True) ?hr ?hp (fun _ hk => hk) trivial (Below.refl _ _) (Nat.le_refl _) (by simp) ?_; (case hd => rfl); (case hg => rfl); (case hr => first | (go_simp; done) | (go_simp; rfl)); (case hp => exact (Reps.none _ _)); intro v168 w9 ho10 hb hg_ hnew_; clear hg_ hnew_; (first | rw [← Ny167.out] at ho10 | (simp only [Int.reduceToNat] at ho10; rw [← Ny167.out] at ho10)); have HO169 := am_ (Kd.R_lower ho10 (below_size Sh.bw)); replace HB := Sh.hb hb; clear hb ho10))
    go_loopg [6, 24] kj2 (fun kq v6 v24 w' => ∃ (x6_2 : List Bool) (x24_2 : Int), v24 = .int .i64 x24_2 ∧ Aside0 (impl_BitsOf.l0 kq a0 x6_2 l1 (l1.length : Int) x24_2 = some (r1, r2)) ∧ Aside0 (kq ≤ kj2) ∧ Aside0 (Kd.R Kd.bool 4 w' w.heap.size (fun _ => True) v6 x6_2) ∧ Aside0 (Below w.heap.size w w'))
    case atStart => exact ⟨(y167), (0), (Sh.es), H', ⟨Nat.le_refl _⟩, ⟨Sh.rl HO169.out⟩, ⟨Sh.bw⟩⟩
    case round =>
     clear H'
     obtain ⟨x6_2, x24_2, rfl, HA, HK2, HO_6, HB⟩ := hrel
     cases gk with
     | zero => exact absurd HA.out (by simp [impl_BitsOf.l0])
     | succ k2 =>
      have H := HA.out
      clear HA
      simp only [impl_BitsOf.l0] at H
      by_cases c11 : x24_2 < (l1.length : Int)
      ·rw [if_pos c11] at H
       have c11b0 := decide_eq_true c11
       clear c11
       by_cases c12 : 0 ≤ x24_2
       ·rw [if_pos c12] at H
        have c12b0 := decide_eq_true c12
        clear c12
        by_cases c13 : x24_2 < (l1.length : Int)
        ·rw [if_pos c13] at H
         have c13b0 := decide_eq_true c13
         clear c13
         have H' := am_ H
         clear H
         have p170 : 0 ≤ (x24_2 : Int) := Sh.od
         have q170 : x24_2 < (l1.length : Int) := Sh.od
         obtain ⟨ad170, e170, hx170_0⟩ := Kd.at_int HR1.out x24_2 p170 q170
         cases e170
         try replace hx170_0 := Sh.cw hx170_0
         replace p170 := eq_true p170
         replace q170 := eq_true q170
         go_wp2
         go_loopg [6, 29] k2 (fun kq v6 v29 w' => ∃ (x6_3 : List Bool) (x29_3 : Int), v29 = .int .i64 x29_3 ∧ Aside0 (impl_BitsOf.l1 kq a0 x6_3 (rd l1 x24_2) l1 (l1.length : Int) x24_2 a0 x29_3 = some (r1, r2)) ∧ Aside0 (kq ≤ k2) ∧ Aside0 (Kd.R Kd.bool 4 w' w.heap.size (fun _ => True) v6 x6_3) ∧ Aside0 (Below w.heap.size w w'))
         case atStart => exact ⟨(x6_2), (0), (Sh.es), H', ⟨Nat.le_refl _⟩, ⟨Sh.rl HO_6.out⟩, ⟨Sh.bw⟩⟩
         case round =>
          clear H'
          try clear hx1
          try clear hx170_0
          obtain ⟨x6_3, x29_3, rfl, HA, HK3, HO_6, HB⟩ := hrel
          cases gk with
          | zero => exact absurd HA.out (by simp [impl_BitsOf.l1])
          | succ k3 =>
           have H := HA.out
           clear HA
           simp only [impl_BitsOf.l1] at H
           by_cases c14 : x29_3 < a0
           ·rw [if_pos c14] at H
            have c14b0 := decide_eq_true c14
            clear c14
            by_cases c15 : 0 ≤ x29_3
            ·rw [if_pos c15] at H
             have c15b0 := eq_true c15
             have c15b1 := decide_eq_true c15
             clear c15
             obtain ⟨ji16, hj1⟩ : ∃ j_ : Int, (shr .u64 (rd l1 x24_2) x29_3) = j_ := ⟨_, rfl⟩
             replace H : (if x6_3.length < 140737488355328 then (impl_BitsOf.l1 k3 a0 (x6_3 ++ [((Go.bits .and .u64 (ji16) 1) == 1)]) (rd l1 x24_2) l1 (l1.length : Int) x24_2 a0 (wrap64 (x29_3 + 1))) else (none)) = some (r1, r2) := by first | (rw [hj1] at H; exact H) | (simp only [hj1] at H ⊢; exact H)
             have hji16_ : ((rd l1 x24_2) / 2 ^ min x29_3.toNat 64) = ji16 := hj1
             have hji16z : x29_3 ≤ 64 → ((rd l1 x24_2) / 2 ^ x29_3.toNat) = ji16 := shr_small hj1
             by_cases c17 : x6_3.length < 140737488355328
             ·rw [if_pos c17] at H
              have LMc17 := am_ c17
              clear c17
              obtain ⟨y171, hy171⟩ : ∃ y_ : List Bool, y_ = (x6_3 ++ [((Go.bits .and .u64 (ji16) 1) == 1)]) := ⟨_, rfl⟩
              replace H : (impl_BitsOf.l1 k3 a0 y171 (rd l1 x24_2) l1 (l1.length : Int) x24_2 a0 (wrap64 (x29_3 + 1))) = some (r1, r2) := by first | (rw [hy171]; with_reducible exact H) | (have H2_ := (Option.bind_some _ _).symm.trans H; rw [hy171]; with_reducible exact H2_) | (have H2_ := (Option.bind_some _ _).symm.trans H; with_reducible exact H2_) | with_reducible exact H | (rw [hy171]; exact H) | exact H
              have Ny171 := am_ hy171
              clear hy171
              have H' := am_ H
              clear H
              go_wp2_with (first | ((with_reducible refine gate_builtin (b := .append) (xs := #[.tmp 32, .tmp 38]) rfl ?_); (try (refine gate_guard (by rfl) ?_; dsimp only)); at_builtin; refine Kd.R_append Kd.bool (w0 := w) w.heap.size rfl (.tmp 32) (.tmp 38) 27 4 (.bool false) 1 rfl Try.underlying27 info4 rfl (by decide) (by omega) u6 x6_3 ((Go.bits .and .u64 (ji16) 1) == 1) [.bool ((Go.bits .and .u64 (ji16) 1) == 1)] (fun _ => True) (fun _ => False) rfl rfl ?aP (fun _ hk => hk.elim) ?aF ?aO ?aB ?aS ?aL ?_; (case aP => exact rfl); (case aB => exact Sh.bw); (case aF => exact (fun _ _ => trivial)); (case aO => exact (Sh.rl HO_6.out)); (case aS => exact (below_size Sh.bw)); (case aL => have := LMc17.out; omega); intro v172 w18 ho hb hg hat; rw [← Ny171.out] at ho; have n0_ := am_ hb; have n1_ := am_ ho; clear HB; clear HO_6; have HB := n0_; have HO173 := n1_; clear n0_ n1_; clear ho hb hg hat))
              go_roundg k3
              case measure => have := HJ2.out; have := HK2.out; have := HK3.out; omega
              case rel => exact ⟨(y171), (wrap64 (x29_3 + 1)), (Sh.es), H', ⟨by have := HJ2.out; have := HK2.out; have := HK3.out; omega⟩, ⟨Sh.rl HO173.out⟩, ⟨Sh.bw⟩⟩
             ·rw [if_neg c17] at H
              exact absurd H (by simp)
            ·rw [if_neg c15] at H
             exact absurd H (by simp)
           ·rw [if_neg c14] at H
            have c14b0 := decide_eq_false c14
            clear c14
            have H' := am_ H
            clear H
            go_wp2
            go_roundg k3
            case measure => have := HJ2.out; have := HK2.out; have := HK3.out; omega
            case rel => exact ⟨(x6_3), (wrap64 (x24_2 + 1)), (Sh.es), H', ⟨by have := HJ2.out; have := HK2.out; have := HK3.out; omega⟩, ⟨Sh.rl HO_6.out⟩, ⟨Sh.bw⟩⟩
        ·rw [if_neg c13] at H
         exact absurd H (by simp)
       ·rw [if_neg c12] at H
        exact absurd H (by simp)
      ·rw [if_neg c11] at H
       have c11b0 := decide_eq_false c11
       clear c11
       simp only [Option.some.injEq, Prod.mk.injEq] at H
       obtain ⟨rfl, rfl⟩ := H
       go_wp2
       go_ret2
       exact ⟨_, Sh.eR, Sh.rl HO_6.out, Sh.bw⟩

end Go.Proofs.Ytfjbdmeokbfhaaa.P
namespace Go.Proofs.Ytfjbdmeokbfhaaa.P
open Go.RowKit Go.Proofs.YtfjbdmeokbfhaaaW.PrintWords Go.Proofs.YtfjbdmeokbfhaaaW.PrintLast Go.Proofs.YtfjbdmeokbfhaaaW.PrintMore Go.Proofs.Ytfjbdmeokbfhaaa.Hof
attribute [local go_sem] max2_int min2_int max_two min_two max_three min_three max_four min_four   -- for this text's walks alone
set_option linter.unusedVariables false
set_option linter.unusedSimpArgs false

/-! ### spec_l1In: function 19 -/
def spec_l1In.f (a0 : Int) (a1 : Int) (a2 : Int) : Option (Bool) := if a0 ≥ a1 then (some (decide (a0 ≤ a2))) else (some false)
set_option maxHeartbeats 8000000 in
set_option maxRecDepth 100000 in
theorem spec_l1In.calls (a0 : Int) (a1 : Int) (a2 : Int) (r : Bool) (w : World) (h : spec_l1In.f a0 a1 a2 = some r) :
  Calls Try.prog 19 #[.int .i64 a0, .int .i64 a1, .int .i64 a2] w fun e w' => e = .returned (.bool r) ∧ Drawn0 w w' := by
 have H := h
 clear h
 unfold spec_l1In.f at H
 by_cases c4 : a0 ≥ a1
 ·rw [if_pos c4] at H
  have c4b0 : decide (a1 ≤ a0) = true := decide_eq_true c4
  clear c4
  obtain rfl := Option.some.inj H
  go_enter Try.func19, Try.ntmps19
  go_wp2
  go_ret
  exact ⟨Sh.es, Sh.dr⟩
 ·rw [if_neg c4] at H
  have c4b0 : decide (a1 ≤ a0) = false := decide_eq_false c4
  clear c4
  obtain rfl := Option.some.inj H
  go_enter Try.func19, Try.ntmps19
  go_wp2
  go_ret
  exact ⟨Sh.es, Sh.dr⟩

end Go.Proofs.Ytfjbdmeokbfhaaa.P
namespace Go.Proofs.Ytfjbdmeokbfhaaa.P
open Go.RowKit Go.Proofs.YtfjbdmeokbfhaaaW.PrintWords Go.Proofs.YtfjbdmeokbfhaaaW.PrintLast Go.Proofs.YtfjbdmeokbfhaaaW.PrintMore Go.Proofs.Ytfjbdmeokbfhaaa.Hof
attribute [local go_sem] max2_int min2_int max_two min_two max_three min_three max_four min_four   -- for this text's walks alone
set_option linter.unusedVariables false
set_option linter.unusedSimpArgs false

/-! ### spec_l5Wide: function 18 -/
def spec_l5Wide.f (a0 : Int) : Option (Bool) := (spec_l1In.f a0 1 4).bind fun t174 => (some t174)
set_option maxHeartbeats 8000000 in
set_option maxRecDepth 100000 in
theorem spec_l5Wide.calls (a0 : Int) (r : Bool) (w : World) (h : spec_l5Wide.f a0 = some r) :
  Calls Try.prog 18 #[.int .i64 a0] w fun e w' => e = .returned (.bool r) ∧ Drawn0 w w' := by
 have H := h
 clear h
 unfold spec_l5Wide.f at H
 obtain ⟨t174, A2, H⟩ := Sh.ba H
 obtain rfl := Option.some.inj H
 go_enter Try.func18, Try.ntmps18
 go_wp2_with (first | ((with_reducible refine Sh.k 19 ?_); refine Sh.gD (some 4) Try.func19 #[.int .i64 a0, .int .i64 1, .int .i64 4] (spec_l1In.calls a0 1 4 t174 _ A2.out) fun nd => ?_))
 go_ret
 exact ⟨Sh.es, Sh.dr⟩

end Go.Proofs.Ytfjbdmeokbfhaaa.P
namespace Go.Proofs.Ytfjbdmeokbfhaaa.P
open Go.RowKit Go.Proofs.YtfjbdmeokbfhaaaW.PrintWords Go.Proofs.YtfjbdmeokbfhaaaW.PrintLast Go.Proofs.YtfjbdmeokbfhaaaW.PrintMore Go.Proofs.Ytfjbdmeokbfhaaa.Hof
attribute [local go_sem] max2_int min2_int max_two min_two max_three min_three max_four min_four   -- for this text's walks alone
set_option linter.unusedVariables false
set_option linter.unusedSimpArgs false

/-! ### spec_l1Wide: function 41 -/
def spec_l1Wide.f (a0 : Int) : Option (Bool) := (spec_l1In.f a0 1 64).bind fun t175 => (some t175)
set_option maxHeartbeats 8000000 in
set_option maxRecDepth 100000 in
theorem spec_l1Wide.calls (a0 : Int) (r : Bool) (w : World) (h : spec_l1Wide.f a0 = some r) :
  Calls Try.prog 41 #[.int .i64 a0] w fun e w' => e = .returned (.bool r) ∧ Drawn0 w w' := by
 have H := h
 clear h
 unfold spec_l1Wide.f at H
 obtain ⟨t175, A2, H⟩ := Sh.ba H
 obtain rfl := Option.some.inj H
 go_enter Try.func41, Try.ntmps41
 go_wp2_with (first | ((with_reducible refine Sh.k 19 ?_); refine Sh.gD (some 4) Try.func19 #[.int .i64 a0, .int .i64 1, .int .i64 64] (spec_l1In.calls a0 1 64 t175 _ A2.out) fun nd => ?_))
 go_ret
 exact ⟨Sh.es, Sh.dr⟩

end Go.Proofs.Ytfjbdmeokbfhaaa.P
namespace Go.Proofs.Ytfjbdmeokbfhaaa.P
open Go.RowKit Go.Proofs.YtfjbdmeokbfhaaaW.PrintWords Go.Proofs.YtfjbdmeokbfhaaaW.PrintLast Go.Proofs.YtfjbdmeokbfhaaaW.PrintMore Go.Proofs.Ytfjbdmeokbfhaaa.Hof
attribute [local go_sem] max2_int min2_int max_two min_two max_three min_three max_four min_four   -- for this text's walks alone
set_option linter.unusedVariables false
set_option linter.unusedSimpArgs false

/-! ### spec_GoodWord: function 33 -/
def spec_GoodWord.f (k : Nat) (a0 : Int) (a1 : Int) : Option (Bool) := (spec_l1Wide.f a0).bind fun t176 => (if t176 = true then ((spec_l1Cut.f k a0 a1).bind fun t177 => (some (t177 == a1))) else (some false))
theorem spec_GoodWord.mono : ∀ a0 a1 k, LeO (spec_GoodWord.f k a0 a1) (spec_GoodWord.f (k + 1) a0 a1) := by
 intro a0 a1 k
 unfold spec_GoodWord.f
 repeat' with_reducible first | apply spec_l1Cut.mono | exact LeO.refl _ | exact LeO.none _ | apply LeO.ite | refine LeO.bind ?_ fun _ => ?_
set_option maxHeartbeats 8000000 in
set_option maxRecDepth 100000 in
theorem spec_GoodWord.calls (k : Nat) (a0 : Int) (a1 : Int) (r : Bool) (w : World) (h : spec_GoodWord.f k a0 a1 = some r) :
  Calls Try.prog 33 #[.int .i64 a0, .int .u64 a1] w fun e w' => e = .returned (.bool r) ∧ Drawn0 w w' := by
 have H := h
 clear h
 unfold spec_GoodWord.f at H
 obtain ⟨t176, A3, H⟩ := Sh.ba H
 by_cases c4 : t176 = true
 ·subst c4
  rw [if_pos rfl] at H
  obtain ⟨t177, A5, H⟩ := Sh.ba H
  obtain rfl := Option.some.inj H
  go_enter Try.func33, Try.ntmps33
  go_wp2_with (first | ((with_reducible refine Sh.k 41 ?_); refine Sh.gD (some 6) Try.func41 #[.int .i64 a0] (spec_l1Wide.calls a0 true _ A3.out) fun nd => ?_) | (go_at_call 38; (with_reducible refine (spec_l1Cut.calls k a0 a1 t177 _ A5.out).mono ?_); rintro e w' ⟨rfl, ⟨nd, rfl⟩⟩))
  go_ret
  exact ⟨Sh.es, Sh.dr⟩
 ·replace c4 := Bool.eq_false_iff.mpr c4
  subst c4
  rw [Sh.nf] at H
  obtain rfl := Option.some.inj H
  go_enter Try.func33, Try.ntmps33
  go_wp2_with (first | ((with_reducible refine Sh.k 41 ?_); refine Sh.gD (some 6) Try.func41 #[.int .i64 a0] (spec_l1Wide.calls a0 false _ A3.out) fun nd => ?_))
  go_ret
  exact ⟨Sh.es, Sh.dr⟩

end Go.Proofs.Ytfjbdmeokbfhaaa.P
namespace Go.Proofs.Ytfjbdmeokbfhaaa.P
open Go.RowKit Go.Proofs.YtfjbdmeokbfhaaaW.PrintWords Go.Proofs.YtfjbdmeokbfhaaaW.PrintLast Go.Proofs.YtfjbdmeokbfhaaaW.PrintMore Go.Proofs.Ytfjbdmeokbfhaaa.Hof
attribute [local go_sem] max2_int min2_int max_two min_two max_three min_three max_four min_four   -- for this text's walks alone
set_option linter.unusedVariables false
set_option linter.unusedSimpArgs false

/-! ### spec_l2Words: function 20 -/
def spec_l2Words.l0 : Nat → Int → List Int → Int → Int → Option (Bool)
 | 0, _, _, _, _ => none
 | k + 1, x0, x7, x8, x9 => if x9 < x8 then (if 0 ≤ x9 then (if x9 < (x7.length : Int) then ((spec_GoodWord.f k x0 (rd x7 x9)).bind fun t179 => (if t179 = true then (spec_l2Words.l0 k x0 x7 x8 (wrap64 (x9 + 1))) else (some false))) else (none)) else (none)) else (some true)
def spec_l2Words.f (k : Nat) (a0 : Int) (l1 : List Int) : Option (Bool) := spec_l2Words.l0 k a0 l1 (l1.length : Int) 0
theorem spec_l2Words.mono_l : ∀ k, (∀ y0 y1 y2 y3, LeO (spec_l2Words.l0 k y0 y1 y2 y3) (spec_l2Words.l0 (k + 1) y0 y1 y2 y3))
 | 0 => fun _ _ _ _ r h => by simp [spec_l2Words.l0] at h
 | k + 1 => by
  have ih0 := spec_l2Words.mono_l k
  ·intro y0 y1 y2 y3
   unfold spec_l2Words.l0
   repeat' with_reducible first | apply ih0 | apply spec_GoodWord.mono | exact LeO.refl _ | exact LeO.none _ | apply LeO.ite | refine LeO.bind ?_ fun _ => ?_
theorem spec_l2Words.mono : ∀ a0 a1 k, LeO (spec_l2Words.f k a0 a1) (spec_l2Words.f (k + 1) a0 a1) := by
 intro a0 a1 k
 have ih0 := spec_l2Words.mono_l k
 unfold spec_l2Words.f
 repeat' with_reducible first | apply ih0 | apply spec_GoodWord.mono | exact LeO.refl _ | exact LeO.none _ | apply LeO.ite | refine LeO.bind ?_ fun _ => ?_
set_option maxHeartbeats 8000000 in
set_option maxRecDepth 100000 in
theorem spec_l2Words.calls (k : Nat) (a0 : Int) (A1 : Option Addr) (c1 : Nat) (l1 : List Int) (r : Bool) (w : World) (hr1 : Kd.C (Kd.int .u64) w A1 l1.length l1) (hc1 : l1.length ≤ c1) (h : spec_l2Words.f k a0 l1 = some r) :
  Calls Try.prog 20 #[.int .i64 a0, .slice A1 l1.length c1] w fun e w' => e = .returned (.bool r) ∧ Drawn0 w w' := by
 have HR1 := am_ hr1
 have HC1 := am_ hc1
 clear hr1 hc1
 have H := h
 clear h
 unfold spec_l2Words.f at H
 have H' := am_ H
 clear H
 go_enter Try.func20, Try.ntmps20
 go_wp2
 go_loopg [9] k (fun kq v9 w' => ∃ (x9_1 : Int), v9 = .int .i64 x9_1 ∧ Aside0 (spec_l2Words.l0 kq a0 l1 (l1.length : Int) x9_1 = some r) ∧ Aside0 (kq ≤ k) ∧ Drawn0 w w')
 case atStart => exact ⟨(0), (Sh.es), H', ⟨Nat.le_refl _⟩, Sh.dr⟩
 case round =>
  clear H'
  obtain ⟨x9_1, rfl, HA, HK1, ⟨m1, rfl⟩⟩ := hrel
  cases gk with
  | zero => exact absurd HA.out (by simp [spec_l2Words.l0])
  | succ k1 =>
   have H := HA.out
   clear HA
   simp only [spec_l2Words.l0] at H
   by_cases c3 : x9_1 < (l1.length : Int)
   ·rw [if_pos c3] at H
    have c3b0 := decide_eq_true c3
    clear c3
    by_cases c4 : 0 ≤ x9_1
    ·rw [if_pos c4] at H
     have c4b0 := decide_eq_true c4
     clear c4
     by_cases c5 : x9_1 < (l1.length : Int)
     ·rw [if_pos c5] at H
      have c5b0 := decide_eq_true c5
      clear c5
      obtain ⟨t179, A6, H⟩ := Sh.ba H
      by_cases c7 : t179 = true
      ·subst c7
       rw [if_pos rfl] at H
       have H' := am_ H
       clear H
       have p178 : 0 ≤ (x9_1 : Int) := Sh.od
       have q178 : x9_1 < (l1.length : Int) := Sh.od
       obtain ⟨ad178, e178, hx178_0⟩ := Kd.at_int HR1.out x9_1 p178 q178
       cases e178
       replace p178 := eq_true p178
       replace q178 := eq_true q178
       go_wp2_with (first | ((with_reducible refine Sh.k 33 ?_); refine Sh.gD (some 15) Try.func33 #[.int .i64 a0, .int .u64 (rd l1 x9_1)] (spec_GoodWord.calls k1 a0 (rd l1 x9_1) true _ A6.out) fun nd => ?_))
       go_roundg k1
       case measure => have := HK1.out; omega
       case rel => exact ⟨(wrap64 (x9_1 + 1)), (Sh.es), H', ⟨by have := HK1.out; omega⟩, Sh.dr⟩
      ·replace c7 := Bool.eq_false_iff.mpr c7
       subst c7
       rw [Sh.nf] at H
       obtain rfl := Option.some.inj H
       have p178 : 0 ≤ (x9_1 : Int) := Sh.od
       have q178 : x9_1 < (l1.length : Int) := Sh.od
       obtain ⟨ad178, e178, hx178_0⟩ := Kd.at_int HR1.out x9_1 p178 q178
       cases e178
       replace p178 := eq_true p178
       replace q178 := eq_true q178
       go_wp2_with (first | ((with_reducible refine Sh.k 33 ?_); refine Sh.gD (some 15) Try.func33 #[.int .i64 a0, .int .u64 (rd l1 x9_1)] (spec_GoodWord.calls k1 a0 (rd l1 x9_1) false _ A6.out) fun nd => ?_))
       go_ret
       exact ⟨Sh.es, Sh.dr⟩
     ·rw [if_neg c5] at H
      exact absurd H (by simp)
    ·rw [if_neg c4] at H
     exact absurd H (by simp)
   ·rw [if_neg c3] at H
    have c3b0 := decide_eq_false c3
    clear c3
    obtain rfl := Option.some.inj H
    go_wp2
    go_ret
    exact ⟨Sh.es, Sh.dr⟩

end Go.Proofs.Ytfjbdmeokbfhaaa.P
namespace Go.Proofs.Ytfjbdmeokbfhaaa.P
open Go.RowKit Go.Proofs.YtfjbdmeokbfhaaaW.PrintWords Go.Proofs.YtfjbdmeokbfhaaaW.PrintLast Go.Proofs.YtfjbdmeokbfhaaaW.PrintMore Go.Proofs.Ytfjbdmeokbfhaaa.Hof
attribute [local go_sem] max2_int min2_int max_two min_two max_three min_three max_four min_four   -- for this text's walks alone
set_option linter.unusedVariables false
set_option linter.unusedSimpArgs false

/-! ### spec_l5Bits: function 21 -/
mutual
def spec_l5Bits.l0 : Nat → Int → List Bool → List Int → Int → Int → Option (List Bool)
 | 0, _, _, _, _, _ => none
 | k + 1, x0, x5, x9, x10, x11 => if x11 < x10 then (if 0 ≤ x11 then (if x11 < (x9.length : Int) then (spec_l5Bits.l1 k x0 x5 (rd x9 x11) 0 x9 x10 x11) else (none)) else (none)) else (some x5)
def spec_l5Bits.l1 : Nat → Int → List Bool → Int → Int → List Int → Int → Int → Option (List Bool)
 | 0, _, _, _, _, _, _, _ => none
 | k + 1, x0, x5, x7, x8, x9, x10, x11 => if x8 < x0 then (if 0 ≤ (IntKind.u64.wrap (x8)) then (if x5.length < 140737488355328 then (spec_l5Bits.l1 k x0 (x5 ++ [((Go.bits .and .u64 (shr .u64 x7 (IntKind.u64.wrap (x8))) 1) == 1)]) x7 (wrap64 (x8 + 1)) x9 x10 x11) else (none)) else (none)) else (spec_l5Bits.l0 k x0 x5 x9 x10 (wrap64 (x11 + 1)))
end
def spec_l5Bits.f (k : Nat) (a0 : Int) (l1 : List Int) : Option (List Bool) := spec_l5Bits.l0 k a0 ([] : List Bool) l1 (l1.length : Int) 0
theorem spec_l5Bits.mono_l : ∀ k, (∀ y0 y1 y2 y3 y4, LeO (spec_l5Bits.l0 k y0 y1 y2 y3 y4) (spec_l5Bits.l0 (k + 1) y0 y1 y2 y3 y4)) ∧ (∀ y0 y1 y2 y3 y4 y5 y6, LeO (spec_l5Bits.l1 k y0 y1 y2 y3 y4 y5 y6) (spec_l5Bits.l1 (k + 1) y0 y1 y2 y3 y4 y5 y6))
 | 0 => ⟨fun _ _ _ _ _ r h => by simp [spec_l5Bits.l0] at h, fun _ _ _ _ _ _ _ r h => by simp [spec_l5Bits.l1] at h⟩
 | k + 1 => by
  obtain ⟨ih0, ih1⟩ := spec_l5Bits.mono_l k
  and_intros <;> intros
  all_goals (first | unfold spec_l5Bits.l0 | unfold spec_l5Bits.l1)
  all_goals repeat' with_reducible first | apply ih0 | apply ih1 | exact LeO.refl _ | exact LeO.none _ | apply LeO.ite | refine LeO.bind ?_ fun _ => ?_
theorem spec_l5Bits.mono : ∀ a0 a1 k, LeO (spec_l5Bits.f k a0 a1) (spec_l5Bits.f (k + 1) a0 a1) := by
 intro a0 a1 k
 obtain ⟨ih0, ih1⟩ := spec_l5Bits.mono_l k
 unfold spec_l5Bits.f
 repeat' with_reducible first | apply ih0 | apply ih1 | exact LeO.refl _ | exact LeO.none _ | apply LeO.ite | refine LeO.bind ?_ fun _ => ?_
set_option maxHeartbeats 8000000 in
set_option maxRecDepth 100000 in
theorem spec_l5Bits.calls (k : Nat) (a0 : Int) (A1 : Option Addr) (c1 : Nat) (l1 : List Int) (r : List Bool) (w : World) (hr1 : Kd.C (Kd.int .u64) w A1 l1.length l1) (hc1 : l1.length ≤ c1) (h : spec_l5Bits.f k a0 l1 = some r) :
  Calls Try.prog 21 #[.int .i64 a0, .slice A1 l1.length c1] w fun e w' => ∃ v0_ : Value, e = .returned (v0_) ∧ Kd.R Kd.bool 4 w' w.heap.size (fun _ => True) v0_ r ∧ Below w.heap.size w w' := by
 have HR1 := am_ hr1
 have HC1 := am_ hc1
 clear hr1 hc1
 have HB := am_ (Below.refl w.heap.size w)
 have H := h
 clear h
 unfold spec_l5Bits.f at H
 have H' := am_ H
 clear H
 go_enter Try.func21, Try.ntmps21
 go_wp2
 go_loopg [5, 11] k (fun kq v5 v11 w' => ∃ (x5_1 : List Bool) (x11_1 : Int), v11 = .int .i64 x11_1 ∧ Aside0 (spec_l5Bits.l0 kq a0 x5_1 l1 (l1.length : Int) x11_1 = some r) ∧ Aside0 (kq ≤ k) ∧ Aside0 (Kd.R Kd.bool 4 w' w.heap.size (fun _ => True) v5 x5_1) ∧ Aside0 (Below w.heap.size w w'))
 case atStart => exact ⟨(([] : List Bool)), (0), (Sh.es), H', ⟨Nat.le_refl _⟩, ⟨by first | exact Kd.R_nil _ _ _ _ _ | exact Kd.N_nil _ _ _ _ _ | exact Kd.V_nil _ _ _ _ _ | exact Kd.Q_nil _ _ _ _ _ | exact Kd.S_nil _ _ _ _ _⟩, ⟨Sh.bw⟩⟩
 case round =>
  clear H'
  obtain ⟨x5_1, x11_1, rfl, HA, HK1, HO_5, HB⟩ := hrel
  cases gk with
  | zero => exact absurd HA.out (by simp [spec_l5Bits.l0])
  | succ k1 =>
   have H := HA.out
   clear HA
   simp only [spec_l5Bits.l0] at H
   by_cases c3 : x11_1 < (l1.length : Int)
   ·rw [if_pos c3] at H
    have c3b0 := decide_eq_true c3
    clear c3
    by_cases c4 : 0 ≤ x11_1
    ·rw [if_pos c4] at H
     have c4b0 := decide_eq_true c4
     clear c4
     by_cases c5 : x11_1 < (l1.length : Int)
     ·rw [if_pos c5] at H
      have c5b0 := decide_eq_true c5
      clear c5
      have H' := am_ H
      clear H
      have p180 : 0 ≤ (x11_1 : Int) := Sh.od
      have q180 : x11_1 < (l1.length : Int) := Sh.od
      obtain ⟨ad180, e180, hx180_0⟩ := Kd.at_int HR1.out x11_1 p180 q180
      cases e180
      try replace hx180_0 := Sh.cw hx180_0
      replace p180 := eq_true p180
      replace q180 := eq_true q180
      go_wp2
      go_loopg [5, 8] k1 (fun kq v5 v8 w' => ∃ (x5_2 : List Bool) (x8_2 : Int), v8 = .int .i64 x8_2 ∧ Aside0 (spec_l5Bits.l1 kq a0 x5_2 (rd l1 x11_1) x8_2 l1 (l1.length : Int) x11_1 = some r) ∧ Aside0 (kq ≤ k1) ∧ Aside0 (Kd.R Kd.bool 4 w' w.heap.size (fun _ => True) v5 x5_2) ∧ Aside0 (Below w.heap.size w w'))
      case atStart => exact ⟨(x5_1), (0), (Sh.es), H', ⟨Nat.le_refl _⟩, ⟨Sh.rl HO_5.out⟩, ⟨Sh.bw⟩⟩
      case round =>
       clear H'
       try clear hx1
       try clear hx180_0
       obtain ⟨x5_2, x8_2, rfl, HA, HK2, HO_5, HB⟩ := hrel
       cases gk with
       | zero => exact absurd HA.out (by simp [spec_l5Bits.l1])
       | succ k2 =>
        have H := HA.out
        clear HA
        simp only [spec_l5Bits.l1] at H
        by_cases c6 : x8_2 < a0
        ·rw [if_pos c6] at H
         have c6b0 := decide_eq_true c6
         clear c6
         obtain ⟨ji7, hj1⟩ : ∃ j_ : Int, (IntKind.u64.wrap (x8_2)) = j_ := ⟨_, rfl⟩
         replace H : (if 0 ≤ (ji7) then (if x5_2.length < 140737488355328 then (spec_l5Bits.l1 k2 a0 (x5_2 ++ [((Go.bits .and .u64 (shr .u64 (rd l1 x11_1) (ji7)) 1) == 1)]) (rd l1 x11_1) (wrap64 (x8_2 + 1)) l1 (l1.length : Int) x11_1) else (none)) else (none)) = some r := by first | (rw [hj1] at H; exact H) | (simp only [hj1] at H ⊢; exact H)
         by_cases c8 : 0 ≤ (ji7)
         ·rw [if_pos c8] at H
          have c8b0 := eq_true c8
          have c8b1 := decide_eq_true c8
          clear c8
          obtain ⟨ji9, hj2⟩ : ∃ j_ : Int, (shr .u64 (rd l1 x11_1) (ji7)) = j_ := ⟨_, rfl⟩
          replace H : (if x5_2.length < 140737488355328 then (spec_l5Bits.l1 k2 a0 (x5_2 ++ [((Go.bits .and .u64 (ji9) 1) == 1)]) (rd l1 x11_1) (wrap64 (x8_2 + 1)) l1 (l1.length : Int) x11_1) else (none)) = some r := by first | (rw [hj2] at H; exact H) | (simp only [hj2] at H ⊢; exact H)
          have hji9_ : ((rd l1 x11_1) / 2 ^ min (ji7).toNat 64) = ji9 := hj2
          have hji9z : (ji7) ≤ 64 → ((rd l1 x11_1) / 2 ^ (ji7).toNat) = ji9 := shr_small hj2
          by_cases c10 : x5_2.length < 140737488355328
          ·rw [if_pos c10] at H
           have LMc10 := am_ c10
           clear c10
           obtain ⟨y181, hy181⟩ : ∃ y_ : List Bool, y_ = (x5_2 ++ [((Go.bits .and .u64 (ji9) 1) == 1)]) := ⟨_, rfl⟩
           replace H : (spec_l5Bits.l1 k2 a0 y181 (rd l1 x11_1) (wrap64 (x8_2 + 1)) l1 (l1.length : Int) x11_1) = some r := by first | (rw [hy181]; with_reducible exact H) | (have H2_ := (Option.bind_some _ _).symm.trans H; rw [hy181]; with_reducible exact H2_) | (have H2_ := (Option.bind_some _ _).symm.trans H; with_reducible exact H2_) | with_reducible exact H | (rw [hy181]; exact H) | exact H
           have Ny181 := am_ hy181
           clear hy181
           have H' := am_ H
           clear H
           go_wp2_with (first | ((with_reducible refine gate_builtin (b := .append) (xs := #[.tmp 20, .tmp 27]) rfl ?_); at_builtin; refine Kd.R_append Kd.bool (w0 := w) w.heap.size rfl (.tmp 20) (.tmp 27) 27 4 (.bool false) 1 rfl Try.underlying27 info4 rfl (by decide) (by omega) u5 x5_2 ((Go.bits .and .u64 (ji9) 1) == 1) [.bool ((Go.bits .and .u64 (ji9) 1) == 1)] (fun _ => True) (fun _ => False) rfl rfl ?aP (fun _ hk => hk.elim) ?aF ?aO ?aB ?aS ?aL ?_; (case aP => exact rfl); (case aB => exact Sh.bw); (case aF => exact (fun _ _ => trivial)); (case aO => exact (Sh.rl HO_5.out)); (case aS => exact (below_size Sh.bw)); (case aL => have := LMc10.out; omega); intro v182 w11 ho hb hg hat; rw [← Ny181.out] at ho; have n0_ := am_ hb; have n1_ := am_ ho; clear HB; clear HO_5; have HB := n0_; have HO183 := n1_; clear n0_ n1_; clear ho hb hg hat))
           go_roundg k2
           case measure => have := HK1.out; have := HK2.out; omega
           case rel => exact ⟨(y181), (wrap64 (x8_2 + 1)), (Sh.es), H', ⟨by have := HK1.out; have := HK2.out; omega⟩, ⟨Sh.rl HO183.out⟩, ⟨Sh.bw⟩⟩
          ·rw [if_neg c10] at H
           exact absurd H (by simp)
         ·rw [if_neg c8] at H
          exact absurd H (by simp)
        ·rw [if_neg c6] at H
         have c6b0 := decide_eq_false c6
         clear c6
         have H' := am_ H
         clear H
         go_wp2
         go_roundg k2
         case measure => have := HK1.out; have := HK2.out; omega
         case rel => exact ⟨(x5_2), (wrap64 (x11_1 + 1)), (Sh.es), H', ⟨by have := HK1.out; have := HK2.out; omega⟩, ⟨Sh.rl HO_5.out⟩, ⟨Sh.bw⟩⟩
     ·rw [if_neg c5] at H
      exact absurd H (by simp)
    ·rw [if_neg c4] at H
     exact absurd H (by simp)
   ·rw [if_neg c3] at H
    have c3b0 := decide_eq_false c3
    clear c3
    obtain rfl := Option.some.inj H
    go_wp2
    go_ret
    exact ⟨_, Sh.eR, Sh.rl HO_5.out, Sh.bw⟩

end Go.Proofs.Ytfjbdmeokbfhaaa.P
namespace Go.Proofs.Ytfjbdmeokbfhaaa.P
open Go.RowKit Go.Proofs.YtfjbdmeokbfhaaaW.PrintWords Go.Proofs.YtfjbdmeokbfhaaaW.PrintLast Go.Proofs.YtfjbdmeokbfhaaaW.PrintMore Go.Proofs.Ytfjbdmeokbfhaaa.Hof
attribute [local go_sem] max2_int min2_int max_two min_two max_three min_three max_four min_four   -- for this text's walks alone
set_option linter.unusedVariables false
set_option linter.unusedSimpArgs false

/-! ### spec_BitsOf: function 7 -/
def spec_BitsOf.f (k : Nat) (a0 : Int) (l1 : List Int) : Option (List Bool × Bool) := (spec_l5Wide.f a0).bind fun t184 => (if t184 = true then ((spec_l1In.f (l1.length : Int) 1 4).bind fun t185 => (if t185 = true then ((spec_l2Words.f k a0 l1).bind fun t186 => (if t186 = true then ((spec_l5Bits.f k a0 l1).bind fun t187 => (some (t187, true))) else (some (([] : List Bool), false)))) else (some (([] : List Bool), false)))) else (some (([] : List Bool), false)))
theorem spec_BitsOf.mono : ∀ a0 a1 k, LeO (spec_BitsOf.f k a0 a1) (spec_BitsOf.f (k + 1) a0 a1) := by
 intro a0 a1 k
 unfold spec_BitsOf.f
 repeat' with_reducible first | apply spec_l2Words.mono | apply spec_l5Bits.mono | exact LeO.refl _ | exact LeO.none _ | apply LeO.ite | refine LeO.bind ?_ fun _ => ?_
set_option maxHeartbeats 8000000 in
set_option maxRecDepth 100000 in
theorem spec_BitsOf.calls (k : Nat) (a0 : Int) (A1 : Option Addr) (c1 : Nat) (l1 : List Int) (r1 : List Bool) (r2 : Bool) (w : World) (hr1 : Kd.C (Kd.int .u64) w A1 l1.length l1) (hc1 : l1.length ≤ c1) (h : spec_BitsOf.f k a0 l1 = some (r1, r2)) :
  Calls Try.prog 7 #[.int .i64 a0, .slice A1 l1.length c1] w fun e w' => ∃ v0_ : Value, e = .returned (.tuple #[v0_, .bool r2]) ∧ Kd.R Kd.bool 4 w' w.heap.size (fun _ => True) v0_ r1 ∧ Below w.heap.size w w' := by
 have HR1 := am_ hr1
 have HC1 := am_ hc1
 clear hr1 hc1
 have HB := am_ (Below.refl w.heap.size w)
 have H := h
 clear h
 unfold spec_BitsOf.f at H
 obtain ⟨t184, A3, H⟩ := Sh.ba H
 by_cases c4 : t184 = true
 ·subst c4
  rw [if_pos rfl] at H
  obtain ⟨t185, A5, H⟩ := Sh.ba H
  by_cases c6 : t185 = true
  ·subst c6
   rw [if_pos rfl] at H
   obtain ⟨t186, A7, H⟩ := Sh.ba H
   by_cases c8 : t186 = true
   ·subst c8
    rw [if_pos rfl] at H
    obtain ⟨t187, A9, H⟩ := Sh.ba H
    simp only [Option.some.injEq, Prod.mk.injEq] at H
    obtain ⟨rfl, rfl⟩ := H
    go_enter Try.func7, Try.ntmps7
    go_wp2_with (first | ((with_reducible refine Sh.k 18 ?_); refine Sh.gD (some 7) Try.func18 #[.int .i64 a0] (spec_l5Wide.calls a0 true _ A3.out) fun nd => ?_) | (go_at_call 19; (with_reducible refine (spec_l1In.calls (l1.length : Int) 1 4 true _ A5.out).mono ?_); rintro e w' ⟨rfl, ⟨nd, rfl⟩⟩) | (go_at_call 20; (with_reducible refine (spec_l2Words.calls k a0 _ _ l1 true _ ?side1 ?side2 A7.out).mono ?_); (case side1 => repeat (first | exact HR1.out | (with_reducible first | refine Kd.C_alloc ?_ _ | refine Kd.C_drewN ?_ _ | refine Kd.C_drew ?_))); (case side2 => exact HC1.out); rintro e w' ⟨rfl, ⟨nd, rfl⟩⟩) | ((with_reducible refine Sh.k 21 ?_); refine Sh.gL (some 23) Try.func21 #[.int .i64 a0, .slice A1 l1.length c1] (h := ?_); (with_reducible refine (spec_l5Bits.calls k a0 _ _ l1 t187 _ ?side1 ?side2 A9.out).mono ?_); (case side1 => repeat (first | exact HR1.out | (with_reducible first | refine Kd.C_alloc ?_ _ | refine Kd.C_drewN ?_ _ | refine Kd.C_drew ?_))); (case side2 => exact HC1.out); rintro e w10 ⟨v188, rfl, ho0, hb⟩; refine ⟨_, rfl, ?_⟩; have HO189 := am_ (Kd.R_lower ho0 (below_size Sh.bw)); replace HB := Sh.hb hb; (try clear hb); (try clear hb2); (try clear hk); (try clear hi); (try clear ho0)))
    go_ret2
    exact ⟨_, Sh.eR, Sh.rl HO189.out, Sh.bw⟩
   ·replace c8 := Bool.eq_false_iff.mpr c8
    subst c8
    rw [Sh.nf] at H
    simp only [Option.some.injEq, Prod.mk.injEq] at H
    obtain ⟨rfl, rfl⟩ := H
    go_enter Try.func7, Try.ntmps7
    go_wp2_with (first | ((with_reducible refine Sh.k 18 ?_); refine Sh.gD (some 7) Try.func18 #[.int .i64 a0] (spec_l5Wide.calls a0 true _ A3.out) fun nd => ?_) | (go_at_call 19; (with_reducible refine (spec_l1In.calls (l1.length : Int) 1 4 true _ A5.out).mono ?_); rintro e w' ⟨rfl, ⟨nd, rfl⟩⟩) | (go_at_call 20; (with_reducible refine (spec_l2Words.calls k a0 _ _ l1 false _ ?side1 ?side2 A7.out).mono ?_); (case side1 => repeat (first | exact HR1.out | (with_reducible first | refine Kd.C_alloc ?_ _ | refine Kd.C_drewN ?_ _ | refine Kd.C_drew ?_))); (case side2 => exact HC1.out); rintro e w' ⟨rfl, ⟨nd, rfl⟩⟩))
    go_ret2
    exact ⟨_, Sh.eR, by first | exact Kd.R_nil _ _ _ _ _ | exact Kd.N_nil _ _ _ _ _ | exact Kd.V_nil _ _ _ _ _ | exact Kd.Q_nil _ _ _ _ _ | exact Kd.S_nil _ _ _ _ _, Sh.bw⟩
  ·replace c6 := Bool.eq_false_iff.mpr c6
   subst c6
   rw [Sh.nf] at H
   simp only [Option.some.injEq, Prod.mk.injEq] at H
   obtain ⟨rfl, rfl⟩ := H
   go_enter Try.func7, Try.ntmps7
   go_wp2_with (first | ((with_reducible refine Sh.k 18 ?_); refine Sh.gD (some 7) Try.func18 #[.int .i64 a0] (spec_l5Wide.calls a0 true _ A3.out) fun nd => ?_) | (go_at_call 19; (with_reducible refine (spec_l1In.calls (l1.length : Int) 1 4 false _ A5.out).mono ?_); rintro e w' ⟨rfl, ⟨nd, rfl⟩⟩))
   go_ret2
   exact ⟨_, Sh.eR, by first | exact Kd.R_nil _ _ _ _ _ | exact Kd.N_nil _ _ _ _ _ | exact Kd.V_nil _ _ _ _ _ | exact Kd.Q_nil _ _ _ _ _ | exact Kd.S_nil _ _ _ _ _, Sh.bw⟩
 ·replace c4 := Bool.eq_false_iff.mpr c4
  subst c4
  rw [Sh.nf] at H
  simp only [Option.some.injEq, Prod.mk.injEq] at H
  obtain ⟨rfl, rfl⟩ := H
  go_enter Try.func7, Try.ntmps7
  go_wp2_with (first | ((with_reducible refine Sh.k 18 ?_); refine Sh.gD (some 7) Try.func18 #[.int .i64 a0] (spec_l5Wide.calls a0 false _ A3.out) fun nd => ?_))
  go_ret2
  exact ⟨_, Sh.eR, by first | exact Kd.R_nil _ _ _ _ _ | exact Kd.N_nil _ _ _ _ _ | exact Kd.V_nil _ _ _ _ _ | exact Kd.Q_nil _ _ _ _ _ | exact Kd.S_nil _ _ _ _ _, Sh.bw⟩

end Go.Proofs.Ytfjbdmeokbfhaaa.P
namespace Go.Proofs.Ytfjbdmeokbfhaaa.P
open Go.RowKit Go.Proofs.YtfjbdmeokbfhaaaW.PrintWords Go.Proofs.YtfjbdmeokbfhaaaW.PrintLast Go.Proofs.YtfjbdmeokbfhaaaW.PrintMore Go.Proofs.Ytfjbdmeokbfhaaa.Hof
attribute [local go_sem] max2_int min2_int max_two min_two max_three min_three max_four min_four   -- for this text's walks alone
set_option linter.unusedVariables false
set_option linter.unusedSimpArgs false

/-! ### laws_sameBools: function 8 -/
def laws_sameBools.l0 : Nat → List Bool → List Bool → Int → Int → Option (Bool)
 | 0, _, _, _, _ => none
 | k + 1, x0, x1, x12, x13 => if x13 < x12 then (if 0 ≤ x13 then (if x13 < (x0.length : Int) then (if x13 < (x1.length : Int) then (if ((rdOf false x0 x13) != (rdOf false x1 x13)) = true then (some false) else (laws_sameBools.l0 k x0 x1 x12 (wrap64 (x13 + 1)))) else (none)) else (none)) else (none)) else (some true)
def laws_sameBools.f (k : Nat) (l0 : List Bool) (l1 : List Bool) : Option (Bool) := if (l0.length : Int) = (l1.length : Int) then (laws_sameBools.l0 k l0 l1 (l0.length : Int) 0) else (some false)
theorem laws_sameBools.mono_l : ∀ k, (∀ y0 y1 y2 y3, LeO (laws_sameBools.l0 k y0 y1 y2 y3) (laws_sameBools.l0 (k + 1) y0 y1 y2 y3))
 | 0 => fun _ _ _ _ r h => by simp [laws_sameBools.l0] at h
 | k + 1 => by
  have ih0 := laws_sameBools.mono_l k
  ·intro y0 y1 y2 y3
   unfold laws_sameBools.l0
   repeat' with_reducible first | apply ih0 | exact LeO.refl _ | exact LeO.none _ | apply LeO.ite | refine LeO.bind ?_ fun _ => ?_
theorem laws_sameBools.mono : ∀ a0 a1 k, LeO (laws_sameBools.f k a0 a1) (laws_sameBools.f (k + 1) a0 a1) := by
 intro a0 a1 k
 have ih0 := laws_sameBools.mono_l k
 unfold laws_sameBools.f
 repeat' with_reducible first | apply ih0 | exact LeO.refl _ | exact LeO.none _ | apply LeO.ite | refine LeO.bind ?_ fun _ => ?_
set_option maxHeartbeats 8000000 in
set_option maxRecDepth 100000 in
theorem laws_sameBools.calls (k : Nat) (A0 : Option Addr) (c0 : Nat) (l0 : List Bool) (A1 : Option Addr) (c1 : Nat) (l1 : List Bool) (r : Bool) (w : World) (hr0 : Kd.C Kd.bool w A0 l0.length l0) (hc0 : l0.length ≤ c0) (hr1 : Kd.C Kd.bool w A1 l1.length l1) (hc1 : l1.length ≤ c1) (h : laws_sameBools.f k l0 l1 = some r) :
  Calls Try.prog 8 #[.slice A0 l0.length c0, .slice A1 l1.length c1] w fun e w' => e = .returned (.bool r) ∧ Drawn0 w w' := by
 have HR0 := am_ hr0
 have HC0 := am_ hc0
 clear hr0 hc0
 have HR1 := am_ hr1
 have HC1 := am_ hc1
 clear hr1 hc1
 have H := h
 clear h
 unfold laws_sameBools.f at H
 by_cases c3 : (l0.length : Int) = (l1.length : Int)
 ·rw [if_pos c3] at H
  have c3b0 : ((l0.length : Int) == (l1.length : Int)) = true := beq_iff_eq.mpr c3
  have c3b1 : ((l0.length : Int) != (l1.length : Int)) = false := bne_eq_false_iff_eq.mpr c3
  have c3b2 : (l0.length == l1.length) = true := by first | simpa using c3 | (simp at c3 ⊢; omega)
  clear c3
  have H' := am_ H
  clear H
  go_enter Try.func8, Try.ntmps8
  go_wp2
  repeat (go_quiet (fail); try go_wp2)
  go_loopg [13] k (fun kq v13 w' => ∃ (x13_1 : Int), v13 = .int .i64 x13_1 ∧ Aside0 (laws_sameBools.l0 kq l0 l1 (l0.length : Int) x13_1 = some r) ∧ Aside0 (kq ≤ k) ∧ Drawn0 w w')
  case atStart => exact ⟨(0), (Sh.es), H', ⟨Nat.le_refl _⟩, Sh.dr⟩
  case round =>
   clear H'
   obtain ⟨x13_1, rfl, HA, HK1, ⟨m1, rfl⟩⟩ := hrel
   cases gk with
   | zero => exact absurd HA.out (by simp [laws_sameBools.l0])
   | succ k1 =>
    have H := HA.out
    clear HA
    simp only [laws_sameBools.l0] at H
    by_cases c4 : x13_1 < (l0.length : Int)
    ·rw [if_pos c4] at H
     have c4b0 := decide_eq_true c4
     clear c4
     by_cases c5 : 0 ≤ x13_1
     ·rw [if_pos c5] at H
      have c5b0 := decide_eq_true c5
      clear c5
      by_cases c6 : x13_1 < (l0.length : Int)
      ·rw [if_pos c6] at H
       have c6b0 := decide_eq_true c6
       clear c6
       by_cases c7 : x13_1 < (l1.length : Int)
       ·rw [if_pos c7] at H
        have c7b0 := decide_eq_true c7
        clear c7
        by_cases c8 : ((rdOf false l0 x13_1) != (rdOf false l1 x13_1)) = true
        ·rw [if_pos c8] at H
         have c8b0 : ((rdOf false l0 x13_1) != (rdOf false l1 x13_1)) = true := c8
         (try (have c8b1 : decide ((rdOf false l0 x13_1) = (rdOf false l1 x13_1)) = false := by simpa using c8))
         (try (have c8b2 : ((rdOf false l0 x13_1) == (rdOf false l1 x13_1)) = false := by simpa using c8))
         (try (have c8b3 : ¬ ((rdOf false l0 x13_1) = (rdOf false l1 x13_1)) := by simpa using c8))
         clear c8
         obtain rfl := Option.some.inj H
         have p190 : 0 ≤ (x13_1 : Int) := Sh.od
         have q190 : x13_1 < (l0.length : Int) := Sh.od
         obtain ⟨ad190, e190, hx190_0⟩ := Kd.at_bool HR0.out x13_1 p190 q190
         cases e190
         replace p190 := eq_true p190
         replace q190 := eq_true q190
         have p191 : 0 ≤ (x13_1 : Int) := Sh.od
         have q191 : x13_1 < (l1.length : Int) := Sh.od
         obtain ⟨ad191, e191, hx191_0⟩ := Kd.at_bool HR1.out x13_1 p191 q191
         cases e191
         replace p191 := eq_true p191
         replace q191 := eq_true q191
         go_wp2
         repeat (go_quiet (fail); try go_wp2)
         go_ret
         exact ⟨Sh.es, Sh.dr⟩
        ·rw [if_neg c8] at H
         have c8b0 : ((rdOf false l0 x13_1) != (rdOf false l1 x13_1)) = false := by simpa using c8
         (try (have c8b1 : decide ((rdOf false l0 x13_1) = (rdOf false l1 x13_1)) = true := by simpa using c8))
         (try (have c8b2 : ((rdOf false l0 x13_1) == (rdOf false l1 x13_1)) = true := by simpa using c8))
         clear c8
         have H' := am_ H
         clear H
         have p190 : 0 ≤ (x13_1 : Int) := Sh.od
         have q190 : x13_1 < (l0.length : Int) := Sh.od
         obtain ⟨ad190, e190, hx190_0⟩ := Kd.at_bool HR0.out x13_1 p190 q190
         cases e190
         replace p190 := eq_true p190
         replace q190 := eq_true q190
         have p191 : 0 ≤ (x13_1 : Int) := Sh.od
         have q191 : x13_1 < (l1.length : Int) := Sh.od
         obtain ⟨ad191, e191, hx191_0⟩ := Kd.at_bool HR1.out x13_1 p191 q191
         cases e191
         replace p191 := eq_true p191
         replace q191 := eq_true q191
         go_wp2
         repeat (go_quiet (fail); try go_wp2)
         go_roundg k1
         case measure => have := HK1.out; omega
         case rel => exact ⟨(wrap64 (x13_1 + 1)), (Sh.es), H', ⟨by have := HK1.out; omega⟩, Sh.dr⟩
       ·rw [if_neg c7] at H
        exact absurd H (by simp)
      ·rw [if_neg c6] at H
       exact absurd H (by simp)
     ·rw [if_neg c5] at H
      exact absurd H (by simp)
    ·rw [if_neg c4] at H
     have c4b0 := decide_eq_false c4
     clear c4
     obtain rfl := Option.some.inj H
     go_wp2
     repeat (go_quiet (fail); try go_wp2)
     go_ret
     exact ⟨Sh.es, Sh.dr⟩
 ·rw [if_neg c3] at H
  have c3b0 : ((l0.length : Int) == (l1.length : Int)) = false := beq_eq_false_iff_ne.mpr c3
  have c3b1 : ((l0.length : Int) != (l1.length : Int)) = true := bne_iff_ne.mpr c3
  have c3b2 : (l0.length == l1.length) = false := by first | simpa using c3 | (simp at c3 ⊢; omega)
  obtain rfl := Option.some.inj H
  go_enter Try.func8, Try.ntmps8
  go_wp2
  repeat (go_quiet (fail); try go_wp2)
  go_ret
  exact ⟨Sh.es, Sh.dr⟩

end Go.Proofs.Ytfjbdmeokbfhaaa.P
namespace Go.Proofs.Ytfjbdmeokbfhaaa.P
open Go.RowKit Go.Proofs.YtfjbdmeokbfhaaaW.PrintWords Go.Proofs.YtfjbdmeokbfhaaaW.PrintLast Go.Proofs.YtfjbdmeokbfhaaaW.PrintMore Go.Proofs.Ytfjbdmeokbfhaaa.Hof
attribute [local go_sem] max2_int min2_int max_two min_two max_three min_three max_four min_four   -- for this text's walks alone
set_option linter.unusedVariables false
set_option linter.unusedSimpArgs false

/-! ### impl_truth: function 35 -/
def impl_truth.f (a0 : Bool) : Option (Int) := if a0 = true then (some 1) else (some 0)
set_option maxHeartbeats 8000000 in
set_option maxRecDepth 100000 in
theorem impl_truth.calls (a0 : Bool) (r : Int) (w : World) (h : impl_truth.f a0 = some r) :
  Calls Try.prog 35 #[.bool a0] w fun e w' => e = .returned (.int .u64 r) ∧ Drawn0 w w' := by
 have H := h
 clear h
 unfold impl_truth.f at H
 by_cases c2 : a0 = true
 ·subst c2
  rw [if_pos rfl] at H
  obtain rfl := Option.some.inj H
  go_enter Try.func35, Try.ntmps35
  go_wp2
  go_ret
  exact ⟨Sh.es, Sh.dr⟩
 ·replace c2 := Bool.eq_false_iff.mpr c2
  subst c2
  rw [Sh.nf] at H
  obtain rfl := Option.some.inj H
  go_enter Try.func35, Try.ntmps35
  go_wp2
  go_ret
  exact ⟨Sh.es, Sh.dr⟩

end Go.Proofs.Ytfjbdmeokbfhaaa.P
namespace Go.Proofs.Ytfjbdmeokbfhaaa.P
open Go.RowKit Go.Proofs.YtfjbdmeokbfhaaaW.PrintWords Go.Proofs.YtfjbdmeokbfhaaaW.PrintLast Go.Proofs.YtfjbdmeokbfhaaaW.PrintMore Go.Proofs.Ytfjbdmeokbfhaaa.Hof
attribute [local go_sem] max2_int min2_int max_two min_two max_three min_three max_four min_four   -- for this text's walks alone
set_option linter.unusedVariables false
set_option linter.unusedSimpArgs false

/-! ### impl_wordOf: function 24 -/
def impl_wordOf.l0 : Nat → Int → List Bool → Int → Int → Option (Int)
 | 0, _, _, _, _ => none
 | k + 1, x3, x6, x7, x8 => if x8 < x7 then (if 0 ≤ x8 then (if x8 < (x6.length : Int) then ((impl_truth.f (rdOf false x6 x8)).bind fun t193 => (impl_wordOf.l0 k (Go.bits .or .u64 x3 (shl .u64 t193 x8)) x6 x7 (wrap64 (x8 + 1)))) else (none)) else (none)) else (some x3)
def impl_wordOf.f (k : Nat) (l0 : List Bool) : Option (Int) := impl_wordOf.l0 k 0 l0 (l0.length : Int) 0
theorem impl_wordOf.mono_l : ∀ k, (∀ y0 y1 y2 y3, LeO (impl_wordOf.l0 k y0 y1 y2 y3) (impl_wordOf.l0 (k + 1) y0 y1 y2 y3))
 | 0 => fun _ _ _ _ r h => by simp [impl_wordOf.l0] at h
 | k + 1 => by
  have ih0 := impl_wordOf.mono_l k
  ·intro y0 y1 y2 y3
   unfold impl_wordOf.l0
   repeat' with_reducible first | apply ih0 | exact LeO.refl _ | exact LeO.none _ | apply LeO.ite | refine LeO.bind ?_ fun _ => ?_
theorem impl_wordOf.mono : ∀ a0 k, LeO (impl_wordOf.f k a0) (impl_wordOf.f (k + 1) a0) := by
 intro a0 k
 have ih0 := impl_wordOf.mono_l k
 unfold impl_wordOf.f
 repeat' with_reducible first | apply ih0 | exact LeO.refl _ | exact LeO.none _ | apply LeO.ite | refine LeO.bind ?_ fun _ => ?_
set_option maxHeartbeats 8000000 in
set_option maxRecDepth 100000 in
theorem impl_wordOf.calls (k : Nat) (A0 : Option Addr) (c0 : Nat) (l0 : List Bool) (r : Int) (w : World) (hr0 : Kd.C Kd.bool w A0 l0.length l0) (hc0 : l0.length ≤ c0) (h : impl_wordOf.f k l0 = some r) :
  Calls Try.prog 24 #[.slice A0 l0.length c0] w fun e w' => e = .returned (.int .u64 r) ∧ Drawn0 w w' := by
 have HR0 := am_ hr0
 have HC0 := am_ hc0
 clear hr0 hc0
 have H := h
 clear h
 unfold impl_wordOf.f at H
 have H' := am_ H
 clear H
 go_enter Try.func24, Try.ntmps24
 go_wp2
 go_loopg [3, 8] k (fun kq v3 v8 w' => ∃ (x3_1 : Int) (x8_1 : Int), v3 = .int .u64 x3_1 ∧ v8 = .int .i64 x8_1 ∧ Aside0 (impl_wordOf.l0 kq x3_1 l0 (l0.length : Int) x8_1 = some r) ∧ Aside0 (kq ≤ k) ∧ Drawn0 w w')
 case atStart => exact ⟨(0), (0), (Sh.es), (Sh.es), H', ⟨Nat.le_refl _⟩, Sh.dr⟩
 case round =>
  clear H'
  obtain ⟨x3_1, x8_1, rfl, rfl, HA, HK1, ⟨m1, rfl⟩⟩ := hrel
  cases gk with
  | zero => exact absurd HA.out (by simp [impl_wordOf.l0])
  | succ k1 =>
   have H := HA.out
   clear HA
   simp only [impl_wordOf.l0] at H
   by_cases c2 : x8_1 < (l0.length : Int)
   ·rw [if_pos c2] at H
    have c2b0 := decide_eq_true c2
    clear c2
    by_cases c3 : 0 ≤ x8_1
    ·rw [if_pos c3] at H
     have c3b0 := decide_eq_true c3
     clear c3
     by_cases c4 : x8_1 < (l0.length : Int)
     ·rw [if_pos c4] at H
      have c4b0 := decide_eq_true c4
      clear c4
      obtain ⟨t193, A5, H⟩ := Sh.ba H
      have c6b0 := eq_true (of_decide_eq_true (by first | (with_reducible assumption) | assumption) : 0 ≤ x8_1)
      obtain ⟨ji7, hj1⟩ : ∃ j_ : Int, (shl .u64 t193 x8_1) = j_ := ⟨_, rfl⟩
      replace H : (impl_wordOf.l0 k1 (Go.bits .or .u64 x3_1 (ji7)) l0 (l0.length : Int) (wrap64 (x8_1 + 1))) = some r := by first | (rw [hj1] at H; exact H) | (simp only [hj1] at H ⊢; exact H)
      (try rw [hj1] at A5)
      have hji7_ : (IntKind.u64.wrap (t193 * 2 ^ min x8_1.toNat 64)) = ji7 := hj1
      have hji7z : x8_1 ≤ 64 → (IntKind.u64.wrap (t193 * 2 ^ x8_1.toNat)) = ji7 := shl_small hj1
      have H' := am_ H
      clear H
      have p192 : 0 ≤ (x8_1 : Int) := Sh.od
      have q192 : x8_1 < (l0.length : Int) := Sh.od
      obtain ⟨ad192, e192, hx192_0⟩ := Kd.at_bool HR0.out x8_1 p192 q192
      cases e192
      replace p192 := eq_true p192
      replace q192 := eq_true q192
      go_wp2_with (first | ((with_reducible refine Sh.k 35 ?_); refine Sh.gD (some 15) Try.func35 #[.bool (rdOf false l0 x8_1)] (impl_truth.calls (rdOf false l0 x8_1) t193 _ A5.out) fun nd => ?_))
      go_roundg k1
      case measure => have := HK1.out; omega
      case rel => exact ⟨(Go.bits .or .u64 x3_1 (ji7)), (wrap64 (x8_1 + 1)), (by first | rfl | (simp; done) | (simp only [← hj1] <;> (first | rfl | simp)) | (simp [*]; done)), (Sh.es), H', ⟨by have := HK1.out; omega⟩, Sh.dr⟩
     ·rw [if_neg c4] at H
      exact absurd H (by simp)
    ·rw [if_neg c3] at H
     exact absurd H (by simp)
   ·rw [if_neg c2] at H
    have c2b0 := decide_eq_false c2
    clear c2
    obtain rfl := Option.some.inj H
    go_wp2
    go_ret
    exact ⟨Sh.es, Sh.dr⟩

end Go.Proofs.Ytfjbdmeokbfhaaa.P
namespace Go.Proofs.Ytfjbdmeokbfhaaa.P
open Go.RowKit Go.Proofs.YtfjbdmeokbfhaaaW.PrintWords Go.Proofs.YtfjbdmeokbfhaaaW.PrintLast Go.Proofs.YtfjbdmeokbfhaaaW.PrintMore Go.Proofs.Ytfjbdmeokbfhaaa.Hof
open Go.Shelf
attribute [local go_sem] Oper.semAt_some
set_option linter.unusedVariables false
set_option linter.unusedSimpArgs false

/-! ### impl_StateFrom: function 9 -/
namespace RfChunk
variable {P : Program}
theorem cut3 (t e : TypeId) (kl kh km : IntKind) {i : TypeInfo} (ht : P.underlying t = some (.slice e)) (hi : P.info? e = some i) (size : Nat) (hsz : i.size = size) (A : Option Addr) (n c : Nat) (l h m : Int) (h00 : 0 ≤ l) (h0 : l ≤ h) (h1 : h ≤ m) (h2 : m ≤ c) :
  ∀ W : World, (Instr.slice t (.slice A n c) (some (.int kl l)) (some (.int kh h)) (some (.int km m))).run P W = .ok (.slice (if m.toNat = l.toNat then A else A.map (·.add (l.toNat * size))) (h.toNat - l.toNat) (m.toNat - l.toNat)) W := by
 intro W
 have hel : P.elem t = e := by simp [Program.elem, ht]
 have hu : P.underlying t = some (.slice (P.elem t)) := by rw [hel]; exact ht
 have em : (m.toNat : Int) = m := Int.toNat_of_nonneg (by omega)
 have eh : (h.toNat : Int) = h := Int.toNat_of_nonneg (by omega)
 rw [run_slice_any (P := P) W t A n c hu, hel]
 simp [Instr.sliceBounds, run_sliceBound, sizeOf, typeInfo, hi, hsz, sliced, Result.andThen, em, eh, h00, h0, h1, h2, (by omega : 0 ≤ m), (by omega : 0 ≤ h)]
end RfChunk
/-- The slice of chunk j, of v elements each. -/
def ckv (A : Addr) (v j : Nat) : Value := .slice (some (A.add (j * v))) v v
theorem rf_info4 : (Try.prog.info? 4).map (fun i => (i.zero, i.size, i.bytes)) = some (some (.bool false), 1, 1) := info4
set_option maxRecDepth 100000 in
set_option maxHeartbeats 2000000 in
theorem chunk1_in (F : Fence) (n : Nat) (h34 : F.fn 34) (hro : F.round = none) (hn : 1 ≤ n) (l Bs Bn m v cap : Nat) (A : Addr) (hv : 1 ≤ v) (hv4 : v ≤ 4) (hm4 : m ≤ 4) (M : Nat) (hM : M = m * v) (hcap : M ≤ cap) (J Jx : List (Fin m) → World → Prop) (hJ : ∀ pre W, J pre W → J pre W.drew)
  (hY : ∀ pre (x : Fin m) W, J pre W → pre.length < m → YieldAt F (n - 1) Try.prog l #[ckv A v x.1] W fun e W' =>
   (e = .returned (.bool true) ∧ J (pre ++ [x]) W' ∧ (W'.heap[Bs]? = W.heap[Bs]? ∧ W'.heap[Bn]? = W.heap[Bn]?)) ∨ (e = .returned (.bool false) ∧ Jx (pre ++ [x]) W'))
  (W : World) (hBs : Boxed W Bs 27 (.slice (some A) M cap)) (hBn : Boxed W Bn 3 (.int .i64 (v : Int))) (h0 : J [] W) :
  CallsIn F n Try.prog 34 #[.func (.yield l) #[] #[], .pointer (some ⟨Bs, 0, none⟩), .pointer (some ⟨Bn, 0, none⟩)] W fun e W' => (∃ v, e = .returned v) ∧
   ((∃ ys, (ys.map (·.1) = List.range m) ∧ J ys W') ∨ (∃ pre, True ∧ Jx pre W')) := by
 obtain ⟨i4, hi4, _, hs4, _⟩ := info_parts rf_info4
 refine callsIn_of_wp Try.func34 rfl h34 ?_ hro
 simp only [Try.ntmps34, List.size_toArray, List.length_cons, List.length_nil, Nat.reduceAdd, Nat.reduceSub, Array.replicate_succ, Array.replicate_zero, List.push_toArray, List.append_toArray, List.nil_append, List.cons_append]
 gi_wp2
 gi_loopw [4] (fun i wr => ∃ (k q : Nat) (pre : List (Fin m)), k ≤ m ∧ q = k * v ∧ pre.map (·.1) = List.range k ∧ i = .int .i64 (q : Int) ∧ J pre wr ∧ Boxed wr Bs 27 (.slice (some A) M cap) ∧ Boxed wr Bn 3 (.int .i64 (v : Int)))
  (fun i _ => M - (intOf i).toNat)
 case atStart => exact ⟨0, 0, [], Nat.zero_le _, by simp, rfl, by simp, h0, hBs, hBn⟩
 case round =>
  obtain ⟨k, q, pre, hk, hq, hpre, rfl, hJs, hbs, hbn⟩ := hrel
  have hcs := hbs.cell
  have hcn := hbn.cell
  have hlp : pre.length = k := by have := congrArg List.length hpre; simpa using this
  have hkv : k * v ≤ m * v := Nat.mul_le_mul_right _ hk
  have hmv : m * v ≤ 4 * 4 := Nat.mul_le_mul hm4 hv4
  by_cases hlt : k < m
  ·have hkv1 : (k + 1) * v ≤ m * v := Nat.mul_le_mul_right _ hlt
   have hkv2 : (k + 1) * v = k * v + v := by rw [Nat.add_mul, Nat.one_mul]
   have hqM : q + v ≤ M := by omega
   have hM16 : M ≤ 16 := by omega
   clear hkv hkv1 hkv2 hmv
   have hcutB := cut_from (P := Try.prog) 27 4 .i64 Try.underlying27 hi4 1 hs4 (some A) M cap (q : Int) (by omega) (by omega)
   have hqm : q < M := by omega
   have HQ := am_ hq
   have HM := am_ hM
   clear hq hM
   gi_wp2
   gi_region
   all_goals
    clear hcutB
    have hbsd : Boxed wr.drew Bs 27 (.slice (some A) M cap) := hbs
    have hbnd : Boxed wr.drew Bn 3 (.int .i64 (v : Int)) := hbn
    have hcutA : ∀ W : World, (Instr.slice 27 (.slice (some A) M cap) (some (.int .i64 (q : Int))) (some (.int .i64 ((q : Int) + (v : Int)))) (some (.int .i64 ((q : Int) + (v : Int))))).run Try.prog W = .ok (.slice (some (A.add q)) v v) W := fun W => by
     rw [RfChunk.cut3 (P := Try.prog) 27 4 .i64 .i64 .i64 Try.underlying27 hi4 1 hs4 (some A) M cap (q : Int) ((q : Int) + v) ((q : Int) + v) (by omega) (by omega) (by omega) (by omega) W]
     rw [if_neg (by omega), show ((q : Int) + v).toNat - (q : Int).toNat = v by omega]
     simp
    obtain ⟨fn, tmps, assign, body, hy, hR⟩ := hY pre ⟨k, hlt⟩ wr.drew (hJ pre wr hJs) (by omega)
    dsimp only [ckv] at hy
    rw [← HQ.out] at hy
    rw [show (if M - q < v then ((M - q : Nat) : Int) else (v : Int)) = (v : Int) from if_neg (by omega)]
    gi_wp2
    refine hR.mono ?_
    rintro e W3 (⟨rfl, hJ3, hk3, hk4⟩ | ⟨rfl, hJx3⟩)
    ·have hbs3 : Boxed W3 Bs 27 (.slice (some A) M cap) := hk3.trans hbsd
     have hbn3 : Boxed W3 Bn 3 (.int .i64 (v : Int)) := hk4.trans hbnd
     have hcs3 := hbs3.cell
     have hcn3 := hbn3.cell
     gi_wp2
     go_roundw
     case rel => exact ⟨k + 1, q + v, pre ++ [⟨k, hlt⟩], hlt, by rw [HQ.out, Nat.add_mul, Nat.one_mul], by rw [List.map_append, hpre, List.range_succ]; rfl, by simp, hJ3, hbs3, hbn3⟩
     case measure => simp [intOf]; omega
    ·gi_wp2
     refine bodyPost_ret (results_none rfl _ _ _) rfl ?_
     exact ⟨⟨_, rfl⟩, .inr ⟨_, trivial, hJx3⟩⟩
  ·obtain rfl : k = m := by omega
   obtain rfl : q = M := by rw [hq, hM]
   gi_wp2
   go_end0
   exact ⟨⟨_, rfl⟩, .inl ⟨pre, hpre, hJs⟩⟩
set_option maxHeartbeats 1000000 in
theorem chunk_in (F : Fence) (n : Nat) (h23 : F.fn 23) (hro : F.round = none) (A : Option Addr) (M cap v : Nat) (hv : 1 ≤ v) (w : World) :
  CallsIn F n Try.prog 23 #[.slice A M cap, .int .i64 (v : Int)] w fun e w' => e = .returned (.func (.func 34) #[] #[.pointer (some ⟨w.heap.size, 0, none⟩), .pointer (some ⟨w.heap.size + 1, 0, none⟩)]) ∧ w' = (w.alloc (.cells #[.slice A M cap] 27)).alloc (.cells #[.int .i64 (v : Int)] 3) := by
 refine callsIn_of_wp Try.func23 rfl h23 ?_ hro
 simp only [Try.ntmps23, List.size_toArray, List.length_cons, List.length_nil, Nat.reduceAdd, Nat.reduceSub, Array.replicate_succ, Array.replicate_zero, List.push_toArray, List.append_toArray, List.nil_append, List.cons_append]
 have h1 : ¬ ((v : Int) < 1) := by omega
 have h2 : decide ((v : Int) < 1) = false := decide_eq_false h1
 gi_wp2
 go_ret
 exact ⟨by simp, rfl⟩


theorem chunk_stops (n : Nat) (hn : 1 ≤ n) (Bs Bn m v cap : Nat) (A : Addr) (hv : 1 ≤ v) (hv4 : v ≤ 4) (hm4 : m ≤ 4) (M : Nat) (hM : M = m * v) (hcap : M ≤ cap) (w0 : World) (hBs : Boxed w0 Bs 27 (.slice (some A) M cap)) (hBn : Boxed w0 Bn 3 (.int .i64 (v : Int))) :
  SeqStopsK Fence.wide n Try.prog 34 #[.pointer (some ⟨Bs, 0, none⟩), .pointer (some ⟨Bn, 0, none⟩)] (fun x : Fin m => #[ckv A v x.1]) (fun X Y => Y.heap[Bs]? = X.heap[Bs]? ∧ Y.heap[Bn]? = X.heap[Bn]?) (fun ys => ys.map (·.1) = List.range m) (fun _ => True) m w0 := fun l J Jx W hW hJ _ hY h0 =>
 chunk1_in Fence.wide n trivial rfl hn l Bs Bn m v cap A hv hv4 hm4 M hM hcap J Jx (fun pre X h => hJ pre X X.drew none h ⟨rfl, rfl, rfl, Nat.le_refl _, fun _ _ _ => rfl⟩ (fun r e => by cases e)) hY W ((hW.block Bs hBs.lt).trans hBs) ((hW.block Bn hBn.lt).trans hBn) h0

namespace RfChunk
theorem op_append {F : Fence} {n : Nat} {P : Program} {o : Oper} {a : Act} {W w1 : World} {K : Act → World → Prop} {Q : Exit → Act → World → Prop} {Y : Nat → Option Bool} {E : Prop} {s x : Operand} {t : TypeId} {v vx v' : Value} {ty : TypeId}
  (hop : o.op = Op.call { callee := Callee.builtin Builtin.append, args := #[s, x], argTypes := #[t, t] }) (hty : o.type = ty) (hw : Region.wanted o Y = true) (hs : a.eval s = v) (hx : a.eval x = vx) (hrun : (Builtin.append_ #[t, t] ty #[v, vx]).run P W = .ok v' w1) (h : K (a.put o.dst v') w1) :
  if Region.wanted o Y = true then Oper.wpIn F n P o a W K Q else E := by
 subst hty
 rw [if_pos hw]
 unfold Oper.wpIn
 refine ⟨?_, ?_⟩
 ·simp [Oper.about, hop, resolve, Target.leads, Sem.run_pure]
 ·rw [Oper.semAt_plain F _ _ (by rw [hop]; intro c hc'; cases hc')]
  simp [execOp, hop, resolve, invoke, builtin, hs, hx, hrun, Result.andThen]
  exact h
end RfChunk
def rfList (g : Nat → Option Int) : Nat → Option (List Int)
 | 0 => some []
 | m + 1 => (rfList g m).bind fun t => (g m).bind fun x => some (t ++ [x])
def impl_StateFrom.f (k : Nat) (a0 : Int) (l1 : List Bool) : Option (List Int × Bool) :=
 if 1 ≤ a0 ∧ a0 ≤ 4 then
  if l1.length % a0.toNat = 0 ∧ 1 ≤ l1.length / a0.toNat ∧ l1.length / a0.toNat ≤ 4 then (rfList (fun j => impl_wordOf.f k ((l1.drop (j * a0.toNat)).take a0.toNat)) (l1.length / a0.toNat)).bind fun t => some (t, true)
  else some ([], false)
 else some ([], false)
theorem rfList_mono {g h : Nat → Option Int} (hg : ∀ j, LeO (g j) (h j)) : ∀ m, LeO (rfList g m) (rfList h m)
 | 0 => LeO.refl _
 | m + 1 => LeO.bind (rfList_mono hg m) fun _ => LeO.bind (hg m) fun _ => LeO.refl _
theorem impl_StateFrom.mono : ∀ a0 a1 k, LeO (impl_StateFrom.f k a0 a1) (impl_StateFrom.f (k + 1) a0 a1) := by
 intro a0 a1 k
 unfold impl_StateFrom.f
 refine LeO.ite (LeO.ite (LeO.bind (rfList_mono (fun j => impl_wordOf.mono _ _) _) fun _ => LeO.refl _) (LeO.refl _)) (LeO.refl _)
theorem rfList_get {g : Nat → Option Int} : ∀ {m : Nat} {t : List Int}, rfList g m = some t → t.length = m ∧ ∀ j, j < m → g j = some (t.getD j 0)
 | 0, t, h => by cases h; exact ⟨rfl, fun j hj => absurd hj (by omega)⟩
 | m + 1, t, h => by
  simp only [rfList, Option.bind_eq_some_iff] at h
  obtain ⟨s, hs, x, hx, ht⟩ := h
  obtain rfl := Option.some.inj ht
  obtain ⟨h1, h2⟩ := rfList_get hs
  refine ⟨by simp [h1], fun j hj => ?_⟩
  by_cases hjm : j < m
  ·rw [h2 j hjm]; simp [List.getElem?_append, h1, hjm]
  ·obtain rfl : j = m := by omega
   rw [hx]; simp [List.getElem?_append, h1]
theorem wrap64_id' {x : Int} (h : -9223372036854775808 ≤ x) (h2 : x ≤ 9223372036854775807) : wrap64 x = x := by unfold wrap64; omega
set_option maxRecDepth 100000 in
set_option maxHeartbeats 2000000 in
theorem impl_StateFrom.calls (k : Nat) (a0 : Int) (A1 : Option Addr) (c1 : Nat) (l1 : List Bool) (r1 : List Int) (r2 : Bool) (w : World) (hr1 : Kd.C Kd.bool w A1 l1.length l1) (hc1 : l1.length ≤ c1) (h : impl_StateFrom.f k a0 l1 = some (r1, r2)) :
  Calls Try.prog 9 #[.int .i64 a0, .slice A1 l1.length c1] w fun e w' => ∃ v0_ : Value, e = .returned (.tuple #[v0_, .bool r2]) ∧ Kd.R (Kd.int .u64) 37 w' w.heap.size (fun _ => True) v0_ r1 ∧ Below w.heap.size w w' := by
 unfold impl_StateFrom.f at h
 by_cases ha : 1 ≤ a0 ∧ a0 ≤ 4
 ·rw [if_pos ha] at h
  obtain ⟨ha1, ha4⟩ := ha
  have hA : impl_isLaid.f a0 = some true := by unfold impl_isLaid.f; rw [if_pos (by omega)]; simp [ha4]
  obtain ⟨v, rfl⟩ := Int.eq_ofNat_of_zero_le (show 0 ≤ a0 by omega)
  simp only [Int.toNat_natCast] at h
  have hv0 : ((v : Int) == 0) = false := beq_eq_false_iff_ne.mpr (by omega)
  have hv0' : ¬ ((v : Int) = 0) := by omega
  by_cases hl : l1.length % v = 0 ∧ 1 ≤ l1.length / v ∧ l1.length / v ≤ 4
  ·rw [if_pos hl] at h
   obtain ⟨hm, hd1, hd4⟩ := hl
   obtain ⟨t, ht, h⟩ := Option.bind_eq_some_iff.mp h
   obtain ⟨rfl, rfl⟩ : t = r1 ∧ true = r2 := by simpa using h
   have hm0 : (((l1.length : Int) % (v : Int)) != 0) = false := bne_eq_false_iff_eq.mpr (by omega)
   have hm1 : (((l1.length : Int) % (v : Int)) == 0) = true := beq_iff_eq.mpr (by omega)
   obtain ⟨m, hmd⟩ : ∃ m, m = l1.length / v := ⟨_, rfl⟩
   have hlen : l1.length = m * v := by rw [hmd]; have := Nat.div_add_mod l1.length v; rw [hm, Nat.add_zero, Nat.mul_comm] at this; exact this.symm
   rw [← hmd] at ht hd1 hd4
   have hD : (l1.length : Int) / (v : Int) = (m : Int) := by rw [hmd]; simp
   have hV : impl_isVars.f (m : Int) = some true := by
    unfold impl_isVars.f
    rw [if_pos (by omega), decide_eq_true (by omega)]
   have hw : wrap64 (m : Int) = (m : Int) := wrap64_id' (by omega) (by omega)
   obtain ⟨htl, htg⟩ := rfList_get ht
   have hmv : m * v ≤ 4 * 4 := Nat.mul_le_mul hd4 (by omega)
   have hmv1 : 1 * 1 ≤ m * v := Nat.mul_le_mul hd1 (by omega)
   obtain ⟨A, rfl⟩ : ∃ A, A1 = some A := by
    obtain ⟨ad, e, _⟩ := hr1.2.2 (by omega)
    exact ⟨ad, e⟩
   obtain ⟨M, hM⟩ : ∃ M, M = l1.length := ⟨_, rfl⟩
   have HM := am_ (hM.trans hlen)
   have HV := am_ hv0
   clear hmv hmv1 hlen hmd hm h ht
   have h1 : 1 ≤ 5 := by omega
   refine (callsIn_wide (n := 5)).1 ?_
   refine callsIn_of_wp_marks Try.func9 rfl trivial ?_ rfl
   simp only [Try.ntmps9, List.size_toArray, List.length_cons, List.length_nil, Nat.reduceAdd, Nat.reduceSub, Array.replicate_succ, Array.replicate_zero, List.push_toArray, List.append_toArray, List.nil_append, List.cons_append]
   gi_wp2_with (first | (refine ⟨trivial, ?_⟩; gi_at_call 16; refine (callsIn_wide.2 (impl_isLaid.calls (v : Int) true _ hA)).mono ?_; rintro e w' ⟨rfl, hd⟩; obtain ⟨nd, rfl⟩ := hd.out) | (refine ⟨trivial, ?_⟩; gi_at_call 22; refine (callsIn_wide.2 (impl_isVars.calls (m : Int) true _ hV)).mono ?_; rintro e w' ⟨rfl, hd2⟩; obtain ⟨nd2, rfl⟩ := hd2.out) | (refine ⟨trivial, ?_⟩; gi_at_call 23; refine (chunk_in Fence.wide _ trivial rfl (some A) l1.length c1 v (by omega) _).mono ?_; rintro e w' ⟨rfl, rfl⟩))
   obtain ⟨W0, hW0⟩ : ∃ W0, W0 = (((((w.drewN (nd + nd2)).alloc (Obj.cells #[] 37)).alloc (Obj.cells #[Value.slice (some { block := w.heap.size, off := 0 }) 0 0] 24)).alloc (Obj.cells #[Value.slice (some A) l1.length c1] 27)).alloc (Obj.cells #[Value.int IntKind.i64 (v : Int)] 3)) := ⟨_, rfl⟩
   rw [← hW0]
   have bO : Boxed W0 (w.heap.size + 1) 24 (.slice (some ⟨w.heap.size, 0, none⟩) 0 0) := by
    have := ((Boxed.new ((w.drewN (nd + nd2)).alloc (Obj.cells #[] 37)) 24 (Value.slice (some { block := w.heap.size, off := 0 }) 0 0)).alloc (Obj.cells #[Value.slice (some A) l1.length c1] 27)).alloc (Obj.cells #[Value.int IntKind.i64 (v : Int)] 3)
    rw [← hW0] at this; simpa using this
   have bS : Boxed W0 (w.heap.size + 1 + 1) 27 (.slice (some A) l1.length c1) := by
    have := ((Boxed.new (((w.drewN (nd + nd2)).alloc (Obj.cells #[] 37)).alloc (Obj.cells #[Value.slice (some { block := w.heap.size, off := 0 }) 0 0] 24)) 27 (Value.slice (some A) l1.length c1))).alloc (Obj.cells #[Value.int IntKind.i64 (v : Int)] 3)
    rw [← hW0] at this; simpa using this
   have bN : Boxed W0 (w.heap.size + 1 + 1 + 1) 3 (.int .i64 (v : Int)) := by
    have := Boxed.new ((((w.drewN (nd + nd2)).alloc (Obj.cells #[] 37)).alloc (Obj.cells #[Value.slice (some { block := w.heap.size, off := 0 }) 0 0] 24)).alloc (Obj.cells #[Value.slice (some A) l1.length c1] 27)) 3 (Value.int IntKind.i64 (v : Int))
    rw [← hW0] at this; simpa using this
   have hB0 : Below w.heap.size w W0 := by
    rw [hW0]
    exact ((((pw_below_drewN (Below.refl _ w) (nd + nd2)).alloc (by simp) _).alloc (by first | (simp; done) | (simp; omega)) _).alloc (by first | (simp; done) | (simp; omega)) _).alloc (by first | (simp; done) | (simp; omega)) _
   have hsz : W0.heap.size = w.heap.size + 4 := by rw [hW0]; simp
   have hrow0 : W0.ownsRow w.heap.size 37 1 (.slice (some ⟨w.heap.size, 0, none⟩) 0 0) 0 [] := by
    refine ⟨rfl, .inr ⟨w.heap.size, 0, #[], rfl, Nat.le_refl _, ?_, Nat.le_refl _, by simp [maxLen], rfl, rfl⟩⟩
    rw [hW0]
    have h := World.alloc_heap_new (w.drewN (nd + nd2)) (Obj.cells #[] 37)
    rw [Below.heap_alloc _ _ _ (by first | (simp; done) | (simp; omega)), Below.heap_alloc _ _ _ (by first | (simp; done) | (simp; omega)), Below.heap_alloc _ _ _ (by first | (simp; done) | (simp; omega))]
    exact h
   clear hW0
   have hlenv : ∀ x : Fin m, ((l1.drop (x.1 * v)).take v).length = v := fun x => by
    have h1 : (x.1 + 1) * v ≤ m * v := Nat.mul_le_mul_right _ x.2
    have h2 : (x.1 + 1) * v = x.1 * v + v := by rw [Nat.add_mul, Nat.one_mul]
    have h3 := HM.out
    rw [List.length_take, List.length_drop]; omega
   have hword : ∀ (x : Fin m) (W : World), Below w.heap.size w W → Calls Try.prog 24 #[ckv A v x.1] W fun e w' => e = .returned (.int .u64 (t.getD x.1 0)) ∧ Drawn0 W w' := fun x W hB => by
    have h1 : (x.1 + 1) * v ≤ m * v := Nat.mul_le_mul_right _ x.2
    have h2 : (x.1 + 1) * v = x.1 * v + v := by rw [Nat.add_mul, Nat.one_mul]
    have h3 := HM.out
    have hC := Kd.C_below hr1 hB
    have hC1 := Kd.C_drop (c := c1) hC (m := x.1 * v) (by omega) hc1
    rw [if_neg (by omega)] at hC1
    rw [show x.1 * v * Kd.bool.sz = x.1 * v from Nat.mul_one _] at hC1
    have hC2 := Kd.C_take hC1 (m := v) (by rw [List.length_drop]; omega)
    have hc := impl_wordOf.calls k (some (A.add (x.1 * v))) v ((l1.drop (x.1 * v)).take v) (t.getD x.1 0) W hC2 (by rw [hlenv x]; exact Nat.le_refl _) (htg x.1 x.2)
    rw [hlenv x] at hc
    exact hc
   obtain ⟨i0, hi, hz0, hz1, hz2⟩ := info_parts info37
   refine wpIn_rangeFunc_ownG rfl h1 (gf := 34) (lb := #[.pointer (some ⟨w.heap.size + 1 + 1, 0, none⟩), .pointer (some ⟨w.heap.size + 1 + 1 + 1, 0, none⟩)]) rfl trivial (enters_of Try.func34 (by kernel_rfl) rfl)
    (chunk_stops (5 - 1) (by omega) (w.heap.size + 1 + 1) (w.heap.size + 1 + 1 + 1) m v c1 A (by omega) (by omega) hd4 l1.length (by rw [← hM]; exact HM.out) hc1 W0 bS bN) (fun h h' => ⟨h'.1.trans h.1, h'.2.trans h.2⟩)
    (fun W l o o' hl h _ _ => ⟨?kb1, ?kb2⟩) (Below.refl _ _) (fun _ => rfl)
    (fun pre W => (∃ u, Boxed W (w.heap.size + 1) 24 u ∧ W.ownsRow w.heap.size 37 1 u pre.length (pre.map fun j : Fin m => Value.int .u64 (t.getD j.1 0)) ∧ True) ∧ (Below w.heap.size w W ∧ (Boxed W (w.heap.size + 1 + 1) 27 (.slice (some A) l1.length c1) ∧ Boxed W (w.heap.size + 1 + 1 + 1) 3 (.int .i64 (v : Int)))))
    (fun _ _ _ => False)
    (OwnFrom.and (Own.from (holdsRow_own w.heap.size (w.heap.size + 1) 24 37 1 (fun pre : List (Fin m) => pre.length) (fun pre : List (Fin m) => pre.map fun j : Fin m => Value.int .u64 (t.getD j.1 0)) (fun _ _ => True)) _) (OwnFrom.and (ownFrom_below (Nat.le_refl _) (by omega)) (OwnFrom.and (Own.from (boxed_own _ _ _) _) (Own.from (boxed_own _ _ _) _))))
    (fun _ _ _ _ _ hs _ _ => hs)
    ⟨⟨_, bO, hrow0, trivial⟩, hB0, bS, bN⟩
    (fun x => { tmps := #[Value.int IntKind.i64 (v : Int), Value.slice (some A) l1.length c1, undef, undef, Value.slice none 0 0, Value.bool false, Value.pointer (some { block := w.heap.size + 1, off := 0 }), ckv A v x.1, Value.int IntKind.i64 (v : Int), Value.bool true, Value.bool false, Value.bool false, Value.slice (some A) l1.length c1, Value.int IntKind.i64 (l1.length : Int), Value.int IntKind.i64 (v : Int), Value.int IntKind.i64 ((l1.length : Int) % (v : Int)), Value.bool false, Value.bool false, Value.bool false, Value.slice (some A) l1.length c1, Value.int IntKind.i64 (l1.length : Int), Value.int IntKind.i64 (v : Int), Value.int IntKind.i64 (m : Int), Value.bool true, Value.bool false, Value.bool false, Value.slice (some { block := w.heap.size, off := 0 }) 0 0, Value.slice (some A) l1.length c1, Value.int IntKind.i64 (v : Int), Value.func (Fn.func 34) #[] #[Value.pointer (some { block := w.heap.size + 1 + 1, off := 0 }), Value.pointer (some { block := w.heap.size + 1 + 1 + 1, off := 0 })], ckv A v x.1, undef, undef, undef, undef, undef, undef], defers := [] }) ?assign ?body ?done ?stop
   case kb1 => exact World.putObj_heap_other (by omega)
   case kb2 => exact World.putObj_heap_other (by omega)
   case assign =>
    intro l x W K hK
    gi_wp2
    exact hK
   case body =>
    rintro l pre x W ⟨⟨u, hv, hrow, _⟩, hB, hSb, hNb⟩ hlt
    have hd : 1 ≤ 5 - 1 - 1 := by omega
    have hmx : Try.prog.follows .mixedOrders = true := by kernel_rfl
    have hc := hv.cell
    gi_wp2
    have hBd : Below w.heap.size w W.drew := below_drew hB
    obtain ⟨y, hy⟩ : ∃ y, y = t.getD x.1 0 := ⟨_, rfl⟩
    have hwx := hword x _ hBd
    rw [← hy] at hwx
    have HY := am_ hy
    clear hy
    have hwpl : ∀ nw : Nat, ∃ g' cap' w1, (Builtin.append_ #[24, 24] 24 #[u, .slice (some ⟨W.heap.size, 0, none⟩) 1 1]).run Try.prog ((W.drewN (1 + nw)).alloc (.cells #[.int .u64 y] 37)) = .ok (.slice (some ⟨g', 0, none⟩) (pre.length + 1) cap') w1 ∧ ((W.drewN (1 + nw)).alloc (.cells #[.int .u64 y] 37)).cell? ⟨w.heap.size + 1, 0, none⟩ = some u ∧ w1.cell? ⟨w.heap.size + 1, 0, none⟩ = some u ∧ w1.frozen? ⟨w.heap.size + 1, 0, none⟩ = false ∧
      Aside0 (KeepsOthers W (w1.setCell ⟨w.heap.size + 1, 0, none⟩ (.slice (some ⟨g', 0, none⟩) (pre.length + 1) cap')) ∧ Below w.heap.size W (w1.setCell ⟨w.heap.size + 1, 0, none⟩ (.slice (some ⟨g', 0, none⟩) (pre.length + 1) cap')) ∧ Boxed (w1.setCell ⟨w.heap.size + 1, 0, none⟩ (.slice (some ⟨g', 0, none⟩) (pre.length + 1) cap')) (w.heap.size + 1) 24 (.slice (some ⟨g', 0, none⟩) (pre.length + 1) cap') ∧
       (w1.setCell ⟨w.heap.size + 1, 0, none⟩ (.slice (some ⟨g', 0, none⟩) (pre.length + 1) cap')).ownsRow w.heap.size 37 1 (.slice (some ⟨g', 0, none⟩) (pre.length + 1) cap') (pre.length + 1) ((pre.map fun j : Fin m => Value.int .u64 (t.getD j.1 0)) ++ [.int .u64 y]) ∧ Boxed (w1.setCell ⟨w.heap.size + 1, 0, none⟩ (.slice (some ⟨g', 0, none⟩) (pre.length + 1) cap')) (w.heap.size + 1 + 1) 27 (.slice (some A) l1.length c1) ∧ Boxed (w1.setCell ⟨w.heap.size + 1, 0, none⟩ (.slice (some ⟨g', 0, none⟩) (pre.length + 1) cap')) (w.heap.size + 1 + 1 + 1) 3 (.int .i64 (v : Int))) := fun nw => by
     have hr1 : (W.drew.drewN nw).ownsRow w.heap.size 37 1 u pre.length (pre.map fun j : Fin m => Value.int .u64 (t.getD j.1 0)) := hrow
     have hv' : Boxed (W.drew.drewN nw) (w.heap.size + 1) 24 u := hv
     obtain ⟨v', w1, h1, h2, h3, _⟩ := run_append_own (P := Try.prog) ((W.drew.drewN nw).alloc (.cells #[.int .u64 y] 37)) w.heap.size 24 24 37 i0 (.int .u64 0) 1 8 Try.underlying24 hi hz0 hz1 hz2 rfl (by decide) u pre.length _ (hr1.alloc _) ⟨W.heap.size, 0, none⟩ 1 1 [.int .u64 y] rfl (cell_one_new (W.drew.drewN nw) _ _) (by simp [Value.oneCell']) (by simp [maxLen]; omega) (by omega) (by have := hB.size; simp; omega)
     obtain ⟨g', cap', rfl⟩ := ownsRow_succ h2
     obtain ⟨hv1, hv2, hr2, hk2, hb2⟩ := hv'.appended (by decide) hr1 hB.size (Nat.le_succ _) h2 h3
     have hS1 : Boxed (W.drew.drewN nw) (w.heap.size + 1 + 1) 27 (.slice (some A) l1.length c1) := hSb
     have hN1 : Boxed (W.drew.drewN nw) (w.heap.size + 1 + 1 + 1) 3 (.int .i64 (v : Int)) := hNb
     have hS2 := ((hS1.alloc (.cells #[.int .u64 y] 37)).kept h3 (hS1.not_row (by decide) hr1)).kept (grownBy_setCell' w1 (w.heap.size + 1) (.slice (some ⟨g', 0, none⟩) (pre.length + 1) cap')) (by intro e; injection e with e; omega)
     have hN2 := ((hN1.alloc (.cells #[.int .u64 y] 37)).kept h3 (hN1.not_row (by decide) hr1)).kept (grownBy_setCell' w1 (w.heap.size + 1) (.slice (some ⟨g', 0, none⟩) (pre.length + 1) cap')) (by intro e; injection e with e; omega)
     have ew : W.drew.drewN nw = W.drewN (1 + nw) := by simp
     rw [ew] at h1
     exact ⟨g', cap', w1, h1, (show Boxed (W.drewN (1 + nw)) (w.heap.size + 1) 24 u from hv).alloc _ |>.cell, hv1.cell, hv1.frozen, ⟨⟨hk2.1, hk2.2⟩, (pw_below_drewN (below_drew (Below.refl w.heap.size W)) nw).trans hb2, hv2, hr2, hS2, hN2⟩⟩
    refine wpIn_region_any (by assumption) ?_
    change wpAnyIn _ _ _ _ _ _ _ _ _ (World.drew _)
    refine wpAnyIn_ready (rs := [0, 1]) (by kernel_rfl) (by simp) ?_
    refine AllReadyIn.cons rfl (fun K hK => ?_) ?_
    ·go_simp
     refine hK _ _ ?_
     clear hK K
     refine wpAnyIn_ready (rs := [1]) (by kernel_rfl) (by simp) ?_
     refine AllReadyIn.cons rfl (fun K hK => ?_) ?_
     ·go_simp
      refine hK _ _ ?_
      clear hK K
      refine wpAnyIn_ready (rs := [2]) (by kernel_rfl) (by simp) ?_
      refine AllReadyIn.cons rfl (fun K hK => ?_) ?_
      ·go_simp
       gi_wp2_with (refine ⟨trivial, ?_⟩; gi_at_call 24; refine (CallsIn.inRound l (callsIn_wide.2 hwx)).mono ?_; rintro e w' ⟨rfl, hdw⟩; obtain ⟨nw, rfl⟩ := hdw.out; obtain ⟨g', cap', w1, hrun, hc0, hc1, hf1, hpost⟩ := hwpl nw)
       refine wpAnyIn_ready (rs := [3]) (by kernel_rfl) (by simp) ?_
       refine AllReadyIn.cons rfl (fun K hK => ?_) ?_
       ·go_simp
        refine hK _ _ ?_
        clear hK K
        refine wpAnyIn_ready (rs := [4]) (by kernel_rfl) (by simp) ?_
        refine AllReadyIn.cons rfl (fun K hK => ?_) ?_
        ·refine RfChunk.op_append (v := u) (s := .tmp 31) (x := .tmp 34) (t := 24) rfl rfl (by kernel_rfl) (by rfl) (by rfl) hrun ?_
         refine hK _ _ ?_
         clear hK K
         refine wpAnyIn_ready (rs := [5]) (by kernel_rfl) (by simp) ?_
         refine AllReadyIn.cons rfl (fun K hK => ?_) ?_
         ·go_simp
          refine hK _ _ ?_
          clear hK K
          refine wpAnyIn_done (by kernel_rfl) ?_ _
          obtain ⟨hk2, hb2, hv2, hr2, hS2, hN2⟩ := hpost.out; exact ⟨hk2.from _, ⟨hS2.trans hSb.symm, hN2.trans hNb.symm⟩, ⟨_, hv2, by rw [List.length_append, List.map_append, List.map_cons, List.map_nil, ← HY.out]; exact hr2, trivial⟩, hB.trans hb2, hS2, hN2⟩
         exact AllReadyIn.nil
        exact AllReadyIn.nil
       exact AllReadyIn.nil
      exact AllReadyIn.nil
     exact AllReadyIn.nil
    refine AllReadyIn.cons rfl (fun K hK => ?_) ?_
    ·go_simp
     refine hK _ _ ?_
     clear hK K
     refine wpAnyIn_ready (rs := [0, 2]) (by kernel_rfl) (by simp) ?_
     refine AllReadyIn.cons rfl (fun K hK => ?_) ?_
     ·go_simp
      refine hK _ _ ?_
      clear hK K
      refine wpAnyIn_ready (rs := [2]) (by kernel_rfl) (by simp) ?_
      refine AllReadyIn.cons rfl (fun K hK => ?_) ?_
      ·go_simp
       gi_wp2_with (refine ⟨trivial, ?_⟩; gi_at_call 24; refine (CallsIn.inRound l (callsIn_wide.2 hwx)).mono ?_; rintro e w' ⟨rfl, hdw⟩; obtain ⟨nw, rfl⟩ := hdw.out; obtain ⟨g', cap', w1, hrun, hc0, hc1, hf1, hpost⟩ := hwpl nw)
       refine wpAnyIn_ready (rs := [3]) (by kernel_rfl) (by simp) ?_
       refine AllReadyIn.cons rfl (fun K hK => ?_) ?_
       ·go_simp
        refine hK _ _ ?_
        clear hK K
        refine wpAnyIn_ready (rs := [4]) (by kernel_rfl) (by simp) ?_
        refine AllReadyIn.cons rfl (fun K hK => ?_) ?_
        ·refine RfChunk.op_append (v := u) (s := .tmp 31) (x := .tmp 34) (t := 24) rfl rfl (by kernel_rfl) (by rfl) (by rfl) hrun ?_
         refine hK _ _ ?_
         clear hK K
         refine wpAnyIn_ready (rs := [5]) (by kernel_rfl) (by simp) ?_
         refine AllReadyIn.cons rfl (fun K hK => ?_) ?_
         ·go_simp
          refine hK _ _ ?_
          clear hK K
          refine wpAnyIn_done (by kernel_rfl) ?_ _
          obtain ⟨hk2, hb2, hv2, hr2, hS2, hN2⟩ := hpost.out; exact ⟨hk2.from _, ⟨hS2.trans hSb.symm, hN2.trans hNb.symm⟩, ⟨_, hv2, by rw [List.length_append, List.map_append, List.map_cons, List.map_nil, ← HY.out]; exact hr2, trivial⟩, hB.trans hb2, hS2, hN2⟩
         exact AllReadyIn.nil
        exact AllReadyIn.nil
       exact AllReadyIn.nil
      exact AllReadyIn.nil
     refine AllReadyIn.cons rfl (fun K hK => ?_) ?_
     ·go_simp
      gi_wp2_with (refine ⟨trivial, ?_⟩; gi_at_call 24; refine (CallsIn.inRound l (callsIn_wide.2 hwx)).mono ?_; rintro e w' ⟨rfl, hdw⟩; obtain ⟨nw, rfl⟩ := hdw.out; obtain ⟨g', cap', w1, hrun, hc0, hc1, hf1, hpost⟩ := hwpl nw)
      refine wpAnyIn_ready (rs := [0, 3]) (by kernel_rfl) (by simp) ?_
      refine AllReadyIn.cons rfl (fun K hK => ?_) ?_
      ·go_simp
       refine hK _ _ ?_
       clear hK K
       refine wpAnyIn_ready (rs := [3]) (by kernel_rfl) (by simp) ?_
       refine AllReadyIn.cons rfl (fun K hK => ?_) ?_
       ·go_simp
        refine hK _ _ ?_
        clear hK K
        refine wpAnyIn_ready (rs := [4]) (by kernel_rfl) (by simp) ?_
        refine AllReadyIn.cons rfl (fun K hK => ?_) ?_
        ·refine RfChunk.op_append (v := u) (s := .tmp 31) (x := .tmp 34) (t := 24) rfl rfl (by kernel_rfl) (by rfl) (by rfl) hrun ?_
         refine hK _ _ ?_
         clear hK K
         refine wpAnyIn_ready (rs := [5]) (by kernel_rfl) (by simp) ?_
         refine AllReadyIn.cons rfl (fun K hK => ?_) ?_
         ·go_simp
          refine hK _ _ ?_
          clear hK K
          refine wpAnyIn_done (by kernel_rfl) ?_ _
          obtain ⟨hk2, hb2, hv2, hr2, hS2, hN2⟩ := hpost.out; exact ⟨hk2.from _, ⟨hS2.trans hSb.symm, hN2.trans hNb.symm⟩, ⟨_, hv2, by rw [List.length_append, List.map_append, List.map_cons, List.map_nil, ← HY.out]; exact hr2, trivial⟩, hB.trans hb2, hS2, hN2⟩
         exact AllReadyIn.nil
        exact AllReadyIn.nil
       exact AllReadyIn.nil
      refine AllReadyIn.cons rfl (fun K hK => ?_) ?_
      ·go_simp
       refine hK _ _ ?_
       clear hK K
       refine wpAnyIn_ready (rs := [0]) (by kernel_rfl) (by simp) ?_
       refine AllReadyIn.cons rfl (fun K hK => ?_) ?_
       ·go_simp
        refine hK _ _ ?_
        clear hK K
        refine wpAnyIn_ready (rs := [4]) (by kernel_rfl) (by simp) ?_
        refine AllReadyIn.cons rfl (fun K hK => ?_) ?_
        ·refine RfChunk.op_append (v := u) (s := .tmp 31) (x := .tmp 34) (t := 24) rfl rfl (by kernel_rfl) (by rfl) (by rfl) hrun ?_
         refine hK _ _ ?_
         clear hK K
         refine wpAnyIn_ready (rs := [5]) (by kernel_rfl) (by simp) ?_
         refine AllReadyIn.cons rfl (fun K hK => ?_) ?_
         ·go_simp
          refine hK _ _ ?_
          clear hK K
          refine wpAnyIn_done (by kernel_rfl) ?_ _
          obtain ⟨hk2, hb2, hv2, hr2, hS2, hN2⟩ := hpost.out; exact ⟨hk2.from _, ⟨hS2.trans hSb.symm, hN2.trans hNb.symm⟩, ⟨_, hv2, by rw [List.length_append, List.map_append, List.map_cons, List.map_nil, ← HY.out]; exact hr2, trivial⟩, hB.trans hb2, hS2, hN2⟩
         exact AllReadyIn.nil
        exact AllReadyIn.nil
       exact AllReadyIn.nil
      exact AllReadyIn.nil
     exact AllReadyIn.nil
    exact AllReadyIn.nil
   case done =>
    rintro D ys W hD hys ⟨⟨u, hv, hrow, _⟩, hB, _, _⟩ hK
    have hc := hv.cell
    gi_wp2
    refine ⟨by simp, .inl ⟨_, _, rfl, run_takeDeferred hK, ?_⟩⟩
    have hyl : ys.length = m := by have := congrArg List.length hys; simpa using this
    have hyt : (ys.map fun j : Fin m => Value.int .u64 (t.getD j.1 0)) = encs (Value.int .u64) t := by
     have : (ys.map fun j : Fin m => t.getD j.1 0) = t := by
      have h1 : (ys.map fun j : Fin m => t.getD j.1 0) = (ys.map (·.1)).map fun j => t.getD j 0 := by rw [List.map_map]; rfl
      rw [h1, hys]
      apply List.ext_getElem
      ·simp [htl]
      ·intro i h2 h3; simp [h3]
     rw [show (ys.map fun j : Fin m => Value.int .u64 (t.getD j.1 0)) = (ys.map fun j : Fin m => t.getD j.1 0).map (Value.int .u64) by rw [List.map_map]; rfl, this]
     rfl
    refine ⟨_, results_tmp2 rfl _ _ _, u, rfl, ?_, hB.trans (belowK_b (w := w) (Nat.le_refl _) W D _ _ (by omega) hK rfl rfl)⟩
    refine Kd.R_of_own ?_ (fun _ _ => trivial)
    rw [htl, ← hyl]
    have := ownsRow_putObj hrow (.deferred none) hK rfl
    rw [hyt] at this
    exact this
   case stop =>
    rintro D c pre W _ _ h _
    exact h.elim
  ·rw [if_neg hl] at h
   obtain ⟨rfl, rfl⟩ : ([] : List Int) = r1 ∧ false = r2 := by simpa using h
   by_cases hm : l1.length % v = 0
   ·have hm0 : (((l1.length : Int) % (v : Int)) != 0) = false := bne_eq_false_iff_eq.mpr (by omega)
    have hm1 : (((l1.length : Int) % (v : Int)) == 0) = true := beq_iff_eq.mpr (by omega)
    have hV : impl_isVars.f (((l1.length : Int) / (v : Int))) = some false := by
     rw [show (l1.length : Int) / (v : Int) = ((l1.length / v : Nat) : Int) by simp]
     unfold impl_isVars.f
     by_cases h1 : ((l1.length / v : Nat) : Int) ≥ 1
     ·rw [if_pos h1, decide_eq_false (by omega)]
     ·rw [if_neg h1]
    have hdl : l1.length / v ≤ l1.length := Nat.div_le_self _ _
    have hmx : l1.length ≤ 9223372036854775807 := hr1.2.1
    have hw : wrap64 ((l1.length : Int) / (v : Int)) = (l1.length : Int) / (v : Int) := by
     rw [show (l1.length : Int) / (v : Int) = ((l1.length / v : Nat) : Int) by simp]
     generalize l1.length / v = dd at hdl ⊢
     exact wrap64_id' (by omega) (by omega)
    have HL := am_ hl
    clear hl hdl
    go_enter Try.func9, Try.ntmps9
    go_wp2_with (first | (go_at_call 16; refine (impl_isLaid.calls (v : Int) true _ hA).mono ?_; rintro e w' ⟨rfl, hd⟩; obtain ⟨nd, rfl⟩ := hd.out) | (go_at_call 22; refine (impl_isVars.calls ((l1.length : Int) / (v : Int)) false _ hV).mono ?_; rintro e w' ⟨rfl, hd2⟩; obtain ⟨nd2, rfl⟩ := hd2.out))
    go_ret2
    exact ⟨_, rfl, Kd.R_nil _ _ _ _ _, pw_below_drewN (Below.refl _ w) (nd + nd2)⟩
   ·have hm0 : (((l1.length : Int) % (v : Int)) != 0) = true := bne_iff_ne.mpr (by omega)
    have hm1 : (((l1.length : Int) % (v : Int)) == 0) = false := beq_eq_false_iff_ne.mpr (by omega)
    clear hl
    go_enter Try.func9, Try.ntmps9
    go_wp2_with (go_at_call 16; refine (impl_isLaid.calls (v : Int) true _ hA).mono ?_; rintro e w' ⟨rfl, hd⟩; obtain ⟨nd, rfl⟩ := hd.out)
    go_ret2
    exact ⟨_, rfl, Kd.R_nil _ _ _ _ _, hd.below⟩
 ·rw [if_neg ha] at h
  obtain ⟨rfl, rfl⟩ : ([] : List Int) = r1 ∧ false = r2 := by simpa using h
  have hA : impl_isLaid.f a0 = some false := by
   unfold impl_isLaid.f
   by_cases h1 : a0 ≥ 1
   ·rw [if_pos h1, decide_eq_false (by omega)]
   ·rw [if_neg h1]
  have HB := am_ (Below.refl w.heap.size w)
  go_enter Try.func9, Try.ntmps9
  go_wp2_with (go_at_call 16; refine (impl_isLaid.calls a0 false _ hA).mono ?_; rintro e w' ⟨rfl, hd⟩; obtain ⟨nd, rfl⟩ := hd.out)
  go_ret2
  exact ⟨_, rfl, Kd.R_nil _ _ _ _ _, hd.below⟩

end Go.Proofs.Ytfjbdmeokbfhaaa.P
namespace Go.Proofs.Ytfjbdmeokbfhaaa.P
open Go.RowKit Go.Proofs.YtfjbdmeokbfhaaaW.PrintWords Go.Proofs.YtfjbdmeokbfhaaaW.PrintLast Go.Proofs.YtfjbdmeokbfhaaaW.PrintMore Go.Proofs.Ytfjbdmeokbfhaaa.Hof
attribute [local go_sem] max2_int min2_int max_two min_two max_three min_three max_four min_four   -- for this text's walks alone
set_option linter.unusedVariables false
set_option linter.unusedSimpArgs false

/-! ### laws_sameWords: function 10 -/
def laws_sameWords.l0 : Nat → List Int → List Int → Int → Int → Option (Bool)
 | 0, _, _, _, _ => none
 | k + 1, x0, x1, x12, x13 => if x13 < x12 then (if 0 ≤ x13 then (if x13 < (x0.length : Int) then (if x13 < (x1.length : Int) then (if (rd x0 x13) = (rd x1 x13) then (laws_sameWords.l0 k x0 x1 x12 (wrap64 (x13 + 1))) else (some false)) else (none)) else (none)) else (none)) else (some true)
def laws_sameWords.f (k : Nat) (l0 : List Int) (l1 : List Int) : Option (Bool) := if (l0.length : Int) = (l1.length : Int) then (laws_sameWords.l0 k l0 l1 (l0.length : Int) 0) else (some false)
theorem laws_sameWords.mono_l : ∀ k, (∀ y0 y1 y2 y3, LeO (laws_sameWords.l0 k y0 y1 y2 y3) (laws_sameWords.l0 (k + 1) y0 y1 y2 y3))
 | 0 => fun _ _ _ _ r h => by simp [laws_sameWords.l0] at h
 | k + 1 => by
  have ih0 := laws_sameWords.mono_l k
  ·intro y0 y1 y2 y3
   unfold laws_sameWords.l0
   repeat' with_reducible first | apply ih0 | exact LeO.refl _ | exact LeO.none _ | apply LeO.ite | refine LeO.bind ?_ fun _ => ?_
theorem laws_sameWords.mono : ∀ a0 a1 k, LeO (laws_sameWords.f k a0 a1) (laws_sameWords.f (k + 1) a0 a1) := by
 intro a0 a1 k
 have ih0 := laws_sameWords.mono_l k
 unfold laws_sameWords.f
 repeat' with_reducible first | apply ih0 | exact LeO.refl _ | exact LeO.none _ | apply LeO.ite | refine LeO.bind ?_ fun _ => ?_
set_option maxHeartbeats 8000000 in
set_option maxRecDepth 100000 in
theorem laws_sameWords.calls (k : Nat) (A0 : Option Addr) (c0 : Nat) (l0 : List Int) (A1 : Option Addr) (c1 : Nat) (l1 : List Int) (r : Bool) (w : World) (hr0 : Kd.C (Kd.int .u64) w A0 l0.length l0) (hc0 : l0.length ≤ c0) (hr1 : Kd.C (Kd.int .u64) w A1 l1.length l1) (hc1 : l1.length ≤ c1) (h : laws_sameWords.f k l0 l1 = some r) :
  Calls Try.prog 10 #[.slice A0 l0.length c0, .slice A1 l1.length c1] w fun e w' => e = .returned (.bool r) ∧ Drawn0 w w' := by
 have HR0 := am_ hr0
 have HC0 := am_ hc0
 clear hr0 hc0
 have HR1 := am_ hr1
 have HC1 := am_ hc1
 clear hr1 hc1
 have H := h
 clear h
 unfold laws_sameWords.f at H
 by_cases c3 : (l0.length : Int) = (l1.length : Int)
 ·rw [if_pos c3] at H
  have c3b0 : ((l0.length : Int) == (l1.length : Int)) = true := beq_iff_eq.mpr c3
  have c3b1 : ((l0.length : Int) != (l1.length : Int)) = false := bne_eq_false_iff_eq.mpr c3
  have c3b2 : (l0.length == l1.length) = true := by first | simpa using c3 | (simp at c3 ⊢; omega)
  clear c3
  have H' := am_ H
  clear H
  go_enter Try.func10, Try.ntmps10
  go_wp2
  repeat (go_quiet (fail); try go_wp2)
  go_loopg [13] k (fun kq v13 w' => ∃ (x13_1 : Int), v13 = .int .i64 x13_1 ∧ Aside0 (laws_sameWords.l0 kq l0 l1 (l0.length : Int) x13_1 = some r) ∧ Aside0 (kq ≤ k) ∧ Drawn0 w w')
  case atStart => exact ⟨(0), (Sh.es), H', ⟨Nat.le_refl _⟩, Sh.dr⟩
  case round =>
   clear H'
   obtain ⟨x13_1, rfl, HA, HK1, ⟨m1, rfl⟩⟩ := hrel
   cases gk with
   | zero => exact absurd HA.out (by simp [laws_sameWords.l0])
   | succ k1 =>
    have H := HA.out
    clear HA
    simp only [laws_sameWords.l0] at H
    by_cases c4 : x13_1 < (l0.length : Int)
    ·rw [if_pos c4] at H
     have c4b0 := decide_eq_true c4
     clear c4
     by_cases c5 : 0 ≤ x13_1
     ·rw [if_pos c5] at H
      have c5b0 := decide_eq_true c5
      clear c5
      by_cases c6 : x13_1 < (l0.length : Int)
      ·rw [if_pos c6] at H
       have c6b0 := decide_eq_true c6
       clear c6
       by_cases c7 : x13_1 < (l1.length : Int)
       ·rw [if_pos c7] at H
        have c7b0 := decide_eq_true c7
        clear c7
        by_cases c8 : (rd l0 x13_1) = (rd l1 x13_1)
        ·rw [if_pos c8] at H
         have c8b0 : ((rd l0 x13_1) == (rd l1 x13_1)) = true := beq_iff_eq.mpr c8
         have c8b1 : ((rd l0 x13_1) != (rd l1 x13_1)) = false := bne_eq_false_iff_eq.mpr c8
         clear c8
         have H' := am_ H
         clear H
         have p194 : 0 ≤ (x13_1 : Int) := Sh.od
         have q194 : x13_1 < (l0.length : Int) := Sh.od
         obtain ⟨ad194, e194, hx194_0⟩ := Kd.at_int HR0.out x13_1 p194 q194
         cases e194
         replace p194 := eq_true p194
         replace q194 := eq_true q194
         have p195 : 0 ≤ (x13_1 : Int) := Sh.od
         have q195 : x13_1 < (l1.length : Int) := Sh.od
         obtain ⟨ad195, e195, hx195_0⟩ := Kd.at_int HR1.out x13_1 p195 q195
         cases e195
         replace p195 := eq_true p195
         replace q195 := eq_true q195
         go_wp2
         repeat (go_quiet (fail); try go_wp2)
         go_roundg k1
         case measure => have := HK1.out; omega
         case rel => exact ⟨(wrap64 (x13_1 + 1)), (Sh.es), H', ⟨by have := HK1.out; omega⟩, Sh.dr⟩
        ·rw [if_neg c8] at H
         have c8b0 : ((rd l0 x13_1) == (rd l1 x13_1)) = false := beq_eq_false_iff_ne.mpr c8
         have c8b1 : ((rd l0 x13_1) != (rd l1 x13_1)) = true := bne_iff_ne.mpr c8
         obtain rfl := Option.some.inj H
         have p194 : 0 ≤ (x13_1 : Int) := Sh.od
         have q194 : x13_1 < (l0.length : Int) := Sh.od
         obtain ⟨ad194, e194, hx194_0⟩ := Kd.at_int HR0.out x13_1 p194 q194
         cases e194
         replace p194 := eq_true p194
         replace q194 := eq_true q194
         have p195 : 0 ≤ (x13_1 : Int) := Sh.od
         have q195 : x13_1 < (l1.length : Int) := Sh.od
         obtain ⟨ad195, e195, hx195_0⟩ := Kd.at_int HR1.out x13_1 p195 q195
         cases e195
         replace p195 := eq_true p195
         replace q195 := eq_true q195
         go_wp2
         repeat (go_quiet (fail); try go_wp2)
         go_ret
         exact ⟨Sh.es, Sh.dr⟩
       ·rw [if_neg c7] at H
        exact absurd H (by simp)
      ·rw [if_neg c6] at H
       exact absurd H (by simp)
     ·rw [if_neg c5] at H
      exact absurd H (by simp)
    ·rw [if_neg c4] at H
     have c4b0 := decide_eq_false c4
     clear c4
     obtain rfl := Option.some.inj H
     go_wp2
     repeat (go_quiet (fail); try go_wp2)
     go_ret
     exact ⟨Sh.es, Sh.dr⟩
 ·rw [if_neg c3] at H
  have c3b0 : ((l0.length : Int) == (l1.length : Int)) = false := beq_eq_false_iff_ne.mpr c3
  have c3b1 : ((l0.length : Int) != (l1.length : Int)) = true := bne_iff_ne.mpr c3
  have c3b2 : (l0.length == l1.length) = false := by first | simpa using c3 | (simp at c3 ⊢; omega)
  obtain rfl := Option.some.inj H
  go_enter Try.func10, Try.ntmps10
  go_wp2
  repeat (go_quiet (fail); try go_wp2)
  go_ret
  exact ⟨Sh.es, Sh.dr⟩

end Go.Proofs.Ytfjbdmeokbfhaaa.P
namespace Go.Proofs.Ytfjbdmeokbfhaaa.P
open Go.RowKit Go.Proofs.YtfjbdmeokbfhaaaW.PrintWords Go.Proofs.YtfjbdmeokbfhaaaW.PrintLast Go.Proofs.YtfjbdmeokbfhaaaW.PrintMore Go.Proofs.Ytfjbdmeokbfhaaa.Hof
attribute [local go_sem] max2_int min2_int max_two min_two max_three min_three max_four min_four   -- for this text's walks alone
set_option linter.unusedVariables false
set_option linter.unusedSimpArgs false

/-! ### spec_l1Cur_bools: function 25 -/
def spec_l1Cur_bools.l0 : Nat → Int → List Bool → List Int → Int → Int → Option (List Bool × Int × Int)
 | 0, _, _, _, _, _ => none
 | k + 1, x1, x5, x1000, x1001, x1002 => if x1 > 0 then ((spec_l1Cur_one.f x1000 x1001 x1002 2).bind fun bt196 => (if x5.length < 140737488355328 then (spec_l1Cur_bools.l0 k (wrap64 (x1 - 1)) (x5 ++ [bt196.1]) x1000 bt196.2.1 bt196.2.2) else (none))) else (some (x5, x1001, x1002))
def spec_l1Cur_bools.f (k : Nat) (s0_0 : List Int) (s0_1 : Int) (s0_2 : Int) (a1 : Int) : Option (List Bool × Int × Int) := spec_l1Cur_bools.l0 k a1 ([] : List Bool) s0_0 s0_1 s0_2
theorem spec_l1Cur_bools.mono_l : ∀ k, (∀ y0 y1 y2 y3 y4, LeO (spec_l1Cur_bools.l0 k y0 y1 y2 y3 y4) (spec_l1Cur_bools.l0 (k + 1) y0 y1 y2 y3 y4))
 | 0 => fun _ _ _ _ _ r h => by simp [spec_l1Cur_bools.l0] at h
 | k + 1 => by
  have ih0 := spec_l1Cur_bools.mono_l k
  ·intro y0 y1 y2 y3 y4
   unfold spec_l1Cur_bools.l0
   repeat' with_reducible first | apply ih0 | exact LeO.refl _ | exact LeO.none _ | apply LeO.ite | refine LeO.bind ?_ fun _ => ?_
theorem spec_l1Cur_bools.mono : ∀ a0 a1 a2 a3 k, LeO (spec_l1Cur_bools.f k a0 a1 a2 a3) (spec_l1Cur_bools.f (k + 1) a0 a1 a2 a3) := by
 intro a0 a1 a2 a3 k
 have ih0 := spec_l1Cur_bools.mono_l k
 unfold spec_l1Cur_bools.f
 repeat' with_reducible first | apply ih0 | exact LeO.refl _ | exact LeO.none _ | apply LeO.ite | refine LeO.bind ?_ fun _ => ?_
set_option maxHeartbeats 8000000 in
set_option maxRecDepth 100000 in
theorem spec_l1Cur_bools.calls (k : Nat) (g : Nat) (s0_0 : List Int) (s0_1 : Int) (s0_2 : Int) (a1 : Int) (r1 : List Bool) (r2 : Int) (r3 : Int) (w0 w : World) (hI : IsS39 w0 w g s0_0 s0_1 s0_2) (hB : Below w0.heap.size w0 w) (h : spec_l1Cur_bools.f k s0_0 s0_1 s0_2 a1 = some (r1, r2, r3)) :
  Calls Try.prog 25 #[.pointer (some ⟨g, 0, none⟩), .int .i64 a1] w fun e w' => ∃ v0_ : Value, e = .returned (v0_) ∧ Kd.R Kd.bool 4 w' w.heap.size (fun _ => True) v0_ r1 ∧ IsS39 w0 w' g s0_0 r2 r3 ∧ Below w0.heap.size w0 w' ∧ KeepBut w w' g none := by
 have HI0 := am_ hI
 have HK := am_ (KeepBut.refl w g none)
 have HL := am_ hB.size
 clear hI
 have HW0 := am_ hB.size
 have HB := am_ hB
 clear hB
 have H := h
 clear h
 unfold spec_l1Cur_bools.f at H
 have H' := am_ H
 clear H
 go_enter Try.func25, Try.ntmps25
 go_wp2
 go_loopg [1, 5] k (fun kq v1 v5 w' => ∃ (x1_1 : Int) (x5_1 : List Bool) (x1001_1 : Int) (x1002_1 : Int), v1 = .int .i64 x1_1 ∧ Aside0 (spec_l1Cur_bools.l0 kq x1_1 x5_1 s0_0 x1001_1 x1002_1 = some (r1, r2, r3)) ∧ Aside0 (kq ≤ k) ∧ Aside0 (Kd.R Kd.bool 4 w' w.heap.size (fun _ => True) v5 x5_1) ∧ Aside0 (IsS39 w0 w' g s0_0 x1001_1 x1002_1) ∧ Aside0 (KeepBut w w' g none) ∧ Aside0 (Below w0.heap.size w0 w'))
 case atStart => exact ⟨(a1), (([] : List Bool)), (s0_1), (s0_2), (Sh.es), H', ⟨Nat.le_refl _⟩, ⟨by first | exact Kd.R_nil _ _ _ _ _ | exact Kd.N_nil _ _ _ _ _ | exact Kd.V_nil _ _ _ _ _ | exact Kd.Q_nil _ _ _ _ _ | exact Kd.S_nil _ _ _ _ _⟩, ⟨by repeat (first | (with_reducible first | exact HI0.out | apply IsS39.alloc | apply IsS39.drewN | apply IsS39.drew | apply IsS39.set_1 | apply IsS39.set_2) | exact HI0.out)⟩, ⟨by repeat (first | (with_reducible first | exact HK.out | apply KeepBut.set_ | apply keep_drewN | apply keep_drew | apply keep_alloc) | exact HK.out)⟩, ⟨by repeat (first | (with_reducible first | exact HB.out | apply below_alloc | apply pw_below_drewN | apply below_drew1 | refine below_set ?_ (IsS39.ge HI0.out)) | exact HB.out)⟩⟩
 case round =>
  clear H'
  obtain ⟨x1_1, x5_1, x1001_1, x1002_1, rfl, HA, HK1, HO_5, HI0, HK, HB⟩ := hrel
  cases gk with
  | zero => exact absurd HA.out (by simp [spec_l1Cur_bools.l0])
  | succ k1 =>
   have H := HA.out
   clear HA
   simp only [spec_l1Cur_bools.l0] at H
   by_cases c3 : x1_1 > 0
   ·rw [if_pos c3] at H
    have c3b0 : decide (0 < x1_1) = true := decide_eq_true c3
    clear c3
    obtain ⟨⟨t196, t197, t198⟩, A40, H⟩ := Sh.bd H
    have A4 := am_ A40
    clear A40
    by_cases c5 : x5_1.length < 140737488355328
    ·rw [if_pos c5] at H
     have LMc5 := am_ c5
     clear c5
     obtain ⟨y199, hy199⟩ : ∃ y_ : List Bool, y_ = (x5_1 ++ [t196]) := ⟨_, rfl⟩
     replace H : (spec_l1Cur_bools.l0 k1 (wrap64 (x1_1 - 1)) y199 s0_0 t197 t198) = some (r1, r2, r3) := by first | (rw [hy199]; with_reducible exact H) | (have H2_ := (Option.bind_some _ _).symm.trans H; rw [hy199]; with_reducible exact H2_) | (have H2_ := (Option.bind_some _ _).symm.trans H; with_reducible exact H2_) | with_reducible exact H | (rw [hy199]; exact H) | exact H
     have Ny199 := am_ hy199
     clear hy199
     have H' := am_ H
     clear H
     go_wp2_with (first | ((with_reducible refine Sh.k 36 ?_); refine Sh.gL (some 12) Try.func36 #[.pointer (some ⟨g, 0, none⟩), .int .i64 2] (h := ?_); (with_reducible refine (spec_l1Cur_one.calls g s0_0 x1001_1 x1002_1 2 t196 t197 t198 w0 _ ?side1 ?side2 A4.out).mono ?_); (case side1 => repeat (first | (with_reducible first | exact HI0.out | apply IsS39.alloc | apply IsS39.drewN | apply IsS39.drew | apply IsS39.set_1 | apply IsS39.set_2) | exact HI0.out)); (case side2 => repeat (first | (with_reducible first | exact HB.out | apply below_alloc | apply pw_below_drewN | apply below_drew1 | refine below_set ?_ (IsS39.ge HI0.out)) | exact HB.out)); rintro e w6 ⟨rfl, hi, hb, hk⟩; refine ⟨_, rfl, ?_⟩; replace HO_5 := am_ (Kd.R_mono (Kd.R_keep (IsS39.apart (show IsS39 w0 _ g s0_0 x1001_1 x1002_1 from by repeat (first | (with_reducible first | exact HI0.out | apply IsS39.alloc | apply IsS39.drewN | apply IsS39.drew | apply IsS39.set_1 | apply IsS39.set_2) | exact HI0.out)) (Sh.rl HO_5.out) (by decide)) hk (fun _ h => h.2)) (fun _ h => h.1)); replace HK := am_ (KeepBut.trans (by repeat (first | (with_reducible first | exact HK.out | apply KeepBut.set_ | apply keep_drewN | apply keep_drew | apply keep_alloc) | exact HK.out)) hk (.inl rfl)); replace HB := am_ hb; replace HI0 := am_ hi; (try clear hb); (try clear hb2); (try clear hk); (try clear hi)) | ((with_reducible refine gate_builtin (b := .append) (xs := #[.tmp 10, .tmp 13]) rfl ?_); at_builtin; refine Kd.R_append Kd.bool w.heap.size rfl (.tmp 10) (.tmp 13) 27 4 (.bool false) 1 rfl Try.underlying27 info4 rfl (by decide) (by omega) u5 x5_1 t196 [.bool t196] (fun _ => True) (fun _ => False) rfl rfl ?aP (fun _ hk => hk.elim) ?aF ?aO (Below.refl _ _) ?aS ?aL ?_; (case aP => exact rfl); (case aF => exact (fun _ _ => trivial)); (case aO => exact (Sh.rl HO_5.out)); (case aS => exact (keep_size (w := w) (g := g) (row := none) (by repeat (first | (with_reducible first | exact HK.out | apply KeepBut.set_ | apply keep_drewN | apply keep_drew | apply keep_alloc) | exact HK.out)))); (case aL => have := LMc5.out; omega); intro v200 w7 ho hb hg hat; rw [← Ny199.out] at ho; have n0_ := am_ (IsS39.grown (by repeat (first | (with_reducible first | exact HI0.out | apply IsS39.alloc | apply IsS39.drewN | apply IsS39.drew | apply IsS39.set_1 | apply IsS39.set_2) | exact HI0.out)) hg (IsS39.own_ne HI0.out HO_5.out (by decide))); have n1_ := am_ (below_weaken (by repeat (first | (with_reducible first | exact HB.out | apply below_alloc | apply pw_below_drewN | apply below_drew1 | refine below_set ?_ (IsS39.ge HI0.out)) | exact HB.out)) HL.out hb); have n2_ := am_ (KeepBut.trans (by repeat (first | (with_reducible first | exact HK.out | apply KeepBut.set_ | apply keep_drewN | apply keep_drew | apply keep_alloc) | exact HK.out)) (KeepBut.of_grown hg g) (Kd.R_base2 HO_5.out)); have n3_ := am_ ho; clear HI0; clear HB; clear HK; clear HO_5; have HI0 := n0_; have HB := n1_; have HK := n2_; have HO201 := n3_; clear n0_ n1_ n2_ n3_; clear ho hb hg hat))
     go_roundg k1
     case measure => have := HK1.out; omega
     case rel => exact ⟨(wrap64 (x1_1 - 1)), (y199), (t197), (t198), (Sh.es), H', ⟨by have := HK1.out; omega⟩, ⟨Sh.rl HO201.out⟩, ⟨by repeat (first | (with_reducible first | exact HI0.out | apply IsS39.alloc | apply IsS39.drewN | apply IsS39.drew | apply IsS39.set_1 | apply IsS39.set_2) | exact HI0.out)⟩, ⟨by repeat (first | (with_reducible first | exact HK.out | apply KeepBut.set_ | apply keep_drewN | apply keep_drew | apply keep_alloc) | exact HK.out)⟩, ⟨by repeat (first | (with_reducible first | exact HB.out | apply below_alloc | apply pw_below_drewN | apply below_drew1 | refine below_set ?_ (IsS39.ge HI0.out)) | exact HB.out)⟩⟩
    ·rw [if_neg c5] at H
     exact absurd H (by simp)
   ·rw [if_neg c3] at H
    have c3b0 : decide (0 < x1_1) = false := decide_eq_false c3
    clear c3
    simp only [Option.some.injEq, Prod.mk.injEq] at H
    obtain ⟨rfl, rfl, rfl⟩ := H
    go_wp2
    go_ret
    exact ⟨_, Sh.eR, Sh.rl HO_5.out, by repeat (first | (with_reducible first | exact HI0.out | apply IsS39.alloc | apply IsS39.drewN | apply IsS39.drew | apply IsS39.set_1 | apply IsS39.set_2) | exact HI0.out), by repeat (first | (with_reducible first | exact HB.out | apply below_alloc | apply pw_below_drewN | apply below_drew1 | refine below_set ?_ (IsS39.ge HI0.out)) | exact HB.out), by repeat (first | (with_reducible first | exact HK.out | apply KeepBut.set_ | apply keep_drewN | apply keep_drew | apply keep_alloc) | exact HK.out)⟩

end Go.Proofs.Ytfjbdmeokbfhaaa.P
namespace Go.Proofs.Ytfjbdmeokbfhaaa.P
open Go.RowKit Go.Proofs.YtfjbdmeokbfhaaaW.PrintWords Go.Proofs.YtfjbdmeokbfhaaaW.PrintLast Go.Proofs.YtfjbdmeokbfhaaaW.PrintMore Go.Proofs.Ytfjbdmeokbfhaaa.Hof
attribute [local go_sem] max2_int min2_int max_two min_two max_three min_three max_four min_four   -- for this text's walks alone
set_option linter.unusedVariables false
set_option linter.unusedSimpArgs false

/-! ### spec_DrawStateFrom: function 11 -/
def spec_DrawStateFrom.f (k : Nat) (l0 : List Int) : Option (Int × List Bool) := (spec_l1Cur_among.f l0 0 0 (([1, 2, 3, 4, 4, 5, 0] : List Int))).bind fun bt206 => ((spec_l1Cur_pick.f l0 bt206.2.1 bt206.2.2 6).bind fun bt209 => ((spec_l1Cur_pick.f l0 bt209.2.1 bt209.2.2 9).bind fun bt212 => ((spec_l1Cur_bools.f k l0 bt212.2.1 bt212.2.2 (wrap64 ((wrap64 (bt206.1 * bt209.1)) + (wrap64 (Int.tdiv bt212.1 8))))).bind fun bt215 => (some (bt206.1, bt215.1)))))
theorem spec_DrawStateFrom.mono : ∀ a0 k, LeO (spec_DrawStateFrom.f k a0) (spec_DrawStateFrom.f (k + 1) a0) := by
 intro a0 k
 unfold spec_DrawStateFrom.f
 repeat' with_reducible first | apply spec_l1Cur_bools.mono | exact LeO.refl _ | exact LeO.none _ | apply LeO.ite | refine LeO.bind ?_ fun _ => ?_
set_option maxHeartbeats 8000000 in
set_option maxRecDepth 100000 in
theorem spec_DrawStateFrom.calls (k : Nat) (A0 : Option Addr) (c0 : Nat) (l0 : List Int) (r1 : Int) (r2 : List Bool) (w : World) (hr0 : Kd.C (Kd.int .u8) w A0 l0.length l0) (hc0 : l0.length ≤ c0) (h : spec_DrawStateFrom.f k l0 = some (r1, r2)) :
  Calls Try.prog 11 #[.slice A0 l0.length c0] w fun e w' => ∃ v1_ : Value, e = .returned (.tuple #[.int .i64 r1, v1_]) ∧ Kd.R Kd.bool 4 w' w.heap.size (fun _ => True) v1_ r2 ∧ Below w.heap.size w w' := by
 have hu39 := Try.underlying39
 have HR0 := am_ hr0
 have HC0 := am_ hc0
 clear hr0 hc0
 have HB := am_ (Below.refl w.heap.size w)
 have H := h
 clear h
 unfold spec_DrawStateFrom.f at H
 obtain ⟨y203, hy203⟩ : ∃ y_ : List Int, y_ = (([1, 2, 3, 4, 4, 5, 0] : List Int)) := ⟨_, rfl⟩
 replace H : ((spec_l1Cur_among.f l0 0 0 y203).bind fun bt206 => ((spec_l1Cur_pick.f l0 bt206.2.1 bt206.2.2 6).bind fun bt209 => ((spec_l1Cur_pick.f l0 bt209.2.1 bt209.2.2 9).bind fun bt212 => ((spec_l1Cur_bools.f k l0 bt212.2.1 bt212.2.2 (wrap64 ((wrap64 (bt206.1 * bt209.1)) + (wrap64 (Int.tdiv bt212.1 8))))).bind fun bt215 => (some (bt206.1, bt215.1)))))) = some (r1, r2) := by first | (rw [hy203]; with_reducible exact H) | (have H2_ := (Option.bind_some _ _).symm.trans H; rw [hy203]; with_reducible exact H2_) | (have H2_ := (Option.bind_some _ _).symm.trans H; with_reducible exact H2_) | with_reducible exact H | (rw [hy203]; exact H) | exact H
 have Ny203 := am_ hy203
 clear hy203
 obtain ⟨⟨t206, t207, t208⟩, A20, H⟩ := Sh.bd H
 have A2 := am_ A20
 clear A20
 obtain ⟨⟨t209, t210, t211⟩, A30, H⟩ := Sh.bd H
 have A3 := am_ A30
 clear A30
 obtain ⟨⟨t212, t213, t214⟩, A40, H⟩ := Sh.bd H
 have A4 := am_ A40
 clear A40
 obtain ⟨⟨t215, t218, t219⟩, A50, H⟩ := Sh.bd H
 have A5 := am_ A50
 clear A50
 simp only [Option.some.injEq, Prod.mk.injEq] at H
 obtain ⟨rfl, rfl⟩ := H
 go_enter Try.func11, Try.ntmps11
 go_wp2_with (first | ((with_reducible refine Sh.d 8 ?_); refine Sh.bz w (N := 8) (cs := #[.slice A0 l0.length c0, .int .i64 0, .int .u64 0]) (t := 39) (h := ?_); clear HB; intro gb202 w6 BK202 GE202 HB) | ((with_reducible refine Sh.d 10 ?_); refine Kd.R_lit (Kd.int .i64) _ 3 ?hg (N := 10) ?hd (xs := ([1, 2, 3, 4, 4, 5, 0] : List Int)) (inner := [.int .i64 1, .int .i64 2, .int .i64 3, .int .i64 4, .int .i64 4, .int .i64 5, .int .i64 0]) (ok := fun _ => True) (okp := fun _ => True) ?hr ?hp (fun _ hk => hk) trivial (Below.refl _ _) (Nat.le_refl _) (by simp) ?_; (case hd => rfl); (case hg => rfl); (case hr => first | (go_simp; done) | (go_simp; rfl)); (case hp => exact (Reps.one (show Kd.M (Kd.int .i64) _ _ _ 1 [.int .i64 1] from rfl) (Reps.one (show Kd.M (Kd.int .i64) _ _ _ 2 [.int .i64 2] from rfl) (Reps.one (show Kd.M (Kd.int .i64) _ _ _ 3 [.int .i64 3] from rfl) (Reps.one (show Kd.M (Kd.int .i64) _ _ _ 4 [.int .i64 4] from rfl) (Reps.one (show Kd.M (Kd.int .i64) _ _ _ 4 [.int .i64 4] from rfl) (Reps.one (show Kd.M (Kd.int .i64) _ _ _ 5 [.int .i64 5] from rfl) (Reps.one (show Kd.M (Kd.int .i64) _ _ _ 0 [.int .i64 0] from rfl) (Reps.none _ _))))))))); intro v204 w7 ho8 hb hg_ hnew_; clear hg_ hnew_; (first | rw [← Ny203.out] at ho8 | (simp only [Int.reduceToNat] at ho8; rw [← Ny203.out] at ho8)); have HO205 := am_ (Kd.R_lower ho8 (below_size Sh.bw)); replace BK202 := Sh.ab BK202 hb; replace HB := Sh.hb hb; clear hb ho8; have HI202 := am_ (show IsS39 w w7 gb202 l0 0 0 from ⟨_, _, BK202.out, GE202.out, HR0.out⟩); obtain ⟨Ao9, co9, eo9⟩ := Kd.R_slice HO205.out; subst eo9) | ((with_reducible refine Sh.k 13 ?_); refine Sh.gL (some 11) Try.func13 #[.pointer (some ⟨gb202, 0, none⟩), .slice Ao9 y203.length co9] (h := ?_); (with_reducible refine (spec_l1Cur_among.calls gb202 l0 0 0 _ _ y203 t206 t207 t208 w _ ?side1 ?side2 ?side3 ?side4 ?side5 A2.out).mono ?_); (case side1 => repeat (first | (with_reducible first | exact HI202.out | apply IsS39.alloc | apply IsS39.drewN | apply IsS39.drew | apply IsS39.set_1 | apply IsS39.set_2) | exact HI202.out)); (case side2 => repeat (first | (with_reducible first | exact HB.out | apply below_alloc | apply pw_below_drewN | apply below_drew1 | refine below_set ?_ (IsS39.ge HI202.out)) | exact HB.out)); (case side3 => repeat (first | exact (Kd.R_reads' HO205.out).2.2 | (with_reducible first | refine Kd.C_alloc ?_ _ | refine Kd.C_drewN ?_ _ | refine Kd.C_drew ?_))); (case side4 => exact (Kd.R_reads' HO205.out).2.1); (case side5 => exact far_slice (IsS39.own_ne HI202.out HO205.out (by decide))); rintro e w10 ⟨rfl, hi, hb, hk⟩; refine ⟨_, rfl, ?_⟩; replace HO205 := am_ (Kd.R_mono (Kd.R_keep (IsS39.apart (show IsS39 w _ gb202 l0 0 0 from by repeat (first | (with_reducible first | exact HI202.out | apply IsS39.alloc | apply IsS39.drewN | apply IsS39.drew | apply IsS39.set_1 | apply IsS39.set_2) | exact HI202.out)) (Sh.rl HO205.out) (by decide)) hk (fun _ h => h.2)) (fun _ h => h.1)); replace HB := am_ hb; replace HI202 := am_ hi; (try clear hb); (try clear hb2); (try clear hk); (try clear hi)) | ((with_reducible refine Sh.k 15 ?_); refine Sh.gL (some 16) Try.func15 #[.pointer (some ⟨gb202, 0, none⟩), .int .i64 6] (h := ?_); (with_reducible refine (spec_l1Cur_pick.calls gb202 l0 t207 t208 6 t209 t210 t211 w _ ?side1 ?side2 A3.out).mono ?_); (case side1 => repeat (first | (with_reducible first | exact HI202.out | apply IsS39.alloc | apply IsS39.drewN | apply IsS39.drew | apply IsS39.set_1 | apply IsS39.set_2) | exact HI202.out)); (case side2 => repeat (first | (with_reducible first | exact HB.out | apply below_alloc | apply pw_below_drewN | apply below_drew1 | refine below_set ?_ (IsS39.ge HI202.out)) | exact HB.out)); rintro e w11 ⟨rfl, hi, hb, hk⟩; refine ⟨_, rfl, ?_⟩; replace HO205 := am_ (Kd.R_mono (Kd.R_keep (IsS39.apart (show IsS39 w _ gb202 l0 t207 t208 from by repeat (first | (with_reducible first | exact HI202.out | apply IsS39.alloc | apply IsS39.drewN | apply IsS39.drew | apply IsS39.set_1 | apply IsS39.set_2) | exact HI202.out)) (Sh.rl HO205.out) (by decide)) hk (fun _ h => h.2)) (fun _ h => h.1)); replace HB := am_ hb; replace HI202 := am_ hi; (try clear hb); (try clear hb2); (try clear hk); (try clear hi)) | ((with_reducible refine Sh.k 15 ?_); refine Sh.gL (some 19) Try.func15 #[.pointer (some ⟨gb202, 0, none⟩), .int .i64 9] (h := ?_); (with_reducible refine (spec_l1Cur_pick.calls gb202 l0 t210 t211 9 t212 t213 t214 w _ ?side1 ?side2 A4.out).mono ?_); (case side1 => repeat (first | (with_reducible first | exact HI202.out | apply IsS39.alloc | apply IsS39.drewN | apply IsS39.drew | apply IsS39.set_1 | apply IsS39.set_2) | exact HI202.out)); (case side2 => repeat (first | (with_reducible first | exact HB.out | apply below_alloc | apply pw_below_drewN | apply below_drew1 | refine below_set ?_ (IsS39.ge HI202.out)) | exact HB.out)); rintro e w12 ⟨rfl, hi, hb, hk⟩; refine ⟨_, rfl, ?_⟩; replace HO205 := am_ (Kd.R_mono (Kd.R_keep (IsS39.apart (show IsS39 w _ gb202 l0 t210 t211 from by repeat (first | (with_reducible first | exact HI202.out | apply IsS39.alloc | apply IsS39.drewN | apply IsS39.drew | apply IsS39.set_1 | apply IsS39.set_2) | exact HI202.out)) (Sh.rl HO205.out) (by decide)) hk (fun _ h => h.2)) (fun _ h => h.1)); replace HB := am_ hb; replace HI202 := am_ hi; (try clear hb); (try clear hb2); (try clear hk); (try clear hi)) | ((with_reducible refine Sh.k 25 ?_); refine Sh.gL (some 22) Try.func25 #[.pointer (some ⟨gb202, 0, none⟩), .int .i64 (wrap64 ((wrap64 (t206 * t209)) + (wrap64 (Int.tdiv t212 8))))] (h := ?_); (with_reducible refine (spec_l1Cur_bools.calls k gb202 l0 t213 t214 (wrap64 ((wrap64 (t206 * t209)) + (wrap64 (Int.tdiv t212 8)))) t215 t218 t219 w _ ?side1 ?side2 A5.out).mono ?_); (case side1 => repeat (first | (with_reducible first | exact HI202.out | apply IsS39.alloc | apply IsS39.drewN | apply IsS39.drew | apply IsS39.set_1 | apply IsS39.set_2) | exact HI202.out)); (case side2 => repeat (first | (with_reducible first | exact HB.out | apply below_alloc | apply pw_below_drewN | apply below_drew1 | refine below_set ?_ (IsS39.ge HI202.out)) | exact HB.out)); rintro e w13 ⟨v216, rfl, ho0, hi, hb, hk⟩; refine ⟨_, rfl, ?_⟩; replace HO205 := am_ (Kd.R_mono (Kd.R_keep (IsS39.apart (show IsS39 w _ gb202 l0 t213 t214 from by repeat (first | (with_reducible first | exact HI202.out | apply IsS39.alloc | apply IsS39.drewN | apply IsS39.drew | apply IsS39.set_1 | apply IsS39.set_2) | exact HI202.out)) (Sh.rl HO205.out) (by decide)) hk (fun _ h => h.2)) (fun _ h => h.1)); have HO217 := am_ (Kd.R_lower ho0 (below_size (by repeat (first | (with_reducible first | exact HB.out | apply below_alloc | apply pw_below_drewN | apply below_drew1 | refine below_set ?_ (IsS39.ge HI202.out)) | exact HB.out)))); replace HB := am_ hb; replace HI202 := am_ hi; (try clear hb); (try clear hb2); (try clear hk); (try clear hi); (try clear ho0)))
 go_ret2
 exact ⟨_, Sh.eR, Sh.rl HO217.out, by repeat (first | (with_reducible first | exact HB.out | apply below_alloc | apply pw_below_drewN | apply below_drew1 | refine below_set ?_ (IsS39.ge HI202.out)) | exact HB.out)⟩

end Go.Proofs.Ytfjbdmeokbfhaaa.P
namespace Go.Proofs.Ytfjbdmeokbfhaaa.P
open Go.RowKit Go.Proofs.YtfjbdmeokbfhaaaW.PrintWords Go.Proofs.YtfjbdmeokbfhaaaW.PrintLast Go.Proofs.YtfjbdmeokbfhaaaW.PrintMore Go.Proofs.Ytfjbdmeokbfhaaa.Hof
attribute [local go_sem] max2_int min2_int max_two min_two max_three min_three max_four min_four   -- for this text's walks alone
set_option linter.unusedVariables false
set_option linter.unusedSimpArgs false

/-! ### spec_l2Bool: function 26 -/
def spec_l2Bool.f (a0 : Bool) : Option (Int) := if a0 = true then (some 1) else (some 0)
set_option maxHeartbeats 8000000 in
set_option maxRecDepth 100000 in
theorem spec_l2Bool.calls (a0 : Bool) (r : Int) (w : World) (h : spec_l2Bool.f a0 = some r) :
  Calls Try.prog 26 #[.bool a0] w fun e w' => e = .returned (.int .u64 r) ∧ Drawn0 w w' := by
 have H := h
 clear h
 unfold spec_l2Bool.f at H
 by_cases c2 : a0 = true
 ·subst c2
  rw [if_pos rfl] at H
  obtain rfl := Option.some.inj H
  go_enter Try.func26, Try.ntmps26
  go_wp2
  go_ret
  exact ⟨Sh.es, Sh.dr⟩
 ·replace c2 := Bool.eq_false_iff.mpr c2
  subst c2
  rw [Sh.nf] at H
  obtain rfl := Option.some.inj H
  go_enter Try.func26, Try.ntmps26
  go_wp2
  go_ret
  exact ⟨Sh.es, Sh.dr⟩

end Go.Proofs.Ytfjbdmeokbfhaaa.P
namespace Go.Proofs.Ytfjbdmeokbfhaaa.P
open Go.RowKit Go.Proofs.YtfjbdmeokbfhaaaW.PrintWords Go.Proofs.YtfjbdmeokbfhaaaW.PrintLast Go.Proofs.YtfjbdmeokbfhaaaW.PrintMore Go.Proofs.Ytfjbdmeokbfhaaa.Hof
attribute [local go_sem] max2_int min2_int max_two min_two max_three min_three max_four min_four   -- for this text's walks alone
set_option linter.unusedVariables false
set_option linter.unusedSimpArgs false

/-! ### spec_StateFrom: function 12 -/
mutual
def spec_StateFrom.j0 : Nat → Int → List Bool → Bool → Option (List Int × Bool)
 | 0, _, _, _ => none
 | k + 1, x0, x1, x26 => if x26 = true then (some (([] : List Int), false)) else (if x0 = 0 then (none) else (if 0 ≤ (wrap64 ((x1.length : Int) / x0)) then (if (wrap64 ((x1.length : Int) / x0) : Int).toNat ≤ 35184372088832 then (spec_StateFrom.l0 k x0 (List.replicate (wrap64 ((x1.length : Int) / x0) : Int).toNat 0) x1 (x1.length : Int) 0) else (none)) else (none)))
def spec_StateFrom.l0 : Nat → Int → List Int → List Bool → Int → Int → Option (List Int × Bool)
 | 0, _, _, _, _, _ => none
 | k + 1, x0, x6, x32, x33, x34 => if x34 < x33 then (if 0 ≤ x34 then (if x34 < (x32.length : Int) then (if x0 = 0 then (none) else (if 0 ≤ (wrap64 (Int.tdiv x34 x0)) then (if (wrap64 (Int.tdiv x34 x0)) < (x6.length : Int) then ((spec_l2Bool.f (rdOf false x32 x34)).bind fun t227 => (if 0 ≤ (IntKind.u64.wrap (Int.tmod x34 x0)) then (spec_StateFrom.l0 k x0 (x6.set ((wrap64 (Int.tdiv x34 x0)) : Int).toNat (Go.bits .or .u64 (rd x6 (wrap64 (Int.tdiv x34 x0))) (shl .u64 t227 (IntKind.u64.wrap (Int.tmod x34 x0))))) x32 x33 (wrap64 (x34 + 1))) else (none))) else (none)) else (none))) else (none)) else (none)) else (some (x6, true))
end
def spec_StateFrom.f (k : Nat) (a0 : Int) (l1 : List Bool) : Option (List Int × Bool) := (spec_l5Wide.f a0).bind fun t220 => (if t220 = true then (if a0 = 0 then (none) else (if ((l1.length : Int) % a0) = 0 then ((spec_l1In.f (wrap64 ((l1.length : Int) / a0)) 1 4).bind fun t221 => (spec_StateFrom.j0 k a0 l1 (!t221))) else (spec_StateFrom.j0 k a0 l1 true))) else (spec_StateFrom.j0 k a0 l1 true))
theorem spec_StateFrom.mono_l : ∀ k, (∀ y0 y1 y2, LeO (spec_StateFrom.j0 k y0 y1 y2) (spec_StateFrom.j0 (k + 1) y0 y1 y2)) ∧ (∀ y0 y1 y2 y3 y4, LeO (spec_StateFrom.l0 k y0 y1 y2 y3 y4) (spec_StateFrom.l0 (k + 1) y0 y1 y2 y3 y4))
 | 0 => ⟨fun _ _ _ r h => by simp [spec_StateFrom.j0] at h, fun _ _ _ _ _ r h => by simp [spec_StateFrom.l0] at h⟩
 | k + 1 => by
  obtain ⟨ih0, ih1⟩ := spec_StateFrom.mono_l k
  and_intros <;> intros
  all_goals (first | unfold spec_StateFrom.j0 | unfold spec_StateFrom.l0)
  all_goals repeat' with_reducible first | apply ih0 | apply ih1 | exact LeO.refl _ | exact LeO.none _ | apply LeO.ite | refine LeO.bind ?_ fun _ => ?_
theorem spec_StateFrom.mono : ∀ a0 a1 k, LeO (spec_StateFrom.f k a0 a1) (spec_StateFrom.f (k + 1) a0 a1) := by
 intro a0 a1 k
 obtain ⟨ih0, ih1⟩ := spec_StateFrom.mono_l k
 unfold spec_StateFrom.f
 repeat' with_reducible first | apply ih0 | apply ih1 | exact LeO.refl _ | exact LeO.none _ | apply LeO.ite | refine LeO.bind ?_ fun _ => ?_
def spec_StateFrom.T7 : Bool × List (List Nat × List Nat) := (true, [([], []), ([], []), ([], []), ([1, 2], [1, 2]), ([0, 3], [0, 3]), ([4], [4]), ([], []), ([6], [6]), ([], []), ([], []), ([8, 9], [8, 9]), ([10], [10]), ([7, 11], [7, 11]), ([5, 12], [5, 12]), ([0, 3, 0, 1, 2, 3, 4, 5, 6, 7, 8, 9, 10, 11, 12, 13], [0, 3]), ([14, 13, 7, 0, 1, 2, 3, 4, 5, 6, 7, 8, 9, 10, 11, 12, 13], [13, 14])])
def spec_StateFrom.B7 : List Nat := [0, 0, 0, 6, 15, 31, 0, 64, 0, 0, 768, 1792, 4032, 8191, 16383, 32767]
theorem spec_StateFrom.tab7 : rtab .any (opsOf Try.f12 7) = spec_StateFrom.T7 := by kernel_rfl
theorem spec_StateFrom.bits7 : waitsOk spec_StateFrom.T7.2 spec_StateFrom.B7 = true := by kernel_rfl
set_option maxHeartbeats 8000000 in
set_option maxRecDepth 100000 in
theorem spec_StateFrom.calls (k : Nat) (a0 : Int) (A1 : Option Addr) (c1 : Nat) (l1 : List Bool) (r1 : List Int) (r2 : Bool) (w : World) (hr1 : Kd.C Kd.bool w A1 l1.length l1) (hc1 : l1.length ≤ c1) (h : spec_StateFrom.f k a0 l1 = some (r1, r2)) :
  Calls Try.prog 12 #[.int .i64 a0, .slice A1 l1.length c1] w fun e w' => ∃ v0_ : Value, e = .returned (.tuple #[v0_, .bool r2]) ∧ Kd.R (Kd.int .u64) 37 w' w.heap.size (fun _ => True) v0_ r1 ∧ Below w.heap.size w w' := by
 have HR1 := am_ hr1
 have HC1 := am_ hc1
 clear hr1 hc1
 have HB := am_ (Below.refl w.heap.size w)
 have H := h
 clear h
 unfold spec_StateFrom.f at H
 have HC3 := am_ H
 clear H
 go_enter Try.func12, Try.ntmps12
 go_upto_region 1 with (fail)
 go_cut [26] (fun v26 wc => ∃ (kq : Nat) (x26_2 : Bool), v26 = .bool x26_2 ∧ Aside0 (spec_StateFrom.j0 kq a0 l1 x26_2 = some (r1, r2)) ∧ Aside0 (kq ≤ k) ∧ Aside0 (Below w.heap.size w wc))
 case first =>
  have H := HC3.out
  clear HC3
  obtain ⟨t220, A4, H⟩ := Sh.ba H
  by_cases c5 : t220 = true
  ·subst c5
   rw [if_pos rfl] at H
   by_cases c6 : a0 = 0
   ·rw [if_pos c6] at H
    exact absurd H (by simp)
   ·rw [if_neg c6] at H
    have c6b0 : (a0 == 0) = false := beq_eq_false_iff_ne.mpr c6
    have c6b1 : (a0 != 0) = true := bne_iff_ne.mpr c6
    first | rw [c6b0] | (simp only [i64_w, i32_w]; rw [c6b0]) | skip
    by_cases c7 : ((l1.length : Int) % a0) = 0
    ·rw [if_pos c7] at H
     have c7b0 : (((l1.length : Int) % a0) == 0) = true := beq_iff_eq.mpr c7
     have c7b1 : (((l1.length : Int) % a0) != 0) = false := bne_eq_false_iff_eq.mpr c7
     clear c7
     obtain ⟨t221, A8, H⟩ := Sh.ba H
     have H' := am_ H
     clear H
     go_wp2_with (first | ((with_reducible refine Sh.k 18 ?_); refine Sh.gD (some 10) Try.func18 #[.int .i64 a0] (spec_l5Wide.calls a0 true _ A4.out) fun nd => ?_) | (go_at_call 19; (with_reducible refine (spec_l1In.calls (wrap64 ((l1.length : Int) / a0)) 1 4 t221 _ A8.out).mono ?_); rintro e w' ⟨rfl, ⟨nd, rfl⟩⟩))
     go_meet
     case rel => exact ⟨_, (!t221), (Sh.es), H', ⟨Sh.om⟩, ⟨Sh.bw⟩⟩
    ·rw [if_neg c7] at H
     have c7b0 : (((l1.length : Int) % a0) == 0) = false := beq_eq_false_iff_ne.mpr c7
     have c7b1 : (((l1.length : Int) % a0) != 0) = true := bne_iff_ne.mpr c7
     have H' := am_ H
     clear H
     go_wp2_with (first | ((with_reducible refine Sh.k 18 ?_); refine Sh.gD (some 10) Try.func18 #[.int .i64 a0] (spec_l5Wide.calls a0 true _ A4.out) fun nd => ?_))
     go_meet
     case rel => exact ⟨_, (true), (Sh.es), H', ⟨Sh.om⟩, ⟨Sh.bw⟩⟩
  ·replace c5 := Bool.eq_false_iff.mpr c5
   subst c5
   rw [Sh.nf] at H
   have H' := am_ H
   clear H
   go_wp2_with (first | ((with_reducible refine Sh.k 18 ?_); refine Sh.gD (some 10) Try.func18 #[.int .i64 a0] (spec_l5Wide.calls a0 false _ A4.out) fun nd => ?_))
   go_meet
   case rel => exact ⟨_, (true), (Sh.es), H', ⟨Sh.om⟩, ⟨Sh.bw⟩⟩
 case rest =>
  clear HC3
  obtain ⟨kq, x26_2, rfl, HA, HJ2, HB⟩ := hcut
  cases kq with
  | zero => exact absurd HA.out (by simp [spec_StateFrom.j0])
  | succ kj2 =>
   have H := HA.out
   clear HA
   simp only [spec_StateFrom.j0] at H
   by_cases c9 : x26_2 = true
   ·subst c9
    rw [if_pos rfl] at H
    simp only [Option.some.injEq, Prod.mk.injEq] at H
    obtain ⟨rfl, rfl⟩ := H
    go_wp2
    go_ret2
    exact ⟨_, Sh.eR, by first | exact Kd.R_nil _ _ _ _ _ | exact Kd.N_nil _ _ _ _ _ | exact Kd.V_nil _ _ _ _ _ | exact Kd.Q_nil _ _ _ _ _ | exact Kd.S_nil _ _ _ _ _, Sh.bw⟩
   ·replace c9 := Bool.eq_false_iff.mpr c9
    subst c9
    rw [Sh.nf] at H
    by_cases c10 : a0 = 0
    ·rw [if_pos c10] at H
     exact absurd H (by simp)
    ·rw [if_neg c10] at H
     have c10b0 : (a0 == 0) = false := beq_eq_false_iff_ne.mpr c10
     have c10b1 : (a0 != 0) = true := bne_iff_ne.mpr c10
     obtain ⟨ji11, hj1⟩ : ∃ j_ : Int, (wrap64 ((l1.length : Int) / a0)) = j_ := ⟨_, rfl⟩
     replace H : (if 0 ≤ (ji11) then (if (ji11 : Int).toNat ≤ 35184372088832 then (spec_StateFrom.l0 kj2 a0 (List.replicate (ji11 : Int).toNat 0) l1 (l1.length : Int) 0) else (none)) else (none)) = some (r1, r2) := by first | (rw [hj1] at H; exact H) | (simp only [hj1] at H ⊢; exact H)
     have hji11w : (IntKind.i64.wrap ((l1.length : Int) / a0)) = ji11 := (i64_w _).trans hj1
     by_cases c12 : 0 ≤ (ji11)
     ·rw [if_pos c12] at H
      have c12b0 := eq_true c12
      have c12b1 := decide_eq_true c12
      clear c12
      by_cases c13 : (ji11 : Int).toNat ≤ 35184372088832
      ·rw [if_pos c13] at H
       have c13b0 := eq_true c13
       have c13b1 := decide_eq_true c13
       clear c13
       obtain ⟨y222, hy222⟩ : ∃ y_ : List Int, y_ = (List.replicate (ji11 : Int).toNat 0) := ⟨_, rfl⟩
       replace H : (spec_StateFrom.l0 kj2 a0 y222 l1 (l1.length : Int) 0) = some (r1, r2) := by first | (rw [hy222]; with_reducible exact H) | (have H2_ := (Option.bind_some _ _).symm.trans H; rw [hy222]; with_reducible exact H2_) | (have H2_ := (Option.bind_some _ _).symm.trans H; with_reducible exact H2_) | with_reducible exact H | (rw [hy222]; exact H) | exact H
       have Ny222 := am_ hy222
       clear hy222
       have H' := am_ H
       clear H
       go_wp2_with (first | ((with_reducible refine Sh.d 31 ?_); (try (refine gate_guard (by rfl) ?_; dsimp only)); refine Kd.R_make (Kd.int .u64) _ 37 rfl (N := 31) rfl 24 _ _ rfl ji11 rfl rfl Try.underlying24 (.int .u64 0) 8 info37 rfl (by decide) (by omega) 0 (ok := fun _ => True) (okp := fun _ => True) rfl (fun _ hk => hk) trivial (of_decide_eq_true (by first | (with_reducible assumption) | assumption)) (Nat.le_trans (Nat.mul_le_mul_right _ (of_decide_eq_true (by first | (with_reducible assumption) | assumption) : ji11.toNat ≤ 35184372088832)) (by omega)) (Below.refl _ _) (Nat.le_refl _) ?_; intro v223 w14 ho15 hb hg_ hnew_; clear hg_ hnew_; (first | rw [← Ny222.out] at ho15 | (simp only [Int.reduceToNat] at ho15; rw [← Ny222.out] at ho15)); have HO224 := am_ (Kd.R_lower ho15 (below_size Sh.bw)); replace HB := Sh.hb hb; clear hb ho15))
       go_loopg [34] kj2 (fun kq v34 w' => ∃ (x6_2 : List Int) (x34_2 : Int), v34 = .int .i64 x34_2 ∧ Aside0 (spec_StateFrom.l0 kq a0 x6_2 l1 (l1.length : Int) x34_2 = some (r1, r2)) ∧ Aside0 (kq ≤ kj2) ∧ Aside0 (Kd.R (Kd.int .u64) 37 w' w.heap.size (fun _ => True) v223 x6_2) ∧ Aside0 (Below w.heap.size w w'))
       case atStart => exact ⟨(y222), (0), (Sh.es), H', ⟨Nat.le_refl _⟩, ⟨Sh.rl HO224.out⟩, ⟨Sh.bw⟩⟩
       case round =>
        clear H'
        obtain ⟨x6_2, x34_2, rfl, HA, HK2, HO_6, HB⟩ := hrel
        cases gk with
        | zero => exact absurd HA.out (by simp [spec_StateFrom.l0])
        | succ k2 =>
         have H := HA.out
         clear HA
         simp only [spec_StateFrom.l0] at H
         by_cases c16 : x34_2 < (l1.length : Int)
         ·rw [if_pos c16] at H
          have c16b0 := decide_eq_true c16
          clear c16
          by_cases c17 : 0 ≤ x34_2
          ·rw [if_pos c17] at H
           have c17b0 := decide_eq_true c17
           clear c17
           by_cases c18 : x34_2 < (l1.length : Int)
           ·rw [if_pos c18] at H
            have c18b0 := decide_eq_true c18
            clear c18
            by_cases c19 : a0 = 0
            ·rw [if_pos c19] at H
             exact absurd H (by simp)
            ·rw [if_neg c19] at H
             have c19b0 : (a0 == 0) = false := beq_eq_false_iff_ne.mpr c19
             have c19b1 : (a0 != 0) = true := bne_iff_ne.mpr c19
             obtain ⟨ji20, hj2⟩ : ∃ j_ : Int, (wrap64 (Int.tdiv x34_2 a0)) = j_ := ⟨_, rfl⟩
             have hj3 := hj1; (try rw [hj2] at hj3)
             replace H : (if 0 ≤ (ji20) then (if (ji20) < (x6_2.length : Int) then ((spec_l2Bool.f (rdOf false l1 x34_2)).bind fun t227 => (if 0 ≤ (IntKind.u64.wrap (Int.tmod x34_2 a0)) then (spec_StateFrom.l0 k2 a0 (x6_2.set ((ji20) : Int).toNat (Go.bits .or .u64 (rd x6_2 (ji20)) (shl .u64 t227 (IntKind.u64.wrap (Int.tmod x34_2 a0))))) l1 (l1.length : Int) (wrap64 (x34_2 + 1))) else (none))) else (none)) else (none)) = some (r1, r2) := by first | (rw [hj2] at H; exact H) | (simp only [hj2] at H ⊢; exact H)
             have hji20w : (IntKind.i64.wrap (Int.tdiv x34_2 a0)) = ji20 := (i64_w _).trans hj2
             by_cases c21 : 0 ≤ (ji20)
             ·rw [if_pos c21] at H
              have c21b0 := decide_eq_true c21
              clear c21
              by_cases c22 : (ji20) < (x6_2.length : Int)
              ·rw [if_pos c22] at H
               have c22b0 := decide_eq_true c22
               clear c22
               obtain ⟨t227, A23, H⟩ := Sh.ba H
               obtain ⟨ji24, hj4⟩ : ∃ j_ : Int, (IntKind.u64.wrap (Int.tmod x34_2 a0)) = j_ := ⟨_, rfl⟩
               have hj5 := hj1; (try rw [hj4] at hj5)
               have hj6 := hj2; (try rw [hj4] at hj6)
               replace H : (if 0 ≤ (ji24) then (spec_StateFrom.l0 k2 a0 (x6_2.set ((ji20) : Int).toNat (Go.bits .or .u64 (rd x6_2 (ji20)) (shl .u64 t227 (ji24)))) l1 (l1.length : Int) (wrap64 (x34_2 + 1))) else (none)) = some (r1, r2) := by first | (rw [hj4] at H; exact H) | (simp only [hj4] at H ⊢; exact H)
               (try rw [hj4] at A23)
               by_cases c25 : 0 ≤ (ji24)
               ·rw [if_pos c25] at H
                have c25b0 := eq_true c25
                have c25b1 := decide_eq_true c25
                clear c25
                obtain ⟨ji26, hj7⟩ : ∃ j_ : Int, (shl .u64 t227 (ji24)) = j_ := ⟨_, rfl⟩
                have hj8 := hj1; (try rw [hj7] at hj8)
                have hj9 := hj2; (try rw [hj7] at hj9)
                have hj10 := hj4; (try rw [hj7] at hj10)
                replace H : (spec_StateFrom.l0 k2 a0 (x6_2.set ((ji20) : Int).toNat (Go.bits .or .u64 (rd x6_2 (ji20)) (ji26))) l1 (l1.length : Int) (wrap64 (x34_2 + 1))) = some (r1, r2) := by first | (rw [hj7] at H; exact H) | (simp only [hj7] at H ⊢; exact H)
                (try rw [hj7] at A23)
                have hji26_ : (IntKind.u64.wrap (t227 * 2 ^ min (ji24).toNat 64)) = ji26 := hj7
                have hji26z : (ji24) ≤ 64 → (IntKind.u64.wrap (t227 * 2 ^ (ji24).toNat)) = ji26 := shl_small hj7
                obtain ⟨y228, hy228⟩ : ∃ y_ : List Int, y_ = (x6_2.set ((ji20) : Int).toNat (Go.bits .or .u64 (rd x6_2 (ji20)) (ji26))) := ⟨_, rfl⟩
                replace H : (spec_StateFrom.l0 k2 a0 y228 l1 (l1.length : Int) (wrap64 (x34_2 + 1))) = some (r1, r2) := by first | (rw [hy228]; with_reducible exact H) | (have H2_ := (Option.bind_some _ _).symm.trans H; rw [hy228]; with_reducible exact H2_) | (have H2_ := (Option.bind_some _ _).symm.trans H; with_reducible exact H2_) | with_reducible exact H | (rw [hy228]; exact H) | exact H
                have Ny228 := am_ hy228
                clear hy228
                have H' := am_ H
                clear H
                have p225 : 0 ≤ (x34_2 : Int) := Sh.od
                have q225 : x34_2 < (l1.length : Int) := Sh.od
                obtain ⟨ad225, e225, hx225_0⟩ := Kd.at_bool HR1.out x34_2 p225 q225
                cases e225
                try replace hx225_0 := Sh.cw hx225_0
                replace p225 := eq_true p225
                replace q225 := eq_true q225
                try go_wp2
                replace HO_6 := am_ (Kd.R_drew HO_6.out)
                replace HB := am_ (below_drew1 HB.out)
                obtain ⟨Ao29, co29, eo29⟩ := Kd.R_slice HO_6.out
                (first | subst eo29 | (injection eo29 with f1_ f2_ f3_; have f4_ := f1_.symm; have f5_ := f3_.symm; clear f1_ f2_ f3_; subst f4_; subst f5_))
                have p226 : 0 ≤ ((ji20) : Int) := Sh.od
                have q226 : (ji20) < (x6_2.length : Int) := Sh.od
                obtain ⟨ad226, e226, hx226_0⟩ := Kd.at_int (Kd.R_reads' HO_6.out).2.2 (ji20) p226 q226
                cases e226
                replace p226 := eq_true p226
                replace q226 := eq_true q226
                refine start_ (n := 16) (S := fun w' => w'.cell? (ad226.add ((ji20)).toNat) = some (.int .u64 (rd x6_2 (ji20)))) (ds := [15]) (Sh.nm 16 0) (by kernel_rfl) rfl rfl (hx226_0) (fun hHeld => ?_); refine with_tabW spec_StateFrom.tab7 spec_StateFrom.bits7 (fun HT_ HW_ => ?_)
                generalize wr.drew = w28 at HO_6 HB hx226_0 hHeld ⊢
                refine Sh.qA 0 ?_; refine Sh.qA 1 ?_; refine Sh.qA 2 ?_; refine Sh.qA 3 ?_; refine Sh.qA 4 ?_; refine Sh.qA 6 ?_; refine Sh.qA 8 ?_; refine Sh.qA 9 ?_; refine Sh.qA 10 ?_; refine Sh.qA 11 ?_; refine Sh.qT 5 hHeld ?_
                refine Sh.oC 7 Try.func26 #[.bool (rdOf false l1 x34_2)] fun K hK => ?_
                with_reducible refine (spec_l2Bool.calls (rdOf false l1 x34_2) t227 _ A23.out).mono ?_
                rintro e w' ⟨rfl, ⟨nd, rfl⟩⟩
                refine ⟨_, rfl, ?_⟩
                have p27 : 0 ≤ ((ji20) : Int) := Sh.od
                have q27 : ((ji20) : Int) < ((x6_2.length : Int) : Int) := Sh.od
                obtain ⟨go27, co27, eo27, gb27, gl27, cl27, HG27⟩ := Kd.R_form HO_6.out (by omega)
                (first | cases eo27 | (injection eo27 with ea_ en_ ec_; (first | subst ea_ | (injection ea_ with ea_; subst ea_)); subst ec_; clear en_))
                have GB27 := am_ gb27
                have GG27 := am_ HG27
                clear gb27 gl27 HG27
                (first | simp only [add_plain] at hx226_0 | skip)
                obtain ⟨hx27_0, hf27_0⟩ := Kd.R_celln 0 HO_6.out ((ji20) : Int) p27 q27
                replace p27 := eq_true p27
                replace q27 := eq_true q27
                have HP30 := Kd.R_putn HO_6.out ((ji20) : Int) (Go.bits .or .u64 (rd x6_2 (ji20)) (ji26))
                rw [← Ny228.out] at HP30
                have HQ30 := am_ HP30
                clear HP30
                refine hK.out _ _ (hHeld) (fun hHeld => ?_)
                clear hK K
                refine norm_ (a' := ?_) ?_ ?_
                rotate_left
                ·show Act.put _ (some 46) _ = _
                 simp only [Act.put, List.setIfInBounds_toArray, List.set_cons_zero, List.set_cons_succ, i64_w, i32_w, hj1, hj3, hj2, hj5, hj6, hj4, hj8, hj9, hj10, hj7]
                 rfl
                refine Sh.qA 12 ?_; refine Sh.qA 13 ?_; refine Sh.qA 14 ?_
                refine last_ (i := 15) (N := none) (Sh.nm 16 65535) rfl rfl (one_of HT_.out (by kernel_rfl)) (by decide) (fun K hK => ?_)
                refine skip_ (w1 := ?_) (by rfl) rfl ?_ ?_
                rotate_left
                ·go_simp
                 rfl
                refine hK.out _ _ ?_
                clear hK K
                refine done_ (done_of HT_.out (by kernel_rfl)) ?_
                try go_wp2
                go_roundg k2
                case measure => have := HJ2.out; have := HK2.out; omega
                case rel => exact ⟨(y228), (wrap64 (x34_2 + 1)), (Sh.es), H', ⟨by have := HJ2.out; have := HK2.out; omega⟩, ⟨by (with_reducible repeat (first | apply Kd.R_alloc | apply Kd.R_drewN | apply Kd.R_drew)); exact HQ30.out⟩, ⟨Sh.bw⟩⟩
               ·rw [if_neg c25] at H
                exact absurd H (by simp)
              ·rw [if_neg c22] at H
               exact absurd H (by simp)
             ·rw [if_neg c21] at H
              exact absurd H (by simp)
           ·rw [if_neg c18] at H
            exact absurd H (by simp)
          ·rw [if_neg c17] at H
           exact absurd H (by simp)
         ·rw [if_neg c16] at H
          have c16b0 := decide_eq_false c16
          clear c16
          simp only [Option.some.injEq, Prod.mk.injEq] at H
          obtain ⟨rfl, rfl⟩ := H
          go_wp2
          go_ret2
          exact ⟨_, by first | rfl | (simp [errW_none, errW_some] <;> rfl) | (simp only [← hj1]; first | rfl | (simp [errW_none, errW_some] <;> rfl)) | (simp [*, errW_none, errW_some] <;> rfl), Sh.rl HO_6.out, Sh.bw⟩
      ·rw [if_neg c13] at H
       exact absurd H (by simp)
     ·rw [if_neg c12] at H
      exact absurd H (by simp)

end Go.Proofs.Ytfjbdmeokbfhaaa.P
