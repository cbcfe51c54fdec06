/- Go functions of this seat as Lean functions, and the proofs that the calls come to what these say; printed by a program of this session. No condition. -/
import Derived.Test.YtejlobcjgbeeaaaP0
set_option linter.unusedVariables false
set_option linter.unusedSimpArgs false
set_option maxHeartbeats 40000000
set_option maxRecDepth 100000
namespace Go.Proofs.Ytejlobcjgbeeaaa.P
open Go.RowKit Go.Proofs.YtejlobcjgbeeaaaW.PrintWords Go.Proofs.YtejlobcjgbeeaaaW.PrintLast Go.Proofs.YtejlobcjgbeeaaaW.PrintMore Go.Proofs.Ytejlobcjgbeeaaa.Hof
attribute [local go_sem] max2_int min2_int max_two min_two max_three min_three max_four min_four
theorem eqA66 (d : Nat) (w : World) (x0 y0 : Int) (x1 y1 : Int) (x2 y2 : Int) :
  (Op.equalIn (d + 2) 66 (.agg #[.int .i64 x0, .int .i64 x1, .int .i64 x2]) (.agg #[.int .i64 y0, .int .i64 y1, .int .i64 y2])).run Try.prog w = .ok (x0 == y0 && (x1 == y1 && (x2 == y2))) w := by
 refine eqA_of Try.underlying66 (by kernel_rfl) ?_
 refine eqf_cons (by rfl) (by go_simp; rfl) (by go_simp; rfl) (by go_simp) ?_
 refine eqf_cons (by rfl) (by go_simp; rfl) (by go_simp; rfl) (by go_simp) ?_
 exact eqf_last (by rfl) (by go_simp; rfl) (by go_simp; rfl) (by go_simp)
def laws_big.f (l0 : List Int) (l1 : List Int) : Option (Bool) := if (l0.length : Int) > 1048576 then (some true) else (some (decide ((l1.length : Int) > (wrap64 (1048576 - (l0.length : Int))))))
theorem laws_big.calls (A0 : Option Addr) (c0 : Nat) (l0 : List Int) (A1 : Option Addr) (c1 : Nat) (l1 : List Int) (r : Bool) (w : World) (hr0 : Kd.C (Kd.int .u8) w A0 l0.length l0) (hc0 : l0.length ≤ c0) (hr1 : Kd.C (Kd.int .u8) w A1 l1.length l1) (hc1 : l1.length ≤ c1) (h : laws_big.f l0 l1 = some r) :
  Calls Try.prog 5 #[.slice A0 l0.length c0, .slice A1 l1.length c1] w fun e w' => e = .returned (.bool r) ∧ Drawn0 w w' := by
 have HR0 := am_ hr0
 have HC0 := am_ hc0
 clear hr0 hc0
 have HR1 := am_ hr1
 have HC1 := am_ hc1
 clear hr1 hc1
 have H := h
 clear h
 unfold laws_big.f at H
 by_cases c3 : (l0.length : Int) > 1048576
 ·rw [if_pos c3] at H
  have c3b0 : decide (1048576 < (l0.length : Int)) = true := decide_eq_true c3
  have c3b1 : decide (1048576 < l0.length) = true := decide_eq_true (by omega)
  clear c3
  obtain rfl := Option.some.inj H
  go_enter Try.func5, Try.ntmps5
  go_wp2
  go_ret
  exact ⟨Sh.es, Sh.dr⟩
 ·rw [if_neg c3] at H
  have c3b0 : decide (1048576 < (l0.length : Int)) = false := decide_eq_false c3
  have c3b1 : decide (1048576 < l0.length) = false := decide_eq_false (by omega)
  clear c3
  obtain rfl := Option.some.inj H
  go_enter Try.func5, Try.ntmps5
  go_wp2
  go_ret
  exact ⟨Sh.es, Sh.dr⟩
/-- A state of type 49 at block g of W; what its slices lead to came in by w0. -/
def IsS49 (w0 W : World) (g : Nat) (f0 : List Int) (f1 : Int) (f2 : Int) : Prop := ∃ A0 c0, W.heap[g]? = some (.cells #[.slice A0 f0.length c0, .int .i64 f1, .int .u64 f2] 49 (0, 0)) ∧ w0.heap.size ≤ g ∧ Kd.C (Kd.int .u8) w0 A0 f0.length f0
theorem IsS49.grown {w0 W : World} {g : Nat} {f0 : List Int} {f1 : Int} {f2 : Int} {W1 : World} {row : Option Nat} (h : IsS49 w0 W g f0 f1 f2) (hw : W.grownBy W1 row) (hne : some g ≠ row) : IsS49 w0 W1 g f0 f1 f2 := by
 obtain ⟨A0, c0, hb, hg, hr0⟩ := h
 exact ⟨A0, c0, blk_grown hb hw hne, hg, hr0⟩
theorem IsS49.own_neN {w0 W : World} {g : Nat} {f0 : List Int} {f1 : Int} {f2 : Int} {α : Type} {d : Kd α} {e : Nat} {base : Nat} {ok : Nat → Prop} {v : Value} {xs : List α} (h : IsS49 w0 W g f0 f1 f2) (ho : Kd.N d e W base ok v xs) (ht : e ≠ 49) : some g ≠ v.ownBlock := by
 obtain ⟨A0, c0, hb, hg, hr0⟩ := h
 exact Kd.N_ne ho hb ht
theorem IsS49.fresh {w0 W : World} {g : Nat} {f0 : List Int} {f1 : Int} {f2 : Int} (h : IsS49 w0 W g f0 f1 f2) : ∀ k, W.heap.size ≤ k → k ≠ g := by
 obtain ⟨A0, c0, hb, hg, hr0⟩ := h
 exact Kd.freshB hb
theorem IsS49.kept {w0 W : World} {g : Nat} {f0 : List Int} {f1 : Int} {f2 : Int} {W1 : World} {S : Nat → Prop} (h : IsS49 w0 W g f0 f1 f2) (hk : Kept W W1 S) (hne : ¬ S g) : IsS49 w0 W1 g f0 f1 f2 := by
 obtain ⟨A0, c0, hb, hg, hr0⟩ := h
 exact ⟨A0, c0, blk_kept hb hk hne, hg, hr0⟩
theorem IsS49.below {w0 W : World} {g : Nat} {f0 : List Int} {f1 : Int} {f2 : Int} {W1 : World} (h : IsS49 w0 W g f0 f1 f2) (hw : Below W.heap.size W W1) : IsS49 w0 W1 g f0 f1 f2 := h.grown (grown_of_below hw none) (by simp)
theorem IsS49.alloc {w0 W : World} {g : Nat} {f0 : List Int} {f1 : Int} {f2 : Int} (h : IsS49 w0 W g f0 f1 f2) (o : Obj) : IsS49 w0 (W.alloc o) g f0 f1 f2 := h.below (below_alloc (Below.refl _ _) o)
theorem IsS49.drewN {w0 W : World} {g : Nat} {f0 : List Int} {f1 : Int} {f2 : Int} (h : IsS49 w0 W g f0 f1 f2) (m : Nat) : IsS49 w0 (W.drewN m) g f0 f1 f2 := h
theorem IsS49.drew {w0 W : World} {g : Nat} {f0 : List Int} {f1 : Int} {f2 : Int} (h : IsS49 w0 W g f0 f1 f2) : IsS49 w0 W.drew g f0 f1 f2 := h
theorem IsS49.at_ {w0 W : World} {g : Nat} {f0 : List Int} {f1 : Int} {f2 : Int} {w' : World} {m : Nat} (hq : W.drewN m = w') (h : IsS49 w0 W g f0 f1 f2) : IsS49 w0 w' g f0 f1 f2 := by subst hq; exact IsS49.drewN h m
theorem IsS49.apart {w0 W : World} {g : Nat} {f0 : List Int} {f1 : Int} {f2 : Int} {α : Type} {d : Kd α} {e : Nat} {base : Nat} {ok : Nat → Prop} {v : Value} {xs : List α} (h : IsS49 w0 W g f0 f1 f2) (ho : d.R e W base ok v xs) (ht : ∀ q, q ∈ e :: d.E → q ≠ 49) : d.R e W base (fun k => ok k ∧ k ≠ g) v xs := by
 obtain ⟨A0, c0, hb, hg, hr0⟩ := h
 exact Kd.R_types ho hb ht
theorem IsS49.own_ne {w0 W : World} {g : Nat} {f0 : List Int} {f1 : Int} {f2 : Int} {α : Type} {d : Kd α} {e : Nat} {base : Nat} {ok : Nat → Prop} {v : Value} {xs : List α} (h : IsS49 w0 W g f0 f1 f2) (ho : d.R e W base ok v xs) (ht : e ≠ 49) : some g ≠ v.ownBlock := by
 obtain ⟨A0, c0, hb, hg, hr0⟩ := h
 exact Kd.R_ne ho hb ht
theorem IsS49.apartQ {w0 W : World} {g : Nat} {f0 : List Int} {f1 : Int} {f2 : Int} {α : Type} {d : Kd α} {e : Nat} {base : Nat} {ok : Nat → Prop} {v : Value} {xs : List α} (h : IsS49 w0 W g f0 f1 f2) (ho : d.Q e W base ok v xs) (ht : ∀ q, q ∈ e :: d.E → q ≠ 49) : d.Q e W base (fun k => ok k ∧ k ≠ g) v xs := by
 obtain ⟨A0, c0, hb, hg, hr0⟩ := h
 exact Kd.Q_types ho hb ht
theorem IsS49.own_neQ {w0 W : World} {g : Nat} {f0 : List Int} {f1 : Int} {f2 : Int} {α : Type} {d : Kd α} {e : Nat} {base : Nat} {ok : Nat → Prop} {v : Value} {xs : List α} (h : IsS49 w0 W g f0 f1 f2) (ho : d.Q e W base ok v xs) (ht : e ≠ 49) : some g ≠ v.ownBlock := by
 obtain ⟨A0, c0, hb, hg, hr0⟩ := h
 exact Kd.Q_ne ho hb ht
theorem IsS49.apartS {w0 W : World} {g : Nat} {f0 : List Int} {f1 : Int} {f2 : Int} {α : Type} {d : Kd α} {e : Nat} {base : Nat} {ok : Nat → Prop} {v : Value} {xs : List α} (h : IsS49 w0 W g f0 f1 f2) (ho : d.S e W base ok v xs) (ht : ∀ q, q ∈ e :: d.E → q ≠ 49) : d.S e W base (fun k => ok k ∧ k ≠ g) v xs := by
 obtain ⟨A0, c0, hb, hg, hr0⟩ := h
 exact Kd.S_types ho hb ht
theorem IsS49.own_neS {w0 W : World} {g : Nat} {f0 : List Int} {f1 : Int} {f2 : Int} {α : Type} {d : Kd α} {e : Nat} {base : Nat} {ok : Nat → Prop} {v : Value} {xs : List α} (h : IsS49 w0 W g f0 f1 f2) (ho : d.S e W base ok v xs) (ht : e ≠ 49) : some g ≠ v.ownBlock := by
 obtain ⟨A0, c0, hb, hg, hr0⟩ := h
 exact Kd.S_ne ho hb ht
theorem IsS49.lt {w0 W : World} {g : Nat} {f0 : List Int} {f1 : Int} {f2 : Int} (h : IsS49 w0 W g f0 f1 f2) : g < W.heap.size := by
 obtain ⟨A0, c0, hb, hg, hr0⟩ := h
 exact blk_lt hb
theorem IsS49.ge {w0 W : World} {g : Nat} {f0 : List Int} {f1 : Int} {f2 : Int} (h : IsS49 w0 W g f0 f1 f2) : w0.heap.size ≤ g := by
 obtain ⟨A0, c0, hb, hg, hr0⟩ := h
 exact hg
theorem IsS49.ne_blk {w0 W : World} {g : Nat} {f0 : List Int} {f1 : Int} {f2 : Int} {a : Nat} {cs : Array Value} {t : TypeId} {fr : Nat × Nat} (h : IsS49 w0 W g f0 f1 f2) (hb2 : W.heap[a]? = some (.cells cs t fr)) (ht : t ≠ 49) : g ≠ a := by
 obtain ⟨A0, c0, hb, hg, hr0⟩ := h
 rintro rfl
 rw [hb] at hb2
 injection hb2 with hb2
 injection hb2 with _ ht2
 exact ht ht2.symm
theorem IsS49.far {w0 W : World} {g : Nat} {f0 : List Int} {f1 : Int} {f2 : Int} {p : Addr} (h : IsS49 w0 W g f0 f1 f2) (hne : g ≠ p.block) (u : Value) : IsS49 w0 (W.setCell p u) g f0 f1 f2 := by
 obtain ⟨A0, c0, hb, hg, hr0⟩ := h
 exact ⟨A0, c0, blk_far hb hne u, hg, hr0⟩
theorem cellS49_0 {W : World} {g : Nat} {A0 : Option Addr} {c0 : Nat} {f0 : List Int} {f1 : Int} {f2 : Int} (h : W.heap[g]? = some (.cells #[.slice A0 f0.length c0, .int .i64 f1, .int .u64 f2] 49 (0, 0))) : W.cell? ⟨g, 0, none⟩ = some (.slice A0 f0.length c0) := (blk_cell h 0).trans rfl
theorem cellS49_1 {W : World} {g : Nat} {A0 : Option Addr} {c0 : Nat} {f0 : List Int} {f1 : Int} {f2 : Int} (h : W.heap[g]? = some (.cells #[.slice A0 f0.length c0, .int .i64 f1, .int .u64 f2] 49 (0, 0))) : W.cell? ⟨g, 1, none⟩ = some (.int .i64 f1) := (blk_cell h 1).trans rfl
theorem IsS49.set_1 {w0 W : World} {g : Nat} {f0 : List Int} {f1 : Int} {f2 : Int} (h : IsS49 w0 W g f0 f1 f2) (x : Int) : IsS49 w0 (W.setCell ⟨g, 1, none⟩ (.int .i64 x)) g f0 x f2 := by
 obtain ⟨A0, c0, hb, hg, hr0⟩ := h
 exact ⟨A0, c0, by simpa using blk_set hb 1 (.int .i64 x), hg, hr0⟩
theorem cellS49_2 {W : World} {g : Nat} {A0 : Option Addr} {c0 : Nat} {f0 : List Int} {f1 : Int} {f2 : Int} (h : W.heap[g]? = some (.cells #[.slice A0 f0.length c0, .int .i64 f1, .int .u64 f2] 49 (0, 0))) : W.cell? ⟨g, 2, none⟩ = some (.int .u64 f2) := (blk_cell h 2).trans rfl
theorem IsS49.set_2 {w0 W : World} {g : Nat} {f0 : List Int} {f1 : Int} {f2 : Int} (h : IsS49 w0 W g f0 f1 f2) (x : Int) : IsS49 w0 (W.setCell ⟨g, 2, none⟩ (.int .u64 x)) g f0 f1 x := by
 obtain ⟨A0, c0, hb, hg, hr0⟩ := h
 exact ⟨A0, c0, by simpa using blk_set hb 2 (.int .u64 x), hg, hr0⟩
theorem IsS49.new (w0 W : World) (A0 : Option Addr) (c0 : Nat) (f0 : List Int) (f1 : Int) (f2 : Int) (hB : Below w0.heap.size w0 W) (hr0 : Kd.C (Kd.int .u8) w0 A0 f0.length f0) : IsS49 w0 (W.alloc (.cells #[.slice A0 f0.length c0, .int .i64 f1, .int .u64 f2] 49)) W.heap.size f0 f1 f2 := ⟨A0, c0, by simpa using heap_alloc_new W _, hB.size, hr0⟩

def spec_l1Cur_next.f (s0_0 : List Int) (s0_1 : Int) (s0_2 : Int) : Option (Int × Int × Int) := if s0_1 < (s0_0.length : Int) then (if 0 ≤ s0_1 then (if (wrap64 (s0_1 + 1)) ≤ (s0_0.length : Int) then (some (wrap64 (rd s0_0 s0_1), wrap64 (s0_1 + 1), IntKind.u64.wrap ((IntKind.u64.wrap ((IntKind.u64.wrap (s0_2 * 6364136223846793005)) + (IntKind.u64.wrap (wrap64 (rd s0_0 s0_1))))) + 1442695040888963407))) else (some (wrap64 (Go.bits .and .u64 ((IntKind.u64.wrap ((IntKind.u64.wrap ((IntKind.u64.wrap (s0_2 * 6364136223846793005)) + (IntKind.u64.wrap (wrap64 (rd s0_0 s0_1))))) + 1442695040888963407)) / 1099511627776) 255), wrap64 (s0_1 + 1), IntKind.u64.wrap ((IntKind.u64.wrap ((IntKind.u64.wrap (s0_2 * 6364136223846793005)) + (IntKind.u64.wrap (wrap64 (rd s0_0 s0_1))))) + 1442695040888963407)))) else (none)) else (if (wrap64 (s0_1 + 1)) ≤ (s0_0.length : Int) then (some (0, wrap64 (s0_1 + 1), IntKind.u64.wrap ((IntKind.u64.wrap ((IntKind.u64.wrap (s0_2 * 6364136223846793005)))) + 1442695040888963407))) else (some (wrap64 (Go.bits .and .u64 ((IntKind.u64.wrap ((IntKind.u64.wrap ((IntKind.u64.wrap (s0_2 * 6364136223846793005)))) + 1442695040888963407)) / 1099511627776) 255), wrap64 (s0_1 + 1), IntKind.u64.wrap ((IntKind.u64.wrap ((IntKind.u64.wrap (s0_2 * 6364136223846793005)))) + 1442695040888963407))))
theorem spec_l1Cur_next.calls (g : Nat) (s0_0 : List Int) (s0_1 : Int) (s0_2 : Int) (r1 : Int) (r2 : Int) (r3 : Int) (w0 w : World) (hI : IsS49 w0 w g s0_0 s0_1 s0_2) (hB : Below w0.heap.size w0 w) (h : spec_l1Cur_next.f s0_0 s0_1 s0_2 = some (r1, r2, r3)) :
  Calls Try.prog 50 #[.pointer (some ⟨g, 0, none⟩)] w fun e w' => e = .returned (.int .i64 r1) ∧ IsS49 w0 w' g s0_0 r2 r3 ∧ Below w0.heap.size w0 w' ∧ KeepBut w w' g none := by
 have HI0 := am_ hI
 have HK := am_ (KeepBut.refl w g none)
 have HL := am_ hB.size
 clear hI
 have HW0 := am_ hB.size
 have HB := am_ hB
 clear hB
 have H := h
 clear h
 unfold spec_l1Cur_next.f at H
 by_cases c2 : s0_1 < (s0_0.length : Int)
 ·rw [if_pos c2] at H
  have c2b0 := decide_eq_true c2
  clear c2
  by_cases c3 : 0 ≤ s0_1
  ·rw [if_pos c3] at H
   have c3b0 := decide_eq_true c3
   clear c3
   by_cases c4 : (wrap64 (s0_1 + 1)) ≤ (s0_0.length : Int)
   ·rw [if_pos c4] at H
    have c4b0 := decide_eq_true c4
    clear c4
    simp only [Option.some.injEq, Prod.mk.injEq] at H
    obtain ⟨rfl, rfl, rfl⟩ := H
    obtain ⟨ASz5_0, cSz5_0, HGz5, hgz5, HSz5_0⟩ := HI0.out
    have hcz5_0 := cellS49_0 HGz5
    have hcz5_1 := cellS49_1 HGz5
    have hcz5_2 := cellS49_2 HGz5
    have hfz5_1 := blk_frozen HGz5 1
    have hfz5_2 := blk_frozen HGz5 2
    clear HGz5 hgz5
    have p101 : 0 ≤ (s0_1 : Int) := Sh.od
    have q101 : s0_1 < (s0_0.length : Int) := Sh.od
    obtain ⟨ad101, e101, hx101_0⟩ := Kd.at_int HSz5_0 s0_1 p101 q101
    cases e101
    replace hx101_0 := pw_cell_below HB.out hx101_0
    replace p101 := eq_true p101
    replace q101 := eq_true q101
    go_enter Try.func50, Try.ntmps50
    go_wp2
    repeat (go_quiet (fail); try go_wp2)
    go_ret
    exact ⟨Sh.eR, by repeat (first | (with_reducible first | exact HI0.out | apply IsS49.alloc | apply IsS49.drewN | apply IsS49.drew | apply IsS49.set_1 | apply IsS49.set_2) | exact HI0.out), by repeat (first | (with_reducible first | exact HB.out | apply below_alloc | apply pw_below_drewN | apply below_drew1 | refine below_set ?_ (IsS49.ge HI0.out)) | exact HB.out), by repeat (first | (with_reducible first | exact HK.out | apply KeepBut.set_ | apply keep_drewN | apply keep_drew | apply keep_alloc) | exact HK.out)⟩
   ·rw [if_neg c4] at H
    have c4b0 := decide_eq_false c4
    clear c4
    simp only [Option.some.injEq, Prod.mk.injEq] at H
    obtain ⟨rfl, rfl, rfl⟩ := H
    obtain ⟨ASz6_0, cSz6_0, HGz6, hgz6, HSz6_0⟩ := HI0.out
    have hcz6_0 := cellS49_0 HGz6
    have hcz6_1 := cellS49_1 HGz6
    have hcz6_2 := cellS49_2 HGz6
    have hfz6_1 := blk_frozen HGz6 1
    have hfz6_2 := blk_frozen HGz6 2
    clear HGz6 hgz6
    have p101 : 0 ≤ (s0_1 : Int) := Sh.od
    have q101 : s0_1 < (s0_0.length : Int) := Sh.od
    obtain ⟨ad101, e101, hx101_0⟩ := Kd.at_int HSz6_0 s0_1 p101 q101
    cases e101
    replace hx101_0 := pw_cell_below HB.out hx101_0
    replace p101 := eq_true p101
    replace q101 := eq_true q101
    go_enter Try.func50, Try.ntmps50
    go_wp2
    repeat (go_quiet (fail); try go_wp2)
    go_ret
    exact ⟨Sh.eR, by repeat (first | (with_reducible first | exact HI0.out | apply IsS49.alloc | apply IsS49.drewN | apply IsS49.drew | apply IsS49.set_1 | apply IsS49.set_2) | exact HI0.out), by repeat (first | (with_reducible first | exact HB.out | apply below_alloc | apply pw_below_drewN | apply below_drew1 | refine below_set ?_ (IsS49.ge HI0.out)) | exact HB.out), by repeat (first | (with_reducible first | exact HK.out | apply KeepBut.set_ | apply keep_drewN | apply keep_drew | apply keep_alloc) | exact HK.out)⟩
  ·rw [if_neg c3] at H
   exact absurd H (by simp)
 ·rw [if_neg c2] at H
  have c2b0 := decide_eq_false c2
  clear c2
  by_cases c7 : (wrap64 (s0_1 + 1)) ≤ (s0_0.length : Int)
  ·rw [if_pos c7] at H
   have c7b0 := decide_eq_true c7
   clear c7
   simp only [Option.some.injEq, Prod.mk.injEq] at H
   obtain ⟨rfl, rfl, rfl⟩ := H
   obtain ⟨ASz8_0, cSz8_0, HGz8, hgz8, HSz8_0⟩ := HI0.out
   have hcz8_0 := cellS49_0 HGz8
   have hcz8_1 := cellS49_1 HGz8
   have hcz8_2 := cellS49_2 HGz8
   have hfz8_1 := blk_frozen HGz8 1
   have hfz8_2 := blk_frozen HGz8 2
   clear HGz8 hgz8
   go_enter Try.func50, Try.ntmps50
   go_wp2
   repeat (go_quiet (fail); try go_wp2)
   go_ret
   exact ⟨Sh.eR, by repeat (first | (with_reducible first | exact HI0.out | apply IsS49.alloc | apply IsS49.drewN | apply IsS49.drew | apply IsS49.set_1 | apply IsS49.set_2) | exact HI0.out), by repeat (first | (with_reducible first | exact HB.out | apply below_alloc | apply pw_below_drewN | apply below_drew1 | refine below_set ?_ (IsS49.ge HI0.out)) | exact HB.out), by repeat (first | (with_reducible first | exact HK.out | apply KeepBut.set_ | apply keep_drewN | apply keep_drew | apply keep_alloc) | exact HK.out)⟩
  ·rw [if_neg c7] at H
   have c7b0 := decide_eq_false c7
   clear c7
   simp only [Option.some.injEq, Prod.mk.injEq] at H
   obtain ⟨rfl, rfl, rfl⟩ := H
   obtain ⟨ASz9_0, cSz9_0, HGz9, hgz9, HSz9_0⟩ := HI0.out
   have hcz9_0 := cellS49_0 HGz9
   have hcz9_1 := cellS49_1 HGz9
   have hcz9_2 := cellS49_2 HGz9
   have hfz9_1 := blk_frozen HGz9 1
   have hfz9_2 := blk_frozen HGz9 2
   clear HGz9 hgz9
   go_enter Try.func50, Try.ntmps50
   go_wp2
   repeat (go_quiet (fail); try go_wp2)
   go_ret
   exact ⟨Sh.eR, by repeat (first | (with_reducible first | exact HI0.out | apply IsS49.alloc | apply IsS49.drewN | apply IsS49.drew | apply IsS49.set_1 | apply IsS49.set_2) | exact HI0.out), by repeat (first | (with_reducible first | exact HB.out | apply below_alloc | apply pw_below_drewN | apply below_drew1 | refine below_set ?_ (IsS49.ge HI0.out)) | exact HB.out), by repeat (first | (with_reducible first | exact HK.out | apply KeepBut.set_ | apply keep_drewN | apply keep_drew | apply keep_alloc) | exact HK.out)⟩
def spec_l1Cur_pick.f (s0_0 : List Int) (s0_1 : Int) (s0_2 : Int) (a1 : Int) : Option (Int × Int × Int) := if a1 ≤ 1 then (some (0, s0_1, s0_2)) else ((spec_l1Cur_next.f s0_0 s0_1 s0_2).bind fun bt102 => (if a1 > 200 then ((spec_l1Cur_next.f s0_0 bt102.2.1 bt102.2.2).bind fun bt105 => (if a1 = 0 then (none) else (some (Int.tmod (wrap64 ((wrap64 (bt102.1 * 256)) + bt105.1)) a1, bt105.2.1, bt105.2.2)))) else (if a1 = 0 then (none) else (some (Int.tmod bt102.1 a1, bt102.2.1, bt102.2.2)))))
theorem spec_l1Cur_pick.calls (g : Nat) (s0_0 : List Int) (s0_1 : Int) (s0_2 : Int) (a1 : Int) (r1 : Int) (r2 : Int) (r3 : Int) (w0 w : World) (hI : IsS49 w0 w g s0_0 s0_1 s0_2) (hB : Below w0.heap.size w0 w) (h : spec_l1Cur_pick.f s0_0 s0_1 s0_2 a1 = some (r1, r2, r3)) :
  Calls Try.prog 24 #[.pointer (some ⟨g, 0, none⟩), .int .i64 a1] w fun e w' => e = .returned (.int .i64 r1) ∧ IsS49 w0 w' g s0_0 r2 r3 ∧ Below w0.heap.size w0 w' ∧ KeepBut w w' g none := by
 have HI0 := am_ hI
 have HK := am_ (KeepBut.refl w g none)
 have HL := am_ hB.size
 clear hI
 have HW0 := am_ hB.size
 have HB := am_ hB
 clear hB
 have H := h
 clear h
 unfold spec_l1Cur_pick.f at H
 by_cases c3 : a1 ≤ 1
 ·rw [if_pos c3] at H
  have c3b0 := decide_eq_true c3
  clear c3
  simp only [Option.some.injEq, Prod.mk.injEq] at H
  obtain ⟨rfl, rfl, rfl⟩ := H
  go_enter Try.func24, Try.ntmps24
  go_wp2
  go_ret
  exact ⟨Sh.eR, by repeat (first | (with_reducible first | exact HI0.out | apply IsS49.alloc | apply IsS49.drewN | apply IsS49.drew | apply IsS49.set_1 | apply IsS49.set_2) | exact HI0.out), by repeat (first | (with_reducible first | exact HB.out | apply below_alloc | apply pw_below_drewN | apply below_drew1 | refine below_set ?_ (IsS49.ge HI0.out)) | exact HB.out), by repeat (first | (with_reducible first | exact HK.out | apply KeepBut.set_ | apply keep_drewN | apply keep_drew | apply keep_alloc) | exact HK.out)⟩
 ·rw [if_neg c3] at H
  have c3b0 := decide_eq_false c3
  clear c3
  obtain ⟨⟨t102, t103, t104⟩, A40, H⟩ := Sh.bd H
  have A4 := am_ A40
  clear A40
  by_cases c5 : a1 > 200
  ·rw [if_pos c5] at H
   have c5b0 : decide (200 < a1) = true := decide_eq_true c5
   clear c5
   obtain ⟨⟨t105, t106, t107⟩, A60, H⟩ := Sh.bd H
   have A6 := am_ A60
   clear A60
   by_cases c7 : a1 = 0
   ·rw [if_pos c7] at H
    exact absurd H (by simp)
   ·rw [if_neg c7] at H
    have c7b0 : (a1 == 0) = false := beq_eq_false_iff_ne.mpr c7
    have c7b1 : (a1 != 0) = true := bne_iff_ne.mpr c7
    simp only [Option.some.injEq, Prod.mk.injEq] at H
    obtain ⟨rfl, rfl, rfl⟩ := H
    go_enter Try.func24, Try.ntmps24
    go_wp2_with (first | ((with_reducible refine Sh.k 50 ?_); refine Sh.gL (some 9) Try.func50 #[.pointer (some ⟨g, 0, none⟩)] (h := ?_); (with_reducible refine (spec_l1Cur_next.calls g s0_0 s0_1 s0_2 t102 t103 t104 w0 _ ?side1 ?side2 A4.out).mono ?_); (case side1 => repeat (first | (with_reducible first | exact HI0.out | apply IsS49.alloc | apply IsS49.drewN | apply IsS49.drew | apply IsS49.set_1 | apply IsS49.set_2) | exact HI0.out)); (case side2 => repeat (first | (with_reducible first | exact HB.out | apply below_alloc | apply pw_below_drewN | apply below_drew1 | refine below_set ?_ (IsS49.ge HI0.out)) | exact HB.out)); rintro e w8 ⟨rfl, hi, hb, hk⟩; refine ⟨_, rfl, ?_⟩; replace HK := am_ (KeepBut.trans (by repeat (first | (with_reducible first | exact HK.out | apply KeepBut.set_ | apply keep_drewN | apply keep_drew | apply keep_alloc) | exact HK.out)) hk (.inl rfl)); replace HB := am_ hb; replace HI0 := am_ hi; (try clear hb); (try clear hb2); (try clear hk); (try clear hi)) | ((with_reducible refine Sh.k 50 ?_); refine Sh.gL (some 15) Try.func50 #[.pointer (some ⟨g, 0, none⟩)] (h := ?_); (with_reducible refine (spec_l1Cur_next.calls g s0_0 t103 t104 t105 t106 t107 w0 _ ?side1 ?side2 A6.out).mono ?_); (case side1 => repeat (first | (with_reducible first | exact HI0.out | apply IsS49.alloc | apply IsS49.drewN | apply IsS49.drew | apply IsS49.set_1 | apply IsS49.set_2) | exact HI0.out)); (case side2 => repeat (first | (with_reducible first | exact HB.out | apply below_alloc | apply pw_below_drewN | apply below_drew1 | refine below_set ?_ (IsS49.ge HI0.out)) | exact HB.out)); rintro e w9 ⟨rfl, hi, hb, hk⟩; refine ⟨_, rfl, ?_⟩; replace HK := am_ (KeepBut.trans (by repeat (first | (with_reducible first | exact HK.out | apply KeepBut.set_ | apply keep_drewN | apply keep_drew | apply keep_alloc) | exact HK.out)) hk (.inl rfl)); replace HB := am_ hb; replace HI0 := am_ hi; (try clear hb); (try clear hb2); (try clear hk); (try clear hi)))
    go_ret
    exact ⟨Sh.eR, by repeat (first | (with_reducible first | exact HI0.out | apply IsS49.alloc | apply IsS49.drewN | apply IsS49.drew | apply IsS49.set_1 | apply IsS49.set_2) | exact HI0.out), by repeat (first | (with_reducible first | exact HB.out | apply below_alloc | apply pw_below_drewN | apply below_drew1 | refine below_set ?_ (IsS49.ge HI0.out)) | exact HB.out), by repeat (first | (with_reducible first | exact HK.out | apply KeepBut.set_ | apply keep_drewN | apply keep_drew | apply keep_alloc) | exact HK.out)⟩
  ·rw [if_neg c5] at H
   have c5b0 : decide (200 < a1) = false := decide_eq_false c5
   clear c5
   by_cases c10 : a1 = 0
   ·rw [if_pos c10] at H
    exact absurd H (by simp)
   ·rw [if_neg c10] at H
    have c10b0 : (a1 == 0) = false := beq_eq_false_iff_ne.mpr c10
    have c10b1 : (a1 != 0) = true := bne_iff_ne.mpr c10
    simp only [Option.some.injEq, Prod.mk.injEq] at H
    obtain ⟨rfl, rfl, rfl⟩ := H
    go_enter Try.func24, Try.ntmps24
    go_wp2_with (first | ((with_reducible refine Sh.k 50 ?_); refine Sh.gL (some 9) Try.func50 #[.pointer (some ⟨g, 0, none⟩)] (h := ?_); (with_reducible refine (spec_l1Cur_next.calls g s0_0 s0_1 s0_2 t102 t103 t104 w0 _ ?side1 ?side2 A4.out).mono ?_); (case side1 => repeat (first | (with_reducible first | exact HI0.out | apply IsS49.alloc | apply IsS49.drewN | apply IsS49.drew | apply IsS49.set_1 | apply IsS49.set_2) | exact HI0.out)); (case side2 => repeat (first | (with_reducible first | exact HB.out | apply below_alloc | apply pw_below_drewN | apply below_drew1 | refine below_set ?_ (IsS49.ge HI0.out)) | exact HB.out)); rintro e w11 ⟨rfl, hi, hb, hk⟩; refine ⟨_, rfl, ?_⟩; replace HK := am_ (KeepBut.trans (by repeat (first | (with_reducible first | exact HK.out | apply KeepBut.set_ | apply keep_drewN | apply keep_drew | apply keep_alloc) | exact HK.out)) hk (.inl rfl)); replace HB := am_ hb; replace HI0 := am_ hi; (try clear hb); (try clear hb2); (try clear hk); (try clear hi)))
    go_ret
    exact ⟨Sh.eR, by repeat (first | (with_reducible first | exact HI0.out | apply IsS49.alloc | apply IsS49.drewN | apply IsS49.drew | apply IsS49.set_1 | apply IsS49.set_2) | exact HI0.out), by repeat (first | (with_reducible first | exact HB.out | apply below_alloc | apply pw_below_drewN | apply below_drew1 | refine below_set ?_ (IsS49.ge HI0.out)) | exact HB.out), by repeat (first | (with_reducible first | exact HK.out | apply KeepBut.set_ | apply keep_drewN | apply keep_drew | apply keep_alloc) | exact HK.out)⟩
def spec_l1Cur_among.f (s0_0 : List Int) (s0_1 : Int) (s0_2 : Int) (l1 : List Int) : Option (Int × Int × Int) := (spec_l1Cur_pick.f s0_0 s0_1 s0_2 (l1.length : Int)).bind fun bt108 => (if 0 ≤ bt108.1 then (if bt108.1 < (l1.length : Int) then (some (rd l1 bt108.1, bt108.2.1, bt108.2.2)) else (none)) else (none))
theorem spec_l1Cur_among.calls (g : Nat) (s0_0 : List Int) (s0_1 : Int) (s0_2 : Int) (A1 : Option Addr) (c1 : Nat) (l1 : List Int) (r1 : Int) (r2 : Int) (r3 : Int) (w0 w : World) (hI : IsS49 w0 w g s0_0 s0_1 s0_2) (hB : Below w0.heap.size w0 w) (hr1 : Kd.C (Kd.int .i64) w A1 l1.length l1) (hc1 : l1.length ≤ c1) (hf1 : ∀ ad, A1 = some ad → 0 < l1.length → ad.block ≠ g) (h : spec_l1Cur_among.f s0_0 s0_1 s0_2 l1 = some (r1, r2, r3)) :
  Calls Try.prog 26 #[.pointer (some ⟨g, 0, none⟩), .slice A1 l1.length c1] w fun e w' => e = .returned (.int .i64 r1) ∧ IsS49 w0 w' g s0_0 r2 r3 ∧ Below w0.heap.size w0 w' ∧ KeepBut w w' g none := by
 have HR1 := am_ hr1
 have HC1 := am_ hc1
 clear hr1 hc1
 have HI0 := am_ hI
 have HK := am_ (KeepBut.refl w g none)
 have HL := am_ hB.size
 clear hI
 have HW0 := am_ hB.size
 have HB := am_ hB
 clear hB
 have H := h
 clear h
 unfold spec_l1Cur_among.f at H
 obtain ⟨⟨t108, t109, t110⟩, A30, H⟩ := Sh.bd H
 have A3 := am_ A30
 clear A30
 by_cases c4 : 0 ≤ t108
 ·rw [if_pos c4] at H
  have c4b0 := decide_eq_true c4
  clear c4
  by_cases c5 : t108 < (l1.length : Int)
  ·rw [if_pos c5] at H
   have c5b0 := decide_eq_true c5
   clear c5
   simp only [Option.some.injEq, Prod.mk.injEq] at H
   obtain ⟨rfl, rfl, rfl⟩ := H
   go_enter Try.func26, Try.ntmps26
   go_wp2_with (first | ((with_reducible refine Sh.k 24 ?_); refine Sh.gL (some 9) Try.func24 #[.pointer (some ⟨g, 0, none⟩), .int .i64 (l1.length : Int)] (h := ?_); (with_reducible refine (spec_l1Cur_pick.calls g s0_0 s0_1 s0_2 (l1.length : Int) t108 t109 t110 w0 _ ?side1 ?side2 A3.out).mono ?_); (case side1 => repeat (first | (with_reducible first | exact HI0.out | apply IsS49.alloc | apply IsS49.drewN | apply IsS49.drew | apply IsS49.set_1 | apply IsS49.set_2) | exact HI0.out)); (case side2 => repeat (first | (with_reducible first | exact HB.out | apply below_alloc | apply pw_below_drewN | apply below_drew1 | refine below_set ?_ (IsS49.ge HI0.out)) | exact HB.out)); rintro e w6 ⟨rfl, hi, hb, hk⟩; refine ⟨_, rfl, ?_⟩; replace HK := am_ (KeepBut.trans (by repeat (first | (with_reducible first | exact HK.out | apply KeepBut.set_ | apply keep_drewN | apply keep_drew | apply keep_alloc) | exact HK.out)) hk (.inl rfl)); replace HB := am_ hb; replace HI0 := am_ hi; (try clear hb); (try clear hb2); (try clear hk); (try clear hi); have p111 : 0 ≤ (t108 : Int) := Sh.od; have q111 : t108 < (l1.length : Int) := Sh.od; obtain ⟨ad111, e111, hx111_0⟩ := Kd.at_int HR1.out t108 p111 q111; cases e111; replace hx111_0 := keep_cell HK.out hx111_0 (by first | (rw [add_block]; exact hf1 _ rfl (by omega)) | exact hf1 _ rfl (by omega) | exact hf1 ad111 rfl (by omega)); replace p111 := eq_true p111; replace q111 := eq_true q111))
   go_ret
   exact ⟨Sh.eR, by repeat (first | (with_reducible first | exact HI0.out | apply IsS49.alloc | apply IsS49.drewN | apply IsS49.drew | apply IsS49.set_1 | apply IsS49.set_2) | exact HI0.out), by repeat (first | (with_reducible first | exact HB.out | apply below_alloc | apply pw_below_drewN | apply below_drew1 | refine below_set ?_ (IsS49.ge HI0.out)) | exact HB.out), by repeat (first | (with_reducible first | exact HK.out | apply KeepBut.set_ | apply keep_drewN | apply keep_drew | apply keep_alloc) | exact HK.out)⟩
  ·rw [if_neg c5] at H
   exact absurd H (by simp)
 ·rw [if_neg c4] at H
  exact absurd H (by simp)
def spec_l1Cur_wires.l0 : Nat → Int → Int → List Int → List Int → Int → Int → Option (List Int × Int × Int)
 | 0, _, _, _, _, _, _ => none
 | k + 1, x1, x2, x7, x1000, x1001, x1002 => if x2 > 0 then ((spec_l1Cur_pick.f x1000 x1001 x1002 x1).bind fun bt112 => (if x7.length < 17592186044416 then (spec_l1Cur_wires.l0 k x1 (wrap64 (x2 - 1)) (x7 ++ [bt112.1]) x1000 bt112.2.1 bt112.2.2) else (none))) else (some (x7, x1001, x1002))
def spec_l1Cur_wires.f (k : Nat) (s0_0 : List Int) (s0_1 : Int) (s0_2 : Int) (a1 : Int) (a2 : Int) : Option (List Int × Int × Int) := spec_l1Cur_wires.l0 k a1 a2 ([] : List Int) s0_0 s0_1 s0_2
theorem spec_l1Cur_wires.mono_l : ∀ k, (∀ y0 y1 y2 y3 y4 y5, LeO (spec_l1Cur_wires.l0 k y0 y1 y2 y3 y4 y5) (spec_l1Cur_wires.l0 (k + 1) y0 y1 y2 y3 y4 y5))
 | 0 => fun _ _ _ _ _ _ r h => by simp [spec_l1Cur_wires.l0] at h
 | k + 1 => by
  have ih0 := spec_l1Cur_wires.mono_l k
  ·intro y0 y1 y2 y3 y4 y5
   unfold spec_l1Cur_wires.l0
   repeat' with_reducible first | apply ih0 | exact LeO.refl _ | exact LeO.none _ | apply LeO.ite | refine LeO.bind ?_ fun _ => ?_
theorem spec_l1Cur_wires.mono : ∀ a0 a1 a2 a3 a4 k, LeO (spec_l1Cur_wires.f k a0 a1 a2 a3 a4) (spec_l1Cur_wires.f (k + 1) a0 a1 a2 a3 a4) := by
 intro a0 a1 a2 a3 a4 k
 have ih0 := spec_l1Cur_wires.mono_l k
 unfold spec_l1Cur_wires.f
 repeat' with_reducible first | apply ih0 | exact LeO.refl _ | exact LeO.none _ | apply LeO.ite | refine LeO.bind ?_ fun _ => ?_
theorem spec_l1Cur_wires.calls (k : Nat) (g : Nat) (s0_0 : List Int) (s0_1 : Int) (s0_2 : Int) (a1 : Int) (a2 : Int) (r1 : List Int) (r2 : Int) (r3 : Int) (w0 w : World) (hI : IsS49 w0 w g s0_0 s0_1 s0_2) (hB : Below w0.heap.size w0 w) (h : spec_l1Cur_wires.f k s0_0 s0_1 s0_2 a1 a2 = some (r1, r2, r3)) :
  Calls Try.prog 27 #[.pointer (some ⟨g, 0, none⟩), .int .i64 a1, .int .i64 a2] w fun e w' => ∃ v0_ : Value, e = .returned (v0_) ∧ Kd.R (Kd.int .i64) 3 w' w.heap.size (fun _ => True) v0_ r1 ∧ IsS49 w0 w' g s0_0 r2 r3 ∧ Below w0.heap.size w0 w' ∧ KeepBut w w' g none := by
 have HI0 := am_ hI
 have HK := am_ (KeepBut.refl w g none)
 have HL := am_ hB.size
 clear hI
 have HW0 := am_ hB.size
 have HB := am_ hB
 clear hB
 have H := h
 clear h
 unfold spec_l1Cur_wires.f at H
 have H' := am_ H
 clear H
 go_enter Try.func27, Try.ntmps27
 go_wp2
 go_loopg [2, 7] k (fun kq v2 v7 w' => ∃ (x2_1 : Int) (x7_1 : List Int) (x1001_1 : Int) (x1002_1 : Int), v2 = .int .i64 x2_1 ∧ Aside0 (spec_l1Cur_wires.l0 kq a1 x2_1 x7_1 s0_0 x1001_1 x1002_1 = some (r1, r2, r3)) ∧ Aside0 (kq ≤ k) ∧ Aside0 (Kd.R (Kd.int .i64) 3 w' w.heap.size (fun _ => True) v7 x7_1) ∧ Aside0 (IsS49 w0 w' g s0_0 x1001_1 x1002_1) ∧ Aside0 (KeepBut w w' g none) ∧ Aside0 (Below w0.heap.size w0 w'))
 case atStart => exact ⟨(a2), (([] : List Int)), (s0_1), (s0_2), (Sh.es), H', ⟨Nat.le_refl _⟩, ⟨by first | exact Kd.R_nil _ _ _ _ _ | exact Kd.N_nil _ _ _ _ _ | exact Kd.V_nil _ _ _ _ _ | exact Kd.Q_nil _ _ _ _ _ | exact Kd.S_nil _ _ _ _ _⟩, ⟨by repeat (first | (with_reducible first | exact HI0.out | apply IsS49.alloc | apply IsS49.drewN | apply IsS49.drew | apply IsS49.set_1 | apply IsS49.set_2) | exact HI0.out)⟩, ⟨by repeat (first | (with_reducible first | exact HK.out | apply KeepBut.set_ | apply keep_drewN | apply keep_drew | apply keep_alloc) | exact HK.out)⟩, ⟨by repeat (first | (with_reducible first | exact HB.out | apply below_alloc | apply pw_below_drewN | apply below_drew1 | refine below_set ?_ (IsS49.ge HI0.out)) | exact HB.out)⟩⟩
 case round =>
  clear H'
  obtain ⟨x2_1, x7_1, x1001_1, x1002_1, rfl, HA, HK1, HO_7, HI0, HK, HB⟩ := hrel
  cases gk with
  | zero => exact absurd HA.out (by simp [spec_l1Cur_wires.l0])
  | succ k1 =>
   have H := HA.out
   clear HA
   simp only [spec_l1Cur_wires.l0] at H
   by_cases c4 : x2_1 > 0
   ·rw [if_pos c4] at H
    have c4b0 : decide (0 < x2_1) = true := decide_eq_true c4
    clear c4
    obtain ⟨⟨t112, t113, t114⟩, A50, H⟩ := Sh.bd H
    have A5 := am_ A50
    clear A50
    by_cases c6 : x7_1.length < 17592186044416
    ·rw [if_pos c6] at H
     have LMc6 := am_ c6
     clear c6
     obtain ⟨y115, hy115⟩ : ∃ y_ : List Int, y_ = (x7_1 ++ [t112]) := ⟨_, rfl⟩
     replace H : (spec_l1Cur_wires.l0 k1 a1 (wrap64 (x2_1 - 1)) y115 s0_0 t113 t114) = some (r1, r2, r3) := by first | (rw [hy115]; with_reducible exact H) | (have H2_ := (Option.bind_some _ _).symm.trans H; rw [hy115]; with_reducible exact H2_) | (have H2_ := (Option.bind_some _ _).symm.trans H; with_reducible exact H2_) | with_reducible exact H | (rw [hy115]; exact H) | exact H
     have Ny115 := am_ hy115
     clear hy115
     have H' := am_ H
     clear H
     go_wp2_with (first | ((with_reducible refine Sh.k 24 ?_); refine Sh.gL (some 15) Try.func24 #[.pointer (some ⟨g, 0, none⟩), .int .i64 a1] (h := ?_); (with_reducible refine (spec_l1Cur_pick.calls g s0_0 x1001_1 x1002_1 a1 t112 t113 t114 w0 _ ?side1 ?side2 A5.out).mono ?_); (case side1 => repeat (first | (with_reducible first | exact HI0.out | apply IsS49.alloc | apply IsS49.drewN | apply IsS49.drew | apply IsS49.set_1 | apply IsS49.set_2) | exact HI0.out)); (case side2 => repeat (first | (with_reducible first | exact HB.out | apply below_alloc | apply pw_below_drewN | apply below_drew1 | refine below_set ?_ (IsS49.ge HI0.out)) | exact HB.out)); rintro e w7 ⟨rfl, hi, hb, hk⟩; refine ⟨_, rfl, ?_⟩; replace HO_7 := am_ (Kd.R_mono (Kd.R_keep (IsS49.apart (show IsS49 w0 _ g s0_0 x1001_1 x1002_1 from by repeat (first | (with_reducible first | exact HI0.out | apply IsS49.alloc | apply IsS49.drewN | apply IsS49.drew | apply IsS49.set_1 | apply IsS49.set_2) | exact HI0.out)) (Sh.rl HO_7.out) (by decide)) hk (fun _ h => h.2)) (fun _ h => h.1)); replace HK := am_ (KeepBut.trans (by repeat (first | (with_reducible first | exact HK.out | apply KeepBut.set_ | apply keep_drewN | apply keep_drew | apply keep_alloc) | exact HK.out)) hk (.inl rfl)); replace HB := am_ hb; replace HI0 := am_ hi; (try clear hb); (try clear hb2); (try clear hk); (try clear hi)) | ((with_reducible refine gate_builtin (b := .append) (xs := #[.tmp 12, .tmp 16]) rfl ?_); at_builtin; refine Kd.R_append (Kd.int .i64) w.heap.size rfl (.tmp 12) (.tmp 16) 25 3 (.int .i64 0) 8 rfl Try.underlying25 info3 rfl (by decide) (by omega) u7 x7_1 t112 [.int .i64 t112] (fun _ => True) (fun _ => False) rfl rfl ?aP (fun _ hk => hk.elim) ?aF ?aO (Below.refl _ _) ?aS ?aL ?_; (case aP => exact rfl); (case aF => exact (fun _ _ => trivial)); (case aO => exact (Sh.rl HO_7.out)); (case aS => exact (keep_size (w := w) (g := g) (row := none) (by repeat (first | (with_reducible first | exact HK.out | apply KeepBut.set_ | apply keep_drewN | apply keep_drew | apply keep_alloc) | exact HK.out)))); (case aL => have := LMc6.out; omega); intro v116 w8 ho hb hg hat; rw [← Ny115.out] at ho; have n0_ := am_ (IsS49.grown (by repeat (first | (with_reducible first | exact HI0.out | apply IsS49.alloc | apply IsS49.drewN | apply IsS49.drew | apply IsS49.set_1 | apply IsS49.set_2) | exact HI0.out)) hg (IsS49.own_ne HI0.out HO_7.out (by decide))); have n1_ := am_ (below_weaken (by repeat (first | (with_reducible first | exact HB.out | apply below_alloc | apply pw_below_drewN | apply below_drew1 | refine below_set ?_ (IsS49.ge HI0.out)) | exact HB.out)) HL.out hb); have n2_ := am_ (KeepBut.trans (by repeat (first | (with_reducible first | exact HK.out | apply KeepBut.set_ | apply keep_drewN | apply keep_drew | apply keep_alloc) | exact HK.out)) (KeepBut.of_grown hg g) (Kd.R_base2 HO_7.out)); have n3_ := am_ ho; clear HI0; clear HB; clear HK; clear HO_7; have HI0 := n0_; have HB := n1_; have HK := n2_; have HO117 := n3_; clear n0_ n1_ n2_ n3_; clear ho hb hg hat))
     go_roundg k1
     case measure => have := HK1.out; omega
     case rel => exact ⟨(wrap64 (x2_1 - 1)), (y115), (t113), (t114), (Sh.es), H', ⟨by have := HK1.out; omega⟩, ⟨Sh.rl HO117.out⟩, ⟨by repeat (first | (with_reducible first | exact HI0.out | apply IsS49.alloc | apply IsS49.drewN | apply IsS49.drew | apply IsS49.set_1 | apply IsS49.set_2) | exact HI0.out)⟩, ⟨by repeat (first | (with_reducible first | exact HK.out | apply KeepBut.set_ | apply keep_drewN | apply keep_drew | apply keep_alloc) | exact HK.out)⟩, ⟨by repeat (first | (with_reducible first | exact HB.out | apply below_alloc | apply pw_below_drewN | apply below_drew1 | refine below_set ?_ (IsS49.ge HI0.out)) | exact HB.out)⟩⟩
    ·rw [if_neg c6] at H
     exact absurd H (by simp)
   ·rw [if_neg c4] at H
    have c4b0 : decide (0 < x2_1) = false := decide_eq_false c4
    clear c4
    simp only [Option.some.injEq, Prod.mk.injEq] at H
    obtain ⟨rfl, rfl, rfl⟩ := H
    go_wp2
    go_ret
    exact ⟨_, Sh.eR, Sh.rl HO_7.out, by repeat (first | (with_reducible first | exact HI0.out | apply IsS49.alloc | apply IsS49.drewN | apply IsS49.drew | apply IsS49.set_1 | apply IsS49.set_2) | exact HI0.out), by repeat (first | (with_reducible first | exact HB.out | apply below_alloc | apply pw_below_drewN | apply below_drew1 | refine below_set ?_ (IsS49.ge HI0.out)) | exact HB.out), by repeat (first | (with_reducible first | exact HK.out | apply KeepBut.set_ | apply keep_drewN | apply keep_drew | apply keep_alloc) | exact HK.out)⟩
def spec_l4Wires.f (a0_0 : Int) (l0_1 : List (S66)) (l0_2 : List Int) : Option (Int) := some (wrap64 (a0_0 + (l0_1.length : Int)))
theorem spec_l4Wires.calls (a0_0 : Int) (A0_1 : Option Addr) (c0_1 : Nat) (l0_1 : List (S66)) (A0_2 : Option Addr) (c0_2 : Nat) (l0_2 : List Int) (r : Int) (w : World) (hr0_1 : Kd.C k66 w A0_1 l0_1.length l0_1) (hc0_1 : l0_1.length ≤ c0_1) (hr0_2 : Kd.C (Kd.int .i64) w A0_2 l0_2.length l0_2) (hc0_2 : l0_2.length ≤ c0_2) (h : spec_l4Wires.f a0_0 l0_1 l0_2 = some r) :
  Calls Try.prog 28 #[.agg #[.int .i64 a0_0, .slice A0_1 l0_1.length c0_1, .slice A0_2 l0_2.length c0_2]] w fun e w' => e = .returned (.int .i64 r) ∧ Below w.heap.size w w' := by
 have hu27 := Try.underlying27
 have HR0_1 := am_ hr0_1
 have HC0_1 := am_ hc0_1
 clear hr0_1 hc0_1
 have HR0_2 := am_ hr0_2
 have HC0_2 := am_ hc0_2
 clear hr0_2 hc0_2
 have HB := am_ (Below.refl w.heap.size w)
 have H := h
 clear h
 unfold spec_l4Wires.f at H
 obtain rfl := Option.some.inj H
 go_enter Try.func28, Try.ntmps28
 go_wp2_with (first | ((with_reducible refine Sh.d 1 ?_); refine Sh.bz w (N := 1) (cs := #[.int .i64 a0_0, .slice A0_1 l0_1.length c0_1, .slice A0_2 l0_2.length c0_2]) (t := 27) (h := ?_); clear HB; intro gb118 w2 BK118 GE118 HB; obtain ⟨hcz3_0, hcz3_1, hcz3_2, hfz3_0, hfz3_1, hfz3_2⟩ := Sh.b3 BK118.out))
 go_ret
 exact ⟨Sh.eR, Sh.bw⟩
mutual
def spec_l1Cur_circuit.l0 : Nat → Int → List Int → Int → Int → Int → List (S66) → Option (Int × (List (S66)) × List Int × Int × Int)
 | 0, _, _, _, _, _, _ => none
 | k + 1, x4, x1000, x1001, x1002, x124000, x124001 => if x4 > 0 then ((spec_l1Cur_pick.f x1000 x1001 x1002 5).bind fun bt127 => (if (wrap64 (1 + bt127.1)) = 1 then ((spec_l1Cur_pick.f x1000 bt127.2.1 bt127.2.2 2).bind fun bt131 => (spec_l1Cur_circuit.j1 k x4 x1000 bt131.2.1 bt131.2.2 x124000 x124001 (wrap64 (1 + bt127.1)) bt131.1 0)) else ((spec_l4Wires.f x124000 x124001 ([] : List Int)).bind fun t134 => ((spec_l1Cur_pick.f x1000 bt127.2.1 bt127.2.2 t134).bind fun bt135 => (spec_l1Cur_circuit.j1 k x4 x1000 bt135.2.1 bt135.2.2 x124000 x124001 (wrap64 (1 + bt127.1)) bt135.1 0))))) else ((spec_l4Wires.f x124000 x124001 ([] : List Int)).bind fun t148 => ((spec_l1Cur_pick.f x1000 x1001 x1002 5).bind fun bt149 => ((spec_l1Cur_wires.f k x1000 bt149.2.1 bt149.2.2 t148 bt149.1).bind fun bt152 => ((spec_l1Cur_pick.f x1000 bt152.2.1 bt152.2.2 30).bind fun bt157 => (if bt157.1 = 0 then ((spec_l4Wires.f x124000 x124001 bt152.1).bind fun t160 => (if bt152.1.length < 17592186044416 then (some (x124000, x124001, (bt152.1 ++ [t160]), bt157.2.1, bt157.2.2)) else (none))) else (if bt157.1 = 1 then ((spec_l1Cur_among.f x1000 bt157.2.1 bt157.2.2 (([(-1), 0, 16, 17] : List Int))).bind fun bt167 => (some (bt167.1, x124001, bt152.1, bt167.2.1, bt167.2.2))) else (if bt157.1 = 2 then (spec_l1Cur_circuit.l1 k x1000 bt157.2.1 bt157.2.2 x124000 x124001 bt152.1) else (some (x124000, x124001, bt152.1, bt157.2.1, bt157.2.2)))))))))
def spec_l1Cur_circuit.j1 : Nat → Int → List Int → Int → Int → Int → List (S66) → Int → Int → Int → Option (Int × (List (S66)) × List Int × Int × Int)
 | 0, _, _, _, _, _, _, _, _, _ => none
 | k + 1, x4, x1000, x1001, x1002, x124000, x124001, x131000, x131001, x131002 => if x131000 > 2 then ((spec_l4Wires.f x124000 x124001 ([] : List Int)).bind fun t138 => ((spec_l1Cur_pick.f x1000 x1001 x1002 t138).bind fun bt139 => (if x124001.length < 5864062014805 then (spec_l1Cur_circuit.l0 k (wrap64 (x4 - 1)) x1000 bt139.2.1 bt139.2.2 x124000 (x124001 ++ [(⟨x131000, x131001, bt139.1⟩ : S66)])) else (none)))) else (if x124001.length < 5864062014805 then (spec_l1Cur_circuit.l0 k (wrap64 (x4 - 1)) x1000 x1001 x1002 x124000 (x124001 ++ [(⟨x131000, x131001, x131002⟩ : S66)])) else (none))
def spec_l1Cur_circuit.l1 : Nat → List Int → Int → Int → Int → List (S66) → List Int → Option (Int × (List (S66)) × List Int × Int × Int)
 | 0, _, _, _, _, _, _ => none
 | k + 1, x1000, x1001, x1002, x124000, x124001, x124002 => (spec_l1Cur_pick.f x1000 x1001 x1002 2).bind fun bt170 => (if (x124001.length : Int) < (wrap64 (300 + bt170.1)) then (if x124001.length < 5864062014805 then (spec_l1Cur_circuit.l1 k x1000 bt170.2.1 bt170.2.2 x124000 (x124001 ++ [(⟨2, 0, 0⟩ : S66)]) x124002) else (none)) else (some (x124000, x124001, x124002, bt170.2.1, bt170.2.2)))
end
def spec_l1Cur_circuit.f (k : Nat) (s0_0 : List Int) (s0_1 : Int) (s0_2 : Int) : Option (Int × (List (S66)) × List Int × Int × Int) := (spec_l1Cur_pick.f s0_0 s0_1 s0_2 8).bind fun bt120 => ((spec_l1Cur_pick.f s0_0 bt120.2.1 bt120.2.2 20).bind fun bt124 => (spec_l1Cur_circuit.l0 k bt124.1 s0_0 bt124.2.1 bt124.2.2 (wrap64 (1 + bt120.1)) ([] : List (S66))))
theorem spec_l1Cur_circuit.mono_l : ∀ k, (∀ y0 y1 y2 y3 y4 y5, LeO (spec_l1Cur_circuit.l0 k y0 y1 y2 y3 y4 y5) (spec_l1Cur_circuit.l0 (k + 1) y0 y1 y2 y3 y4 y5)) ∧ (∀ y0 y1 y2 y3 y4 y5 y6 y7 y8, LeO (spec_l1Cur_circuit.j1 k y0 y1 y2 y3 y4 y5 y6 y7 y8) (spec_l1Cur_circuit.j1 (k + 1) y0 y1 y2 y3 y4 y5 y6 y7 y8)) ∧ (∀ y0 y1 y2 y3 y4 y5, LeO (spec_l1Cur_circuit.l1 k y0 y1 y2 y3 y4 y5) (spec_l1Cur_circuit.l1 (k + 1) y0 y1 y2 y3 y4 y5))
 | 0 => ⟨fun _ _ _ _ _ _ r h => by simp [spec_l1Cur_circuit.l0] at h, fun _ _ _ _ _ _ _ _ _ r h => by simp [spec_l1Cur_circuit.j1] at h, fun _ _ _ _ _ _ r h => by simp [spec_l1Cur_circuit.l1] at h⟩
 | k + 1 => by
  obtain ⟨ih0, ih1, ih2⟩ := spec_l1Cur_circuit.mono_l k
  and_intros <;> intros
  all_goals (first | unfold spec_l1Cur_circuit.l0 | unfold spec_l1Cur_circuit.j1 | unfold spec_l1Cur_circuit.l1)
  all_goals repeat' with_reducible first | apply ih0 | apply ih1 | apply ih2 | apply spec_l1Cur_wires.mono | exact LeO.refl _ | exact LeO.none _ | apply LeO.ite | refine LeO.bind ?_ fun _ => ?_
theorem spec_l1Cur_circuit.mono : ∀ a0 a1 a2 k, LeO (spec_l1Cur_circuit.f k a0 a1 a2) (spec_l1Cur_circuit.f (k + 1) a0 a1 a2) := by
 intro a0 a1 a2 k
 obtain ⟨ih0, ih1, ih2⟩ := spec_l1Cur_circuit.mono_l k
 unfold spec_l1Cur_circuit.f
 repeat' with_reducible first | apply ih0 | apply ih1 | apply ih2 | apply spec_l1Cur_wires.mono | exact LeO.refl _ | exact LeO.none _ | apply LeO.ite | refine LeO.bind ?_ fun _ => ?_
def spec_l1Cur_circuit.T15 : Bool × List (List Nat × List Nat) := (true, [([], []), ([0], [0]), ([], []), ([2], [2]), ([3], [3]), ([1, 4, 3], [1, 4]), ([0, 1, 2, 3, 4, 5], []), ([6, 5, 5, 0, 1, 2, 3, 4, 5], [5, 6])])
def spec_l1Cur_circuit.B15 : List Nat := [0, 1, 0, 4, 12, 31, 63, 127]
theorem spec_l1Cur_circuit.tab15 : rtab .any (opsOf Try.f23 15) = spec_l1Cur_circuit.T15 := by kernel_rfl
theorem spec_l1Cur_circuit.bits15 : waitsOk spec_l1Cur_circuit.T15.2 spec_l1Cur_circuit.B15 = true := by kernel_rfl
theorem spec_l1Cur_circuit.calls (k : Nat) (g : Nat) (s0_0 : List Int) (s0_1 : Int) (s0_2 : Int) (r1 : Int) (r2 : List (S66)) (r3 : List Int) (r4 : Int) (r5 : Int) (w0 w : World) (hI : IsS49 w0 w g s0_0 s0_1 s0_2) (hB : Below w0.heap.size w0 w) (h : spec_l1Cur_circuit.f k s0_0 s0_1 s0_2 = some (r1, r2, r3, r4, r5)) :
  Calls Try.prog 23 #[.pointer (some ⟨g, 0, none⟩)] w fun e w' => ∃ v1_ v2_ : Value, e = .returned (.agg #[.int .i64 r1, v1_, v2_]) ∧ Kd.R k66 66 w' w.heap.size (fun _ => True) v1_ r2 ∧ Kd.R (Kd.int .i64) 3 w' w.heap.size (fun _ => True) v2_ r3 ∧ IsS49 w0 w' g s0_0 r4 r5 ∧ Below w0.heap.size w0 w' ∧ KeepBut w w' g none := by
 have hu27 := Try.underlying27
 have hu66 := Try.underlying66
 have HI0 := am_ hI
 have HK := am_ (KeepBut.refl w g none)
 have HL := am_ hB.size
 clear hI
 have HW0 := am_ hB.size
 have HB := am_ hB
 clear hB
 have H := h
 clear h
 unfold spec_l1Cur_circuit.f at H
 obtain ⟨⟨t120, t121, t122⟩, A20, H⟩ := Sh.bd H
 have A2 := am_ A20
 clear A20
 obtain ⟨⟨t124, t125, t126⟩, A30, H⟩ := Sh.bd H
 have A3 := am_ A30
 clear A30
 have H' := am_ H
 clear H
 go_enter Try.func23, Try.ntmps23
 go_wp2_with (first | ((with_reducible refine Sh.d 2 ?_); refine Sh.bx (N := 2) (cs := #[.int .i64 0, .slice none 0 0, .slice none 0 0]) (t := 27) (h := ?_); intro gb119 hg w4 hbox hb; replace HB := am_ (below_step (by repeat (first | (with_reducible first | exact HB.out | apply below_alloc | apply pw_below_drewN | apply below_drew1 | refine below_set ?_ (IsS49.ge HI0.out)) | exact HB.out)) hb); have BK119 := am_ hbox; have GW119 := am_ ((by rw [hg]; exact (keep_size (w := w) (g := g) (row := none) (by repeat (first | (with_reducible first | exact HK.out | apply KeepBut.set_ | apply keep_drewN | apply keep_drew | apply keep_alloc) | exact HK.out))) : w.heap.size ≤ gb119)); have GE119 := am_ ((Nat.le_trans HW0.out (by rw [hg]; exact (keep_size (w := w) (g := g) (row := none) (by repeat (first | (with_reducible first | exact HK.out | apply KeepBut.set_ | apply keep_drewN | apply keep_drew | apply keep_alloc) | exact HK.out))) : w.heap.size ≤ gb119) : w0.heap.size ≤ gb119)); replace HK := am_ (KeepBut.trans (by repeat (first | (with_reducible first | exact HK.out | apply KeepBut.set_ | apply keep_drewN | apply keep_drew | apply keep_alloc) | exact HK.out)) (KeepBut.of_below hb g none) (.inl rfl)); have NB0_119 := am_ ((by rw [hg]; exact Nat.ne_of_lt (IsS49.lt (show IsS49 w0 _ g s0_0 s0_1 s0_2 from by repeat (first | (with_reducible first | exact HI0.out | apply IsS49.alloc | apply IsS49.drewN | apply IsS49.drew | apply IsS49.set_1 | apply IsS49.set_2) | exact HI0.out))) : g ≠ gb119)); have NB119_0 := am_ ((by rw [hg]; exact Nat.ne_of_gt (IsS49.lt (show IsS49 w0 _ g s0_0 s0_1 s0_2 from by repeat (first | (with_reducible first | exact HI0.out | apply IsS49.alloc | apply IsS49.drewN | apply IsS49.drew | apply IsS49.set_1 | apply IsS49.set_2) | exact HI0.out))) : gb119 ≠ g)); replace HI0 := am_ (IsS49.below (by repeat (first | (with_reducible first | exact HI0.out | apply IsS49.alloc | apply IsS49.drewN | apply IsS49.drew | apply IsS49.set_1 | apply IsS49.set_2) | exact HI0.out)) hb); clear hb hbox hg) | ((with_reducible refine Sh.k 24 ?_); refine Sh.gL (some 7) Try.func24 #[.pointer (some ⟨g, 0, none⟩), .int .i64 8] (h := ?_); (with_reducible refine (spec_l1Cur_pick.calls g s0_0 s0_1 s0_2 8 t120 t121 t122 w0 _ ?side1 ?side2 A2.out).mono ?_); (case side1 => repeat (first | (with_reducible first | exact HI0.out | apply IsS49.alloc | apply IsS49.drewN | apply IsS49.drew | apply IsS49.set_1 | apply IsS49.set_2 | refine IsS49.far ?_ NB0_119.out _) | exact HI0.out)); (case side2 => repeat (first | (with_reducible first | exact HB.out | apply below_alloc | apply pw_below_drewN | apply below_drew1 | refine below_set ?_ (IsS49.ge HI0.out) | refine below_set ?_ GE119.out) | exact HB.out)); rintro e w5 ⟨rfl, hi, hb, hk⟩; refine ⟨_, rfl, ?_⟩; replace BK119 := am_ (KeepBut.blk hk (g' := gb119) (o := .cells #[.int .i64 0, .slice none 0 0, .slice none 0 0] 27 (0, 0)) (Sh.pl BK119.out) NB119_0.out (by simp)); replace HK := am_ (KeepBut.trans (by repeat (first | (with_reducible first | exact HK.out | apply KeepBut.set_ | apply keep_drewN | apply keep_drew | apply keep_alloc | refine keep_far ?_ GW119.out _) | exact HK.out)) hk (.inl rfl)); replace HB := am_ hb; replace HI0 := am_ hi; (try clear hb); (try clear hb2); (try clear hk); (try clear hi)) | ((with_reducible refine Sh.d 3 ?_); refine Sh.bx (N := 3) (cs := #[.int .i64 0, .slice none 0 0, .slice none 0 0]) (t := 27) (h := ?_); intro gb123 hg w6 hbox hb; replace HB := am_ (below_step (by repeat (first | (with_reducible first | exact HB.out | apply below_alloc | apply pw_below_drewN | apply below_drew1 | refine below_set ?_ (IsS49.ge HI0.out) | refine below_set ?_ GE119.out) | exact HB.out)) hb); have BK123 := am_ hbox; have GW123 := am_ ((by rw [hg]; exact (keep_size (w := w) (g := g) (row := none) (by repeat (first | (with_reducible first | exact HK.out | apply KeepBut.set_ | apply keep_drewN | apply keep_drew | apply keep_alloc | refine keep_far ?_ GW119.out _) | exact HK.out))) : w.heap.size ≤ gb123)); have GE123 := am_ ((Nat.le_trans HW0.out (by rw [hg]; exact (keep_size (w := w) (g := g) (row := none) (by repeat (first | (with_reducible first | exact HK.out | apply KeepBut.set_ | apply keep_drewN | apply keep_drew | apply keep_alloc | refine keep_far ?_ GW119.out _) | exact HK.out))) : w.heap.size ≤ gb123) : w0.heap.size ≤ gb123)); replace HK := am_ (KeepBut.trans (by repeat (first | (with_reducible first | exact HK.out | apply KeepBut.set_ | apply keep_drewN | apply keep_drew | apply keep_alloc | refine keep_far ?_ GW119.out _) | exact HK.out)) (KeepBut.of_below hb g none) (.inl rfl)); have NB119_123 := am_ (Sh.nl hg BK119.out); have NB123_119 := am_ (Sh.ng hg BK119.out); replace BK119 := Sh.ab BK119 hb; have NB0_123 := am_ ((by rw [hg]; exact Nat.ne_of_lt (IsS49.lt (show IsS49 w0 _ g s0_0 t121 t122 from by repeat (first | (with_reducible first | exact HI0.out | apply IsS49.alloc | apply IsS49.drewN | apply IsS49.drew | apply IsS49.set_1 | apply IsS49.set_2 | refine IsS49.far ?_ NB0_119.out _) | exact HI0.out))) : g ≠ gb123)); have NB123_0 := am_ ((by rw [hg]; exact Nat.ne_of_gt (IsS49.lt (show IsS49 w0 _ g s0_0 t121 t122 from by repeat (first | (with_reducible first | exact HI0.out | apply IsS49.alloc | apply IsS49.drewN | apply IsS49.drew | apply IsS49.set_1 | apply IsS49.set_2 | refine IsS49.far ?_ NB0_119.out _) | exact HI0.out))) : gb123 ≠ g)); replace HI0 := am_ (IsS49.below (by repeat (first | (with_reducible first | exact HI0.out | apply IsS49.alloc | apply IsS49.drewN | apply IsS49.drew | apply IsS49.set_1 | apply IsS49.set_2 | refine IsS49.far ?_ NB0_119.out _) | exact HI0.out)) hb); clear hb hbox hg; have hnb7 := NB123_119.out; have hnc7 := NB119_123.out; have hnb8 := NB123_0.out; have hnc8 := NB0_123.out; obtain ⟨hcz9_0, hcz9_1, hcz9_2, hfz9_0, hfz9_1, hfz9_2⟩ := Sh.b3 BK123.out) | ((with_reducible refine Sh.k 24 ?_); refine Sh.gL (some 11) Try.func24 #[.pointer (some ⟨g, 0, none⟩), .int .i64 20] (h := ?_); (with_reducible refine (spec_l1Cur_pick.calls g s0_0 t121 t122 20 t124 t125 t126 w0 _ ?side1 ?side2 A3.out).mono ?_); (case side1 => repeat (first | (with_reducible first | exact HI0.out | apply IsS49.alloc | apply IsS49.drewN | apply IsS49.drew | apply IsS49.set_1 | apply IsS49.set_2 | refine IsS49.far ?_ NB0_119.out _ | refine IsS49.far ?_ NB0_123.out _) | exact HI0.out)); (case side2 => repeat (first | (with_reducible first | exact HB.out | apply below_alloc | apply pw_below_drewN | apply below_drew1 | refine below_set ?_ (IsS49.ge HI0.out) | refine below_set ?_ GE119.out | refine below_set ?_ GE123.out) | exact HB.out)); rintro e w10 ⟨rfl, hi, hb, hk⟩; refine ⟨_, rfl, ?_⟩; replace BK119 := am_ (KeepBut.blk hk (g' := gb119) (o := .cells #[.int .i64 0, .slice none 0 0, .slice none 0 0] 27 (0, 0)) (by refine Sh.pl ?_; refine blk_far ?_ NB119_123.out _; refine Sh.pl ?_; refine blk_far ?_ NB119_123.out _; refine Sh.pl ?_; refine blk_far ?_ NB119_123.out _; refine Sh.pl ?_; exact BK119.out) NB119_0.out (by simp)); replace BK123 := am_ (KeepBut.blk hk (g' := gb123) (o := .cells #[.int .i64 (wrap64 (1 + t120)), .slice none 0 0, .slice none 0 0] 27 (0, 0)) (by refine Sh.pl ?_; refine blk_put (cs := #[.int .i64 (wrap64 (1 + t120)), .slice none 0 0, .slice none 0 0]) ?_ 2 _ rfl; refine Sh.pl ?_; refine blk_put (cs := #[.int .i64 (wrap64 (1 + t120)), .slice none 0 0, .slice none 0 0]) ?_ 1 _ rfl; refine Sh.pl ?_; refine blk_put (cs := #[.int .i64 0, .slice none 0 0, .slice none 0 0]) ?_ 0 _ rfl; refine Sh.pl ?_; exact BK123.out) NB123_0.out (by simp)); replace HK := am_ (KeepBut.trans (by repeat (first | (with_reducible first | exact HK.out | apply KeepBut.set_ | apply keep_drewN | apply keep_drew | apply keep_alloc | refine keep_far ?_ GW119.out _ | refine keep_far ?_ GW123.out _) | exact HK.out)) hk (.inl rfl)); replace HB := am_ hb; replace HI0 := am_ hi; (try clear hb); (try clear hb2); (try clear hk); (try clear hi)))
 go_loopg [4] k (fun kq v4 w' => ∃ (x4_1 : Int) (x1001_1 : Int) (x1002_1 : Int) (x124001_1 : List (S66)) (u124001 : Value), v4 = .int .i64 x4_1 ∧ Aside0 (spec_l1Cur_circuit.l0 kq x4_1 s0_0 x1001_1 x1002_1 (wrap64 (1 + t120)) x124001_1 = some (r1, r2, r3, r4, r5)) ∧ Aside0 (kq ≤ k) ∧ Aside0 (Kd.R k66 66 w' w.heap.size (fun _ => True) u124001 x124001_1) ∧ Aside0 (w'.heap[gb119]? = some (.cells #[.int .i64 0, (.slice none 0 0), (.slice none 0 0)] 27 (0, 0))) ∧ Aside0 (w'.heap[gb123]? = some (.cells #[.int .i64 (wrap64 (1 + t120)), u124001, (.slice none 0 0)] 27 (0, 0))) ∧ Aside0 (IsS49 w0 w' g s0_0 x1001_1 x1002_1) ∧ Aside0 (KeepBut w w' g none) ∧ Aside0 (Below w0.heap.size w0 w'))
 case atStart => exact ⟨(t124), (t125), (t126), (([] : List (S66))), (.slice none 0 0), (Sh.es), H', ⟨Nat.le_refl _⟩, ⟨by first | exact Kd.R_nil _ _ _ _ _ | exact Kd.N_nil _ _ _ _ _ | exact Kd.V_nil _ _ _ _ _ | exact Kd.Q_nil _ _ _ _ _ | exact Kd.S_nil _ _ _ _ _⟩, ⟨by refine Sh.pl ?_; exact BK119.out⟩, ⟨by refine Sh.pl ?_; exact BK123.out⟩, ⟨by repeat (first | (with_reducible first | exact HI0.out | apply IsS49.alloc | apply IsS49.drewN | apply IsS49.drew | apply IsS49.set_1 | apply IsS49.set_2 | refine IsS49.far ?_ NB0_119.out _ | refine IsS49.far ?_ NB0_123.out _) | exact HI0.out)⟩, ⟨by repeat (first | (with_reducible first | exact HK.out | apply KeepBut.set_ | apply keep_drewN | apply keep_drew | apply keep_alloc | refine keep_far ?_ GW119.out _ | refine keep_far ?_ GW123.out _) | exact HK.out)⟩, ⟨by repeat (first | (with_reducible first | exact HB.out | apply below_alloc | apply pw_below_drewN | apply below_drew1 | refine below_set ?_ (IsS49.ge HI0.out) | refine below_set ?_ GE119.out | refine below_set ?_ GE123.out) | exact HB.out)⟩⟩
 case round =>
  clear H'
  try clear hcz9_0
  try clear hcz9_1
  try clear hcz9_2
  try clear hfz9_0
  try clear hfz9_1
  try clear hfz9_2
  obtain ⟨x4_1, x1001_1, x1002_1, x124001_1, u124001, rfl, HA, HK1, HO_124001, BK119, BK123, HI0, HK, HB⟩ := hrel
  cases gk with
  | zero => exact absurd HA.out (by simp [spec_l1Cur_circuit.l0])
  | succ k1 =>
   have H := HA.out
   clear HA
   simp only [spec_l1Cur_circuit.l0] at H
   by_cases c11 : x4_1 > 0
   ·rw [if_pos c11] at H
    have c11b0 : decide (0 < x4_1) = true := decide_eq_true c11
    clear c11
    obtain ⟨⟨t127, t128, t129⟩, A120, H⟩ := Sh.bd H
    have A12 := am_ A120
    clear A120
    have HC13 := am_ H
    clear H
    go_upto_if 22 with (first | ((with_reducible refine Sh.k 24 ?_); refine Sh.gL (some 17) Try.func24 #[.pointer (some ⟨g, 0, none⟩), .int .i64 5] (h := ?_); (with_reducible refine (spec_l1Cur_pick.calls g s0_0 x1001_1 x1002_1 5 t127 t128 t129 w0 _ ?side1 ?side2 A12.out).mono ?_); (case side1 => repeat (first | (with_reducible first | exact HI0.out | apply IsS49.alloc | apply IsS49.drewN | apply IsS49.drew | apply IsS49.set_1 | apply IsS49.set_2 | refine IsS49.far ?_ NB0_119.out _ | refine IsS49.far ?_ NB0_123.out _) | exact HI0.out)); (case side2 => repeat (first | (with_reducible first | exact HB.out | apply below_alloc | apply pw_below_drewN | apply below_drew1 | refine below_set ?_ (IsS49.ge HI0.out) | refine below_set ?_ GE119.out | refine below_set ?_ GE123.out) | exact HB.out)); rintro e w14 ⟨rfl, hi, hb, hk⟩; refine ⟨_, rfl, ?_⟩; replace HO_124001 := am_ (Kd.R_mono (Kd.R_keep (IsS49.apart (show IsS49 w0 _ g s0_0 x1001_1 x1002_1 from by repeat (first | (with_reducible first | exact HI0.out | apply IsS49.alloc | apply IsS49.drewN | apply IsS49.drew | apply IsS49.set_1 | apply IsS49.set_2 | refine IsS49.far ?_ NB0_119.out _ | refine IsS49.far ?_ NB0_123.out _) | exact HI0.out)) (Sh.rl HO_124001.out) (by decide)) hk (fun _ h => h.2)) (fun _ h => h.1)); replace BK119 := am_ (KeepBut.blk hk (g' := gb119) (o := .cells #[.int .i64 0, .slice none 0 0, .slice none 0 0] 27 (0, 0)) (Sh.pl BK119.out) NB119_0.out (by simp)); replace BK123 := am_ (KeepBut.blk hk (g' := gb123) (o := .cells #[.int .i64 (wrap64 (1 + t120)), u124001, .slice none 0 0] 27 (0, 0)) (Sh.pl BK123.out) NB123_0.out (by simp)); replace HK := am_ (KeepBut.trans (by repeat (first | (with_reducible first | exact HK.out | apply KeepBut.set_ | apply keep_drewN | apply keep_drew | apply keep_alloc | refine keep_far ?_ GW119.out _ | refine keep_far ?_ GW123.out _) | exact HK.out)) hk (.inl rfl)); replace HB := am_ hb; replace HI0 := am_ hi; (try clear hb); (try clear hb2); (try clear hk); (try clear hi)) | ((with_reducible refine Sh.d 5 ?_); refine Sh.bx (N := 5) (cs := #[.int .i64 0, .int .i64 0, .int .i64 0]) (t := 66) (h := ?_); intro gb130 hg w15 hbox hb; replace HO_124001 := am_ (Kd.R_below (Kd.R_elderB (Sh.rl HO_124001.out) gb130 (Nat.le_of_eq hg.symm)) hb); replace HB := am_ (below_step (by repeat (first | (with_reducible first | exact HB.out | apply below_alloc | apply pw_below_drewN | apply below_drew1 | refine below_set ?_ (IsS49.ge HI0.out) | refine below_set ?_ GE119.out | refine below_set ?_ GE123.out) | exact HB.out)) hb); have BK130 := am_ hbox; have GW130 := am_ ((by rw [hg]; exact (keep_size (w := w) (g := g) (row := none) (by repeat (first | (with_reducible first | exact HK.out | apply KeepBut.set_ | apply keep_drewN | apply keep_drew | apply keep_alloc | refine keep_far ?_ GW119.out _ | refine keep_far ?_ GW123.out _) | exact HK.out))) : w.heap.size ≤ gb130)); have GE130 := am_ ((Nat.le_trans HW0.out (by rw [hg]; exact (keep_size (w := w) (g := g) (row := none) (by repeat (first | (with_reducible first | exact HK.out | apply KeepBut.set_ | apply keep_drewN | apply keep_drew | apply keep_alloc | refine keep_far ?_ GW119.out _ | refine keep_far ?_ GW123.out _) | exact HK.out))) : w.heap.size ≤ gb130) : w0.heap.size ≤ gb130)); replace HK := am_ (KeepBut.trans (by repeat (first | (with_reducible first | exact HK.out | apply KeepBut.set_ | apply keep_drewN | apply keep_drew | apply keep_alloc | refine keep_far ?_ GW119.out _ | refine keep_far ?_ GW123.out _) | exact HK.out)) (KeepBut.of_below hb g none) (.inl rfl)); have NB119_130 := am_ (Sh.nl hg BK119.out); have NB130_119 := am_ (Sh.ng hg BK119.out); replace BK119 := Sh.ab BK119 hb; have NB123_130 := am_ (Sh.nl hg BK123.out); have NB130_123 := am_ (Sh.ng hg BK123.out); replace BK123 := Sh.ab BK123 hb; have NB0_130 := am_ ((by rw [hg]; exact Nat.ne_of_lt (IsS49.lt (show IsS49 w0 _ g s0_0 t128 t129 from by repeat (first | (with_reducible first | exact HI0.out | apply IsS49.alloc | apply IsS49.drewN | apply IsS49.drew | apply IsS49.set_1 | apply IsS49.set_2 | refine IsS49.far ?_ NB0_119.out _ | refine IsS49.far ?_ NB0_123.out _) | exact HI0.out))) : g ≠ gb130)); have NB130_0 := am_ ((by rw [hg]; exact Nat.ne_of_gt (IsS49.lt (show IsS49 w0 _ g s0_0 t128 t129 from by repeat (first | (with_reducible first | exact HI0.out | apply IsS49.alloc | apply IsS49.drewN | apply IsS49.drew | apply IsS49.set_1 | apply IsS49.set_2 | refine IsS49.far ?_ NB0_119.out _ | refine IsS49.far ?_ NB0_123.out _) | exact HI0.out))) : gb130 ≠ g)); replace HI0 := am_ (IsS49.below (by repeat (first | (with_reducible first | exact HI0.out | apply IsS49.alloc | apply IsS49.drewN | apply IsS49.drew | apply IsS49.set_1 | apply IsS49.set_2 | refine IsS49.far ?_ NB0_119.out _ | refine IsS49.far ?_ NB0_123.out _) | exact HI0.out)) hb); clear hb hbox hg; have hnb16 := NB130_119.out; have hnc16 := NB119_130.out; have hnb17 := NB130_123.out; have hnc17 := NB123_130.out; have hnb18 := NB130_0.out; have hnc18 := NB0_130.out; obtain ⟨hcz19_0, hcz19_1, hcz19_2, hfz19_0, hfz19_1, hfz19_2⟩ := Sh.b3 BK130.out))
    (try simp only [Act.put, List.setIfInBounds_toArray, List.set_cons_zero, List.set_cons_succ])
    go_cut [] (fun wc => ∃ (kq : Nat) (x1001_12 : Int) (x1002_12 : Int) (x131001_12 : Int), Aside0 (spec_l1Cur_circuit.j1 kq x4_1 s0_0 x1001_12 x1002_12 (wrap64 (1 + t120)) x124001_1 (wrap64 (1 + t127)) x131001_12 0 = some (r1, r2, r3, r4, r5)) ∧ Aside0 (kq ≤ k1) ∧ Aside0 (Kd.R k66 66 wc w.heap.size (fun k_ => k_ ≠ gb130) u124001 x124001_1) ∧ Aside0 (wc.heap[gb119]? = some (.cells #[.int .i64 0, (.slice none 0 0), (.slice none 0 0)] 27 (0, 0))) ∧ Aside0 (wc.heap[gb123]? = some (.cells #[.int .i64 (wrap64 (1 + t120)), u124001, (.slice none 0 0)] 27 (0, 0))) ∧ Aside0 (wc.heap[gb130]? = some (.cells #[.int .i64 (wrap64 (1 + t127)), .int .i64 x131001_12, .int .i64 0] 66 (0, 0))) ∧ Aside0 (IsS49 w0 wc g s0_0 x1001_12 x1002_12) ∧ Aside0 (KeepBut w wc g none) ∧ Aside0 (Below w0.heap.size w0 wc))
    case first =>
     have H := HC13.out
     clear HC13
     by_cases c20 : (wrap64 (1 + t127)) = 1
     ·rw [if_pos c20] at H
      have c20b0 : ((wrap64 (1 + t127)) == 1) = true := beq_iff_eq.mpr c20
      have c20b1 : ((wrap64 (1 + t127)) != 1) = false := bne_eq_false_iff_eq.mpr c20
      clear c20
      first | rw [c20b0] | (simp only [i64_w, i32_w]; rw [c20b0]) | skip
      obtain ⟨⟨t131, t132, t133⟩, A210, H⟩ := Sh.bd H
      have A21 := am_ A210
      clear A210
      have H' := am_ H
      clear H
      go_wp2_with (first | ((with_reducible refine Sh.k 24 ?_); refine Sh.gL (some 24) Try.func24 #[.pointer (some ⟨g, 0, none⟩), .int .i64 2] (h := ?_); (with_reducible refine (spec_l1Cur_pick.calls g s0_0 t128 t129 2 t131 t132 t133 w0 _ ?side1 ?side2 A21.out).mono ?_); (case side1 => repeat (first | (with_reducible first | exact HI0.out | apply IsS49.alloc | apply IsS49.drewN | apply IsS49.drew | apply IsS49.set_1 | apply IsS49.set_2 | refine IsS49.far ?_ NB0_119.out _ | refine IsS49.far ?_ NB0_123.out _ | refine IsS49.far ?_ NB0_130.out _) | exact HI0.out)); (case side2 => repeat (first | (with_reducible first | exact HB.out | apply below_alloc | apply pw_below_drewN | apply below_drew1 | refine below_set ?_ (IsS49.ge HI0.out) | refine below_set ?_ GE119.out | refine below_set ?_ GE123.out | refine below_set ?_ GE130.out) | exact HB.out)); rintro e w22 ⟨rfl, hi, hb, hk⟩; refine ⟨_, rfl, ?_⟩; have n0_ := am_ (Kd.R_mono (Kd.R_keep (IsS49.apart (show IsS49 w0 _ g s0_0 t128 t129 from by repeat (first | (with_reducible first | exact HI0.out | apply IsS49.alloc | apply IsS49.drewN | apply IsS49.drew | apply IsS49.set_1 | apply IsS49.set_2 | refine IsS49.far ?_ NB0_119.out _ | refine IsS49.far ?_ NB0_123.out _ | refine IsS49.far ?_ NB0_130.out _) | exact HI0.out)) (Sh.rl (Kd.R_mono (Kd.R_far (p := ⟨gb130, 2, none⟩) (Kd.R_far (p := ⟨gb130, 1, none⟩) (Kd.R_far (p := ⟨gb130, 0, none⟩) (Kd.R_mono HO_124001.out (fun k_ hk => (⟨hk, hk.2⟩ : _ ∧ k_ ≠ gb130))) (fun _ hk => hk.2) (.int .i64 (wrap64 (1 + t127)))) (fun _ hk => hk.2) (.int .i64 0)) (fun _ hk => hk.2) (.int .i64 0)) (fun _ h_ => h_.1))) (by decide)) hk (fun _ h => h.2)) (fun _ h => h.1)); have n1_ := am_ (KeepBut.blk hk (g' := gb119) (o := .cells #[.int .i64 0, .slice none 0 0, .slice none 0 0] 27 (0, 0)) (by refine Sh.pl ?_; refine blk_far ?_ NB119_130.out _; refine Sh.pl ?_; refine blk_far ?_ NB119_130.out _; refine Sh.pl ?_; refine blk_far ?_ NB119_130.out _; refine Sh.pl ?_; exact BK119.out) NB119_0.out (by simp)); have n2_ := am_ (KeepBut.blk hk (g' := gb123) (o := .cells #[.int .i64 (wrap64 (1 + t120)), u124001, .slice none 0 0] 27 (0, 0)) (by refine Sh.pl ?_; refine blk_far ?_ NB123_130.out _; refine Sh.pl ?_; refine blk_far ?_ NB123_130.out _; refine Sh.pl ?_; refine blk_far ?_ NB123_130.out _; refine Sh.pl ?_; exact BK123.out) NB123_0.out (by simp)); have n3_ := am_ (KeepBut.blk hk (g' := gb130) (o := .cells #[.int .i64 (wrap64 (1 + t127)), .int .i64 0, .int .i64 0] 66 (0, 0)) (by refine Sh.pl ?_; refine blk_put (cs := #[.int .i64 (wrap64 (1 + t127)), .int .i64 0, .int .i64 0]) ?_ 2 _ rfl; refine Sh.pl ?_; refine blk_put (cs := #[.int .i64 (wrap64 (1 + t127)), .int .i64 0, .int .i64 0]) ?_ 1 _ rfl; refine Sh.pl ?_; refine blk_put (cs := #[.int .i64 0, .int .i64 0, .int .i64 0]) ?_ 0 _ rfl; refine Sh.pl ?_; exact BK130.out) NB130_0.out (by simp)); have n4_ := am_ (KeepBut.trans (by repeat (first | (with_reducible first | exact HK.out | apply KeepBut.set_ | apply keep_drewN | apply keep_drew | apply keep_alloc | refine keep_far ?_ GW119.out _ | refine keep_far ?_ GW123.out _ | refine keep_far ?_ GW130.out _) | exact HK.out)) hk (.inl rfl)); have n5_ := am_ hb; have n6_ := am_ hi; clear HO_124001; clear BK119; clear BK123; clear BK130; clear HK; clear HB; clear HI0; have HO_124001 := n0_; have BK119 := n1_; have BK123 := n2_; have BK130 := n3_; have HK := n4_; have HB := n5_; have HI0 := n6_; clear n0_ n1_ n2_ n3_ n4_ n5_ n6_; (try clear hb); (try clear hb2); (try clear hk); (try clear hi); have hnb23 := NB130_119.out; have hnc23 := NB119_130.out; have hnb24 := NB130_123.out; have hnc24 := NB123_130.out; have hnb25 := NB130_0.out; have hnc25 := NB0_130.out; obtain ⟨hcz26_0, hcz26_1, hcz26_2, hfz26_0, hfz26_1, hfz26_2⟩ := Sh.b3 BK130.out))
      go_meet
      case rel => exact ⟨_, (t132), (t133), (t131), H', ⟨by have := HK1.out; first | omega | exact Nat.le_refl _⟩, ⟨Sh.rl (Kd.R_mono (Kd.R_far (p := ⟨gb130, 1, none⟩) (Kd.R_mono HO_124001.out (fun k_ hk => (⟨hk, hk.2⟩ : _ ∧ k_ ≠ gb130))) (fun _ hk => hk.2) (.int .i64 t131)) (fun _ hk => hk.1.2))⟩, ⟨by refine Sh.pl ?_; refine blk_far ?_ NB119_130.out _; refine Sh.pl ?_; exact BK119.out⟩, ⟨by refine Sh.pl ?_; refine blk_far ?_ NB123_130.out _; refine Sh.pl ?_; exact BK123.out⟩, ⟨by refine Sh.pl ?_; refine blk_put (cs := #[.int .i64 (wrap64 (1 + t127)), .int .i64 0, .int .i64 0]) ?_ 1 _ rfl; refine Sh.pl ?_; exact BK130.out⟩, ⟨by repeat (first | (with_reducible first | exact HI0.out | apply IsS49.alloc | apply IsS49.drewN | apply IsS49.drew | apply IsS49.set_1 | apply IsS49.set_2 | refine IsS49.far ?_ NB0_119.out _ | refine IsS49.far ?_ NB0_123.out _ | refine IsS49.far ?_ NB0_130.out _) | exact HI0.out)⟩, ⟨by repeat (first | (with_reducible first | exact HK.out | apply KeepBut.set_ | apply keep_drewN | apply keep_drew | apply keep_alloc | refine keep_far ?_ GW119.out _ | refine keep_far ?_ GW123.out _ | refine keep_far ?_ GW130.out _) | exact HK.out)⟩, ⟨by repeat (first | (with_reducible first | exact HB.out | apply below_alloc | apply pw_below_drewN | apply below_drew1 | refine below_set ?_ (IsS49.ge HI0.out) | refine below_set ?_ GE119.out | refine below_set ?_ GE123.out | refine below_set ?_ GE130.out) | exact HB.out)⟩⟩
     ·rw [if_neg c20] at H
      have c20b0 : ((wrap64 (1 + t127)) == 1) = false := beq_eq_false_iff_ne.mpr c20
      have c20b1 : ((wrap64 (1 + t127)) != 1) = true := bne_iff_ne.mpr c20
      first | rw [c20b0] | (simp only [i64_w, i32_w]; rw [c20b0]) | skip
      obtain ⟨t134, A27, H⟩ := Sh.ba H
      obtain ⟨⟨t135, t136, t137⟩, A280, H⟩ := Sh.bd H
      have A28 := am_ A280
      clear A280
      have H' := am_ H
      clear H
      have hnb29 := NB123_119.out
      have hnc29 := NB119_123.out
      have hnb30 := NB123_130.out
      have hnc30 := NB130_123.out
      have hnb31 := NB123_0.out
      have hnc31 := NB0_123.out
      have hcz32_0 := Sh.bc BK123.out 0
      have hcz32_1 := Sh.bc BK123.out 1
      have hcz32_2 := Sh.bc BK123.out 2
      have hfz32_0 := blk_frozen BK123.out 0
      have hfz32_1 := blk_frozen BK123.out 1
      have hfz32_2 := blk_frozen BK123.out 2
      obtain ⟨Ao33, co33, eo33⟩ := Kd.R_slice HO_124001.out
      subst eo33
      go_wp2_with (first | ((with_reducible refine Sh.k 28 ?_); refine Sh.gL (some 28) Try.func28 #[.agg #[.int .i64 (wrap64 (1 + t120)), .slice Ao33 x124001_1.length co33, .slice none 0 0]] (h := ?_); (refine (spec_l4Wires.calls (wrap64 (1 + t120)) _ _ x124001_1 _ _ ([] : List Int) t134 _ ?side1 ?side2 ?side3 ?side4 A27.out).mono ?_); (case side1 => refine (Kd.R_reads' (e := 66) (base := w.heap.size) (ok := fun k_ => (True ∧ k_ ≠ gb130)) (n := x124001_1.length) (c := co33) ?_).2.2; exact (Sh.rl (Kd.R_mono (Kd.R_far (p := ⟨gb130, 2, none⟩) (Kd.R_far (p := ⟨gb130, 1, none⟩) (Kd.R_far (p := ⟨gb130, 0, none⟩) (Kd.R_mono HO_124001.out (fun k_ hk => (⟨hk, hk.2⟩ : _ ∧ k_ ≠ gb130))) (fun _ hk => hk.2) (.int .i64 (wrap64 (1 + t127)))) (fun _ hk => hk.2) (.int .i64 0)) (fun _ hk => hk.2) (.int .i64 0)) (fun _ h_ => h_.1)))); (case side2 => exact (Kd.R_reads' HO_124001.out).2.1); (case side3 => exact Kd.C_nil _ _); (case side4 => exact Nat.le_refl _); rintro e w34 ⟨rfl, hb⟩; refine ⟨_, rfl, ?_⟩; have n0_ := am_ (Kd.R_below (Sh.rl (Kd.R_mono (Kd.R_far (p := ⟨gb130, 2, none⟩) (Kd.R_far (p := ⟨gb130, 1, none⟩) (Kd.R_far (p := ⟨gb130, 0, none⟩) (Kd.R_mono HO_124001.out (fun k_ hk => (⟨hk, hk.2⟩ : _ ∧ k_ ≠ gb130))) (fun _ hk => hk.2) (.int .i64 (wrap64 (1 + t127)))) (fun _ hk => hk.2) (.int .i64 0)) (fun _ hk => hk.2) (.int .i64 0)) (fun _ h_ => h_.1))) hb); have n1_ := am_ (blk_below (g := gb119) (o := .cells #[.int .i64 0, .slice none 0 0, .slice none 0 0] 27 (0, 0)) (by refine Sh.pl ?_; refine blk_far ?_ NB119_130.out _; refine Sh.pl ?_; refine blk_far ?_ NB119_130.out _; refine Sh.pl ?_; refine blk_far ?_ NB119_130.out _; refine Sh.pl ?_; exact BK119.out) hb); have n2_ := am_ (blk_below (g := gb123) (o := .cells #[.int .i64 (wrap64 (1 + t120)), .slice Ao33 x124001_1.length co33, .slice none 0 0] 27 (0, 0)) (by refine Sh.pl ?_; refine blk_far ?_ NB123_130.out _; refine Sh.pl ?_; refine blk_far ?_ NB123_130.out _; refine Sh.pl ?_; refine blk_far ?_ NB123_130.out _; refine Sh.pl ?_; exact BK123.out) hb); have n3_ := am_ (IsS49.below (show IsS49 w0 (((w15.setCell ⟨gb130, 0, none⟩ (.int .i64 (wrap64 (1 + t127)))).setCell ⟨gb130, 1, none⟩ (.int .i64 0)).setCell ⟨gb130, 2, none⟩ (.int .i64 0)) g s0_0 t128 t129 from by repeat (first | (with_reducible first | exact HI0.out | apply IsS49.alloc | apply IsS49.drewN | apply IsS49.drew | apply IsS49.set_1 | apply IsS49.set_2 | refine IsS49.far ?_ NB0_119.out _ | refine IsS49.far ?_ NB0_123.out _ | refine IsS49.far ?_ NB0_130.out _) | exact HI0.out)) hb); have n4_ := am_ (blk_below (g := gb130) (o := .cells #[.int .i64 (wrap64 (1 + t127)), .int .i64 0, .int .i64 0] 66 (0, 0)) (by refine Sh.pl ?_; refine blk_put (cs := #[.int .i64 (wrap64 (1 + t127)), .int .i64 0, .int .i64 0]) ?_ 2 _ rfl; refine Sh.pl ?_; refine blk_put (cs := #[.int .i64 (wrap64 (1 + t127)), .int .i64 0, .int .i64 0]) ?_ 1 _ rfl; refine Sh.pl ?_; refine blk_put (cs := #[.int .i64 0, .int .i64 0, .int .i64 0]) ?_ 0 _ rfl; refine Sh.pl ?_; exact BK130.out) hb); have n5_ := am_ (KeepBut.trans (by repeat (first | (with_reducible first | exact HK.out | apply KeepBut.set_ | apply keep_drewN | apply keep_drew | apply keep_alloc | refine keep_far ?_ GW119.out _ | refine keep_far ?_ GW123.out _ | refine keep_far ?_ GW130.out _) | exact HK.out)) (KeepBut.of_below hb g none) (.inl rfl)); have n6_ := am_ (below_step (by repeat (first | (with_reducible first | exact HB.out | apply below_alloc | apply pw_below_drewN | apply below_drew1 | refine below_set ?_ (IsS49.ge HI0.out) | refine below_set ?_ GE119.out | refine below_set ?_ GE123.out | refine below_set ?_ GE130.out) | exact HB.out)) hb); clear HO_124001; clear BK119; clear BK123; clear HI0; clear BK130; clear HK; clear HB; have HO_124001 := n0_; have BK119 := n1_; have BK123 := n2_; have HI0 := n3_; have BK130 := n4_; have HK := n5_; have HB := n6_; clear n0_ n1_ n2_ n3_ n4_ n5_ n6_; (try clear hb); (try clear hb2); (try clear hk); (try clear hi)) | ((with_reducible refine Sh.k 24 ?_); refine Sh.gL (some 29) Try.func24 #[.pointer (some ⟨g, 0, none⟩), .int .i64 t134] (h := ?_); (with_reducible refine (spec_l1Cur_pick.calls g s0_0 t128 t129 t134 t135 t136 t137 w0 _ ?side1 ?side2 A28.out).mono ?_); (case side1 => repeat (first | (with_reducible first | exact HI0.out | apply IsS49.alloc | apply IsS49.drewN | apply IsS49.drew | apply IsS49.set_1 | apply IsS49.set_2 | refine IsS49.far ?_ NB0_119.out _ | refine IsS49.far ?_ NB0_123.out _ | refine IsS49.far ?_ NB0_130.out _) | exact HI0.out)); (case side2 => repeat (first | (with_reducible first | exact HB.out | apply below_alloc | apply pw_below_drewN | apply below_drew1 | refine below_set ?_ (IsS49.ge HI0.out) | refine below_set ?_ GE119.out | refine below_set ?_ GE123.out | refine below_set ?_ GE130.out) | exact HB.out)); rintro e w35 ⟨rfl, hi, hb, hk⟩; refine ⟨_, rfl, ?_⟩; replace HO_124001 := am_ (Kd.R_mono (Kd.R_keep (IsS49.apart (show IsS49 w0 _ g s0_0 t128 t129 from by repeat (first | (with_reducible first | exact HI0.out | apply IsS49.alloc | apply IsS49.drewN | apply IsS49.drew | apply IsS49.set_1 | apply IsS49.set_2 | refine IsS49.far ?_ NB0_119.out _ | refine IsS49.far ?_ NB0_123.out _ | refine IsS49.far ?_ NB0_130.out _) | exact HI0.out)) (Sh.rl HO_124001.out) (by decide)) hk (fun _ h => h.2)) (fun _ h => h.1)); replace BK119 := am_ (KeepBut.blk hk (g' := gb119) (o := .cells #[.int .i64 0, .slice none 0 0, .slice none 0 0] 27 (0, 0)) (Sh.pl BK119.out) NB119_0.out (by simp)); replace BK123 := am_ (KeepBut.blk hk (g' := gb123) (o := .cells #[.int .i64 (wrap64 (1 + t120)), .slice Ao33 x124001_1.length co33, .slice none 0 0] 27 (0, 0)) (Sh.pl BK123.out) NB123_0.out (by simp)); replace BK130 := am_ (KeepBut.blk hk (g' := gb130) (o := .cells #[.int .i64 (wrap64 (1 + t127)), .int .i64 0, .int .i64 0] 66 (0, 0)) (Sh.pl BK130.out) NB130_0.out (by simp)); replace HK := am_ (KeepBut.trans (by repeat (first | (with_reducible first | exact HK.out | apply KeepBut.set_ | apply keep_drewN | apply keep_drew | apply keep_alloc | refine keep_far ?_ GW119.out _ | refine keep_far ?_ GW123.out _ | refine keep_far ?_ GW130.out _) | exact HK.out)) hk (.inl rfl)); replace HB := am_ hb; replace HI0 := am_ hi; (try clear hb); (try clear hb2); (try clear hk); (try clear hi); have hnb36 := NB130_119.out; have hnc36 := NB119_130.out; have hnb37 := NB130_0.out; have hnc37 := NB0_130.out; obtain ⟨hcz38_0, hcz38_1, hcz38_2, hfz38_0, hfz38_1, hfz38_2⟩ := Sh.b3 BK130.out))
      go_meet
      case rel => exact ⟨_, (t136), (t137), (t135), H', ⟨by have := HK1.out; first | omega | exact Nat.le_refl _⟩, ⟨Sh.rl (Kd.R_mono (Kd.R_far (p := ⟨gb130, 1, none⟩) (Kd.R_mono HO_124001.out (fun k_ hk => (⟨hk, hk.2⟩ : _ ∧ k_ ≠ gb130))) (fun _ hk => hk.2) (.int .i64 t135)) (fun _ hk => hk.1.2))⟩, ⟨by refine Sh.pl ?_; refine blk_far ?_ NB119_130.out _; refine Sh.pl ?_; exact BK119.out⟩, ⟨by refine Sh.pl ?_; refine blk_far ?_ NB123_130.out _; refine Sh.pl ?_; exact BK123.out⟩, ⟨by refine Sh.pl ?_; refine blk_put (cs := #[.int .i64 (wrap64 (1 + t127)), .int .i64 0, .int .i64 0]) ?_ 1 _ rfl; refine Sh.pl ?_; exact BK130.out⟩, ⟨by repeat (first | (with_reducible first | exact HI0.out | apply IsS49.alloc | apply IsS49.drewN | apply IsS49.drew | apply IsS49.set_1 | apply IsS49.set_2 | refine IsS49.far ?_ NB0_119.out _ | refine IsS49.far ?_ NB0_123.out _ | refine IsS49.far ?_ NB0_130.out _) | exact HI0.out)⟩, ⟨by repeat (first | (with_reducible first | exact HK.out | apply KeepBut.set_ | apply keep_drewN | apply keep_drew | apply keep_alloc | refine keep_far ?_ GW119.out _ | refine keep_far ?_ GW123.out _ | refine keep_far ?_ GW130.out _) | exact HK.out)⟩, ⟨by repeat (first | (with_reducible first | exact HB.out | apply below_alloc | apply pw_below_drewN | apply below_drew1 | refine below_set ?_ (IsS49.ge HI0.out) | refine below_set ?_ GE119.out | refine below_set ?_ GE123.out | refine below_set ?_ GE130.out) | exact HB.out)⟩⟩
    case rest =>
     clear HC13
     try clear hcz19_0
     try clear hcz19_1
     try clear hcz19_2
     try clear hcz26_0
     try clear hcz26_1
     try clear hcz26_2
     try clear hcz32_0
     try clear hcz32_1
     try clear hcz32_2
     try clear hcz38_0
     try clear hcz38_1
     try clear hcz38_2
     try clear hcz9_0
     try clear hcz9_1
     try clear hcz9_2
     try clear hfz19_0
     try clear hfz19_1
     try clear hfz19_2
     try clear hfz26_0
     try clear hfz26_1
     try clear hfz26_2
     try clear hfz32_0
     try clear hfz32_1
     try clear hfz32_2
     try clear hfz38_0
     try clear hfz38_1
     try clear hfz38_2
     try clear hfz9_0
     try clear hfz9_1
     try clear hfz9_2
     obtain ⟨kq, x1001_12, x1002_12, x131001_12, HA, HJ12, HO_124001, BK119, BK123, BK130, HI0, HK, HB⟩ := hcut
     cases kq with
     | zero => exact absurd HA.out (by simp [spec_l1Cur_circuit.j1])
     | succ kj12 =>
      have H := HA.out
      clear HA
      simp only [spec_l1Cur_circuit.j1] at H
      by_cases c39 : (wrap64 (1 + t127)) > 2
      ·rw [if_pos c39] at H
       have c39b0 : decide (2 < (wrap64 (1 + t127))) = true := decide_eq_true c39
       clear c39
       obtain ⟨t138, A40, H⟩ := Sh.ba H
       obtain ⟨⟨t139, t140, t141⟩, A410, H⟩ := Sh.bd H
       have A41 := am_ A410
       clear A410
       by_cases c42 : x124001_1.length < 5864062014805
       ·rw [if_pos c42] at H
        have LMc42 := am_ c42
        clear c42
        obtain ⟨y142, hy142⟩ : ∃ y_ : List (S66), y_ = (x124001_1 ++ [(⟨(wrap64 (1 + t127)), x131001_12, t139⟩ : S66)]) := ⟨_, rfl⟩
        replace H : (spec_l1Cur_circuit.l0 kj12 (wrap64 (x4_1 - 1)) s0_0 t140 t141 (wrap64 (1 + t120)) y142) = some (r1, r2, r3, r4, r5) := by first | (rw [hy142]; with_reducible exact H) | (have H2_ := (Option.bind_some _ _).symm.trans H; rw [hy142]; with_reducible exact H2_) | (have H2_ := (Option.bind_some _ _).symm.trans H; with_reducible exact H2_) | with_reducible exact H | (rw [hy142]; exact H) | exact H
        have Ny142 := am_ hy142
        clear hy142
        have H' := am_ H
        clear H
        have hnb43 := NB130_119.out
        have hnc43 := NB119_130.out
        have hnb44 := NB130_123.out
        have hnc44 := NB123_130.out
        have hnb45 := NB130_0.out
        have hnc45 := NB0_130.out
        have hcz46_0 := Sh.bc BK130.out 0
        have hcz46_1 := Sh.bc BK130.out 1
        have hcz46_2 := Sh.bc BK130.out 2
        have hfz46_0 := blk_frozen BK130.out 0
        have hfz46_1 := blk_frozen BK130.out 1
        have hfz46_2 := blk_frozen BK130.out 2
        have hnb47 := NB123_119.out
        have hnc47 := NB119_123.out
        have hnb48 := NB123_0.out
        have hnc48 := NB0_123.out
        have hcz49_0 := Sh.bc BK123.out 0
        have hcz49_1 := Sh.bc BK123.out 1
        have hcz49_2 := Sh.bc BK123.out 2
        have hfz49_0 := blk_frozen BK123.out 0
        have hfz49_1 := blk_frozen BK123.out 1
        have hfz49_2 := blk_frozen BK123.out 2
        obtain ⟨Ao50, co50, eo50⟩ := Kd.R_slice HO_124001.out
        subst eo50
        go_wp2_with (first | ((with_reducible refine Sh.k 28 ?_); refine Sh.gL (some 36) Try.func28 #[.agg #[.int .i64 (wrap64 (1 + t120)), .slice Ao50 x124001_1.length co50, .slice none 0 0]] (h := ?_); (refine (spec_l4Wires.calls (wrap64 (1 + t120)) _ _ x124001_1 _ _ ([] : List Int) t138 _ ?side1 ?side2 ?side3 ?side4 A40.out).mono ?_); (case side1 => repeat (first | exact (Kd.R_reads' HO_124001.out).2.2 | (with_reducible first | refine Kd.C_alloc ?_ _ | refine Kd.C_drewN ?_ _ | refine Kd.C_drew ?_))); (case side2 => exact (Kd.R_reads' HO_124001.out).2.1); (case side3 => exact Kd.C_nil _ _); (case side4 => exact Nat.le_refl _); rintro e w51 ⟨rfl, hb⟩; refine ⟨_, rfl, ?_⟩; replace HO_124001 := am_ (Kd.R_below (Sh.rl HO_124001.out) hb); replace BK119 := Sh.ab BK119 hb; replace BK123 := Sh.ab BK123 hb; replace BK130 := Sh.ab BK130 hb; replace HK := am_ (KeepBut.trans (by repeat (first | (with_reducible first | exact HK.out | apply KeepBut.set_ | apply keep_drewN | apply keep_drew | apply keep_alloc | refine keep_far ?_ GW119.out _ | refine keep_far ?_ GW123.out _ | refine keep_far ?_ GW130.out _) | exact HK.out)) (KeepBut.of_below hb g none) (.inl rfl)); replace HB := am_ (below_step (by repeat (first | (with_reducible first | exact HB.out | apply below_alloc | apply pw_below_drewN | apply below_drew1 | refine below_set ?_ (IsS49.ge HI0.out) | refine below_set ?_ GE119.out | refine below_set ?_ GE123.out | refine below_set ?_ GE130.out) | exact HB.out)) hb); replace HI0 := am_ (IsS49.below (by repeat (first | (with_reducible first | exact HI0.out | apply IsS49.alloc | apply IsS49.drewN | apply IsS49.drew | apply IsS49.set_1 | apply IsS49.set_2 | refine IsS49.far ?_ NB0_119.out _ | refine IsS49.far ?_ NB0_123.out _ | refine IsS49.far ?_ NB0_130.out _) | exact HI0.out)) hb); (try clear hb); (try clear hb2); (try clear hk); (try clear hi)) | ((with_reducible refine Sh.k 24 ?_); refine Sh.gL (some 37) Try.func24 #[.pointer (some ⟨g, 0, none⟩), .int .i64 t138] (h := ?_); (with_reducible refine (spec_l1Cur_pick.calls g s0_0 x1001_12 x1002_12 t138 t139 t140 t141 w0 _ ?side1 ?side2 A41.out).mono ?_); (case side1 => repeat (first | (with_reducible first | exact HI0.out | apply IsS49.alloc | apply IsS49.drewN | apply IsS49.drew | apply IsS49.set_1 | apply IsS49.set_2 | refine IsS49.far ?_ NB0_119.out _ | refine IsS49.far ?_ NB0_123.out _ | refine IsS49.far ?_ NB0_130.out _) | exact HI0.out)); (case side2 => repeat (first | (with_reducible first | exact HB.out | apply below_alloc | apply pw_below_drewN | apply below_drew1 | refine below_set ?_ (IsS49.ge HI0.out) | refine below_set ?_ GE119.out | refine below_set ?_ GE123.out | refine below_set ?_ GE130.out) | exact HB.out)); rintro e w52 ⟨rfl, hi, hb, hk⟩; refine ⟨_, rfl, ?_⟩; replace HO_124001 := am_ (Kd.R_mono (Kd.R_keep (IsS49.apart (show IsS49 w0 _ g s0_0 x1001_12 x1002_12 from by repeat (first | (with_reducible first | exact HI0.out | apply IsS49.alloc | apply IsS49.drewN | apply IsS49.drew | apply IsS49.set_1 | apply IsS49.set_2 | refine IsS49.far ?_ NB0_119.out _ | refine IsS49.far ?_ NB0_123.out _ | refine IsS49.far ?_ NB0_130.out _) | exact HI0.out)) (Sh.rl HO_124001.out) (by decide)) hk (fun _ h => h.2)) (fun _ h => h.1)); replace BK119 := am_ (KeepBut.blk hk (g' := gb119) (o := .cells #[.int .i64 0, .slice none 0 0, .slice none 0 0] 27 (0, 0)) (Sh.pl BK119.out) NB119_0.out (by simp)); replace BK123 := am_ (KeepBut.blk hk (g' := gb123) (o := .cells #[.int .i64 (wrap64 (1 + t120)), .slice Ao50 x124001_1.length co50, .slice none 0 0] 27 (0, 0)) (Sh.pl BK123.out) NB123_0.out (by simp)); replace BK130 := am_ (KeepBut.blk hk (g' := gb130) (o := .cells #[.int .i64 (wrap64 (1 + t127)), .int .i64 x131001_12, .int .i64 0] 66 (0, 0)) (Sh.pl BK130.out) NB130_0.out (by simp)); replace HK := am_ (KeepBut.trans (by repeat (first | (with_reducible first | exact HK.out | apply KeepBut.set_ | apply keep_drewN | apply keep_drew | apply keep_alloc | refine keep_far ?_ GW119.out _ | refine keep_far ?_ GW123.out _ | refine keep_far ?_ GW130.out _) | exact HK.out)) hk (.inl rfl)); replace HB := am_ hb; replace HI0 := am_ hi; (try clear hb); (try clear hb2); (try clear hk); (try clear hi); obtain ⟨hcz53_0, hcz53_1, hcz53_2, hfz53_0, hfz53_1, hfz53_2⟩ := Sh.b3 BK130.out; obtain ⟨hcz54_0, hcz54_1, hcz54_2, hfz54_0, hfz54_1, hfz54_2⟩ := Sh.b3 BK123.out) | ((with_reducible refine gate_builtin (b := .append) (xs := #[.tmp 40, .tmp 42]) rfl ?_); at_builtin; refine Kd.R_append k66 w.heap.size rfl (.tmp 40) (.tmp 42) 24 66 (.agg #[(.int .i64 0), (.int .i64 0), (.int .i64 0)]) 24 rfl Try.underlying24 info66 rfl (by decide) (by omega) (.slice Ao50 x124001_1.length co50) x124001_1 (⟨(wrap64 (1 + t127)), x131001_12, t139⟩ : S66) [.int .i64 (wrap64 (1 + t127)), .int .i64 x131001_12, .int .i64 t139] (fun k_ => k_ ≠ gb130) (fun _ => False) rfl (by first | (go_simp; done) | (go_simp; rfl) | (refine Eq.trans (b := Value.slice (some ⟨_, 0, none⟩) 1 1) rfl ?_; simp [World.setCell])) ?aP (fun _ hk => hk.elim) ?aF ?aO (Below.refl _ _) ?aS ?aL ?_; (case aP => exact k66_mkM _ _ _ (⟨(wrap64 (1 + t127)), x131001_12, t139⟩ : S66)); (case aF => exact (fun k_ hk => Kd.freshB (g := gb130) (o := .cells #[.int .i64 (wrap64 (1 + t127)), .int .i64 x131001_12, .int .i64 t139] 66 (0, 0)) (by refine Sh.pl ?_; refine blk_put (cs := #[.int .i64 (wrap64 (1 + t127)), .int .i64 x131001_12, .int .i64 0]) ?_ 2 _ rfl; refine Sh.pl ?_; exact BK130.out) k_ hk)); (case aO => exact (Sh.rl (Kd.R_mono (Kd.R_far (p := ⟨gb130, 2, none⟩) (Kd.R_mono HO_124001.out (fun k_ hk => (⟨hk, hk⟩ : _ ∧ k_ ≠ gb130))) (fun _ hk => hk.2) (.int .i64 t139)) (fun _ hk => hk.1)))); (case aS => exact (keep_size (w := w) (g := g) (row := none) (by repeat (first | (with_reducible first | exact HK.out | apply KeepBut.set_ | apply keep_drewN | apply keep_drew | apply keep_alloc | refine keep_far ?_ GW119.out _ | refine keep_far ?_ GW123.out _ | refine keep_far ?_ GW130.out _) | exact HK.out)))); (case aL => have := LMc42.out; omega); intro v143 w55 ho hb hg hat; rw [← Ny142.out] at ho; have n0_ := am_ (blk_grown (g := gb119) (o := .cells #[.int .i64 0, .slice none 0 0, .slice none 0 0] 27 (0, 0)) (by refine Sh.pl ?_; refine blk_far ?_ NB119_130.out _; refine Sh.pl ?_; exact BK119.out) hg (Kd.R_ne HO_124001.out BK119.out (by decide))); have n1_ := am_ (blk_grown (g := gb123) (o := .cells #[.int .i64 (wrap64 (1 + t120)), .slice Ao50 x124001_1.length co50, .slice none 0 0] 27 (0, 0)) (by refine Sh.pl ?_; refine blk_far ?_ NB123_130.out _; refine Sh.pl ?_; exact BK123.out) hg (Kd.R_ne HO_124001.out BK123.out (by decide))); have n2_ := am_ (blk_grown (g := gb130) (o := .cells #[.int .i64 (wrap64 (1 + t127)), .int .i64 x131001_12, .int .i64 t139] 66 (0, 0)) (by refine Sh.pl ?_; refine blk_put (cs := #[.int .i64 (wrap64 (1 + t127)), .int .i64 x131001_12, .int .i64 0]) ?_ 2 _ rfl; refine Sh.pl ?_; exact BK130.out) hg (Kd.R_away HO_124001.out (fun _ hk => hk))); have n3_ := am_ (IsS49.grown (IsS49.far HI0.out NB0_130.out _) hg (IsS49.own_ne HI0.out HO_124001.out (by decide))); have n4_ := am_ (below_weaken (by repeat (first | (with_reducible first | exact HB.out | apply below_alloc | apply pw_below_drewN | apply below_drew1 | refine below_set ?_ (IsS49.ge HI0.out) | refine below_set ?_ GE119.out | refine below_set ?_ GE123.out | refine below_set ?_ GE130.out) | exact HB.out)) HL.out hb); have n5_ := am_ (KeepBut.trans (by repeat (first | (with_reducible first | exact HK.out | apply KeepBut.set_ | apply keep_drewN | apply keep_drew | apply keep_alloc | refine keep_far ?_ GW119.out _ | refine keep_far ?_ GW123.out _ | refine keep_far ?_ GW130.out _) | exact HK.out)) (KeepBut.of_grown hg g) (Kd.R_base2 HO_124001.out)); have n6_ := am_ ho; clear BK119; clear BK123; clear BK130; clear HI0; clear HB; clear HK; clear HO_124001; have BK119 := n0_; have BK123 := n1_; have BK130 := n2_; have HI0 := n3_; have HB := n4_; have HK := n5_; have HO144 := n6_; clear n0_ n1_ n2_ n3_ n4_ n5_ n6_; clear ho hb hg hat; obtain ⟨Ao56, co56, eo56⟩ := Kd.R_slice HO144.out; subst eo56; obtain ⟨hcz57_0, hcz57_1, hcz57_2, hfz57_0, hfz57_1, hfz57_2⟩ := Sh.b3 BK123.out))
        go_roundg kj12
        case measure => have := HK1.out; have := HJ12.out; omega
        case rel => exact ⟨(wrap64 (x4_1 - 1)), (t140), (t141), (y142), (.slice Ao56 y142.length co56), (Sh.es), H', ⟨by have := HK1.out; have := HJ12.out; omega⟩, ⟨Sh.rl (Kd.R_mono (Kd.R_far (p := ⟨gb123, 1, none⟩) (Kd.R_types HO144.out BK123.out (by decide)) (fun _ hk => hk.2) (.slice Ao56 y142.length co56)) (fun _ hk => trivial))⟩, ⟨by refine Sh.pl ?_; refine blk_far ?_ NB119_123.out _; refine Sh.pl ?_; exact BK119.out⟩, ⟨by refine Sh.pl ?_; refine blk_put (cs := #[.int .i64 (wrap64 (1 + t120)), .slice Ao50 x124001_1.length co50, .slice none 0 0]) ?_ 1 _ rfl; refine Sh.pl ?_; exact BK123.out⟩, ⟨by repeat (first | (with_reducible first | exact HI0.out | apply IsS49.alloc | apply IsS49.drewN | apply IsS49.drew | apply IsS49.set_1 | apply IsS49.set_2 | refine IsS49.far ?_ NB0_119.out _ | refine IsS49.far ?_ NB0_123.out _ | refine IsS49.far ?_ NB0_130.out _) | exact HI0.out)⟩, ⟨by repeat (first | (with_reducible first | exact HK.out | apply KeepBut.set_ | apply keep_drewN | apply keep_drew | apply keep_alloc | refine keep_far ?_ GW119.out _ | refine keep_far ?_ GW123.out _ | refine keep_far ?_ GW130.out _) | exact HK.out)⟩, ⟨by repeat (first | (with_reducible first | exact HB.out | apply below_alloc | apply pw_below_drewN | apply below_drew1 | refine below_set ?_ (IsS49.ge HI0.out) | refine below_set ?_ GE119.out | refine below_set ?_ GE123.out | refine below_set ?_ GE130.out) | exact HB.out)⟩⟩
       ·rw [if_neg c42] at H
        exact absurd H (by simp)
      ·rw [if_neg c39] at H
       have c39b0 : decide (2 < (wrap64 (1 + t127))) = false := decide_eq_false c39
       clear c39
       by_cases c58 : x124001_1.length < 5864062014805
       ·rw [if_pos c58] at H
        have LMc58 := am_ c58
        clear c58
        obtain ⟨y145, hy145⟩ : ∃ y_ : List (S66), y_ = (x124001_1 ++ [(⟨(wrap64 (1 + t127)), x131001_12, 0⟩ : S66)]) := ⟨_, rfl⟩
        replace H : (spec_l1Cur_circuit.l0 kj12 (wrap64 (x4_1 - 1)) s0_0 x1001_12 x1002_12 (wrap64 (1 + t120)) y145) = some (r1, r2, r3, r4, r5) := by first | (rw [hy145]; with_reducible exact H) | (have H2_ := (Option.bind_some _ _).symm.trans H; rw [hy145]; with_reducible exact H2_) | (have H2_ := (Option.bind_some _ _).symm.trans H; with_reducible exact H2_) | with_reducible exact H | (rw [hy145]; exact H) | exact H
        have Ny145 := am_ hy145
        clear hy145
        have H' := am_ H
        clear H
        have hnb59 := NB130_119.out
        have hnc59 := NB119_130.out
        have hnb60 := NB130_123.out
        have hnc60 := NB123_130.out
        have hnb61 := NB130_0.out
        have hnc61 := NB0_130.out
        have hcz62_0 := Sh.bc BK130.out 0
        have hcz62_1 := Sh.bc BK130.out 1
        have hcz62_2 := Sh.bc BK130.out 2
        have hfz62_0 := blk_frozen BK130.out 0
        have hfz62_1 := blk_frozen BK130.out 1
        have hfz62_2 := blk_frozen BK130.out 2
        have hnb63 := NB123_119.out
        have hnc63 := NB119_123.out
        have hnb64 := NB123_0.out
        have hnc64 := NB0_123.out
        have hcz65_0 := Sh.bc BK123.out 0
        have hcz65_1 := Sh.bc BK123.out 1
        have hcz65_2 := Sh.bc BK123.out 2
        have hfz65_0 := blk_frozen BK123.out 0
        have hfz65_1 := blk_frozen BK123.out 1
        have hfz65_2 := blk_frozen BK123.out 2
        go_wp2_with (first | ((with_reducible refine gate_builtin (b := .append) (xs := #[.tmp 40, .tmp 42]) rfl ?_); at_builtin; refine Kd.R_append k66 w.heap.size rfl (.tmp 40) (.tmp 42) 24 66 (.agg #[(.int .i64 0), (.int .i64 0), (.int .i64 0)]) 24 rfl Try.underlying24 info66 rfl (by decide) (by omega) u124001 x124001_1 (⟨(wrap64 (1 + t127)), x131001_12, 0⟩ : S66) [.int .i64 (wrap64 (1 + t127)), .int .i64 x131001_12, .int .i64 0] (fun k_ => k_ ≠ gb130) (fun _ => False) rfl rfl ?aP (fun _ hk => hk.elim) ?aF ?aO (Below.refl _ _) ?aS ?aL ?_; (case aP => exact k66_mkM _ _ _ (⟨(wrap64 (1 + t127)), x131001_12, 0⟩ : S66)); (case aF => exact (fun k_ hk => Kd.freshB (g := gb130) (o := .cells #[.int .i64 (wrap64 (1 + t127)), .int .i64 x131001_12, .int .i64 0] 66 (0, 0)) (Sh.pl BK130.out) k_ hk)); (case aO => exact (Sh.rl HO_124001.out)); (case aS => exact (keep_size (w := w) (g := g) (row := none) (by repeat (first | (with_reducible first | exact HK.out | apply KeepBut.set_ | apply keep_drewN | apply keep_drew | apply keep_alloc | refine keep_far ?_ GW119.out _ | refine keep_far ?_ GW123.out _ | refine keep_far ?_ GW130.out _) | exact HK.out)))); (case aL => have := LMc58.out; omega); intro v146 w66 ho hb hg hat; rw [← Ny145.out] at ho; have n0_ := am_ (blk_grown (g := gb119) (o := .cells #[.int .i64 0, .slice none 0 0, .slice none 0 0] 27 (0, 0)) (Sh.pl BK119.out) hg (Kd.R_ne HO_124001.out BK119.out (by decide))); have n1_ := am_ (blk_grown (g := gb123) (o := .cells #[.int .i64 (wrap64 (1 + t120)), u124001, .slice none 0 0] 27 (0, 0)) (Sh.pl BK123.out) hg (Kd.R_ne HO_124001.out BK123.out (by decide))); have n2_ := am_ (blk_grown (g := gb130) (o := .cells #[.int .i64 (wrap64 (1 + t127)), .int .i64 x131001_12, .int .i64 0] 66 (0, 0)) (Sh.pl BK130.out) hg (Kd.R_away HO_124001.out (fun _ hk => hk))); have n3_ := am_ (IsS49.grown (by repeat (first | (with_reducible first | exact HI0.out | apply IsS49.alloc | apply IsS49.drewN | apply IsS49.drew | apply IsS49.set_1 | apply IsS49.set_2 | refine IsS49.far ?_ NB0_119.out _ | refine IsS49.far ?_ NB0_123.out _ | refine IsS49.far ?_ NB0_130.out _) | exact HI0.out)) hg (IsS49.own_ne HI0.out HO_124001.out (by decide))); have n4_ := am_ (below_weaken (by repeat (first | (with_reducible first | exact HB.out | apply below_alloc | apply pw_below_drewN | apply below_drew1 | refine below_set ?_ (IsS49.ge HI0.out) | refine below_set ?_ GE119.out | refine below_set ?_ GE123.out | refine below_set ?_ GE130.out) | exact HB.out)) HL.out hb); have n5_ := am_ (KeepBut.trans (by repeat (first | (with_reducible first | exact HK.out | apply KeepBut.set_ | apply keep_drewN | apply keep_drew | apply keep_alloc | refine keep_far ?_ GW119.out _ | refine keep_far ?_ GW123.out _ | refine keep_far ?_ GW130.out _) | exact HK.out)) (KeepBut.of_grown hg g) (Kd.R_base2 HO_124001.out)); have n6_ := am_ ho; clear BK119; clear BK123; clear BK130; clear HI0; clear HB; clear HK; clear HO_124001; have BK119 := n0_; have BK123 := n1_; have BK130 := n2_; have HI0 := n3_; have HB := n4_; have HK := n5_; have HO147 := n6_; clear n0_ n1_ n2_ n3_ n4_ n5_ n6_; clear ho hb hg hat; obtain ⟨Ao67, co67, eo67⟩ := Kd.R_slice HO147.out; subst eo67; obtain ⟨hcz68_0, hcz68_1, hcz68_2, hfz68_0, hfz68_1, hfz68_2⟩ := Sh.b3 BK123.out))
        go_roundg kj12
        case measure => have := HK1.out; have := HJ12.out; omega
        case rel => exact ⟨(wrap64 (x4_1 - 1)), (x1001_12), (x1002_12), (y145), (.slice Ao67 y145.length co67), (Sh.es), H', ⟨by have := HK1.out; have := HJ12.out; omega⟩, ⟨Sh.rl (Kd.R_mono (Kd.R_far (p := ⟨gb123, 1, none⟩) (Kd.R_types HO147.out BK123.out (by decide)) (fun _ hk => hk.2) (.slice Ao67 y145.length co67)) (fun _ hk => trivial))⟩, ⟨by refine Sh.pl ?_; refine blk_far ?_ NB119_123.out _; refine Sh.pl ?_; exact BK119.out⟩, ⟨by refine Sh.pl ?_; refine blk_put (cs := #[.int .i64 (wrap64 (1 + t120)), u124001, .slice none 0 0]) ?_ 1 _ rfl; refine Sh.pl ?_; exact BK123.out⟩, ⟨by repeat (first | (with_reducible first | exact HI0.out | apply IsS49.alloc | apply IsS49.drewN | apply IsS49.drew | apply IsS49.set_1 | apply IsS49.set_2 | refine IsS49.far ?_ NB0_119.out _ | refine IsS49.far ?_ NB0_123.out _ | refine IsS49.far ?_ NB0_130.out _) | exact HI0.out)⟩, ⟨by repeat (first | (with_reducible first | exact HK.out | apply KeepBut.set_ | apply keep_drewN | apply keep_drew | apply keep_alloc | refine keep_far ?_ GW119.out _ | refine keep_far ?_ GW123.out _ | refine keep_far ?_ GW130.out _) | exact HK.out)⟩, ⟨by repeat (first | (with_reducible first | exact HB.out | apply below_alloc | apply pw_below_drewN | apply below_drew1 | refine below_set ?_ (IsS49.ge HI0.out) | refine below_set ?_ GE119.out | refine below_set ?_ GE123.out | refine below_set ?_ GE130.out) | exact HB.out)⟩⟩
       ·rw [if_neg c58] at H
        exact absurd H (by simp)
   ·rw [if_neg c11] at H
    have c11b0 : decide (0 < x4_1) = false := decide_eq_false c11
    clear c11
    obtain ⟨t148, A69, H⟩ := Sh.ba H
    obtain ⟨⟨t149, t150, t151⟩, A700, H⟩ := Sh.bd H
    have A70 := am_ A700
    clear A700
    obtain ⟨⟨t152, t155, t156⟩, A710, H⟩ := Sh.bd H
    have A71 := am_ A710
    clear A710
    obtain ⟨⟨t157, t158, t159⟩, A720, H⟩ := Sh.bd H
    have A72 := am_ A720
    clear A720
    by_cases c73 : t157 = 0
    ·rw [if_pos c73] at H
     have c73b0 : (t157 == 0) = true := beq_iff_eq.mpr c73
     have c73b1 : (t157 != 0) = false := bne_eq_false_iff_eq.mpr c73
     clear c73
     obtain ⟨t160, A74, H⟩ := Sh.ba H
     by_cases c75 : t152.length < 17592186044416
     ·rw [if_pos c75] at H
      have LMc75 := am_ c75
      clear c75
      obtain ⟨y161, hy161⟩ : ∃ y_ : List Int, y_ = (t152 ++ [t160]) := ⟨_, rfl⟩
      replace H : (some ((wrap64 (1 + t120)), x124001_1, y161, t158, t159)) = some (r1, r2, r3, r4, r5) := by first | (rw [hy161]; with_reducible exact H) | (have H2_ := (Option.bind_some _ _).symm.trans H; rw [hy161]; with_reducible exact H2_) | (have H2_ := (Option.bind_some _ _).symm.trans H; with_reducible exact H2_) | with_reducible exact H | (rw [hy161]; exact H) | exact H
      have Ny161 := am_ hy161
      clear hy161
      simp only [Option.some.injEq, Prod.mk.injEq] at H
      obtain ⟨rfl, rfl, rfl, rfl, rfl⟩ := H
      have hnb76 := NB123_119.out
      have hnc76 := NB119_123.out
      have hnb77 := NB123_0.out
      have hnc77 := NB0_123.out
      have hcz78_0 := Sh.bc BK123.out 0
      have hcz78_1 := Sh.bc BK123.out 1
      have hcz78_2 := Sh.bc BK123.out 2
      have hfz78_0 := blk_frozen BK123.out 0
      have hfz78_1 := blk_frozen BK123.out 1
      have hfz78_2 := blk_frozen BK123.out 2
      obtain ⟨Ao79, co79, eo79⟩ := Kd.R_slice HO_124001.out
      subst eo79
      try go_wp2_with (first | ((with_reducible refine Sh.k 28 ?_); refine Sh.gL (some 47) Try.func28 #[.agg #[.int .i64 (wrap64 (1 + t120)), .slice Ao79 x124001_1.length co79, .slice none 0 0]] (h := ?_); (refine (spec_l4Wires.calls (wrap64 (1 + t120)) _ _ x124001_1 _ _ ([] : List Int) t148 _ ?side1 ?side2 ?side3 ?side4 A69.out).mono ?_); (case side1 => repeat (first | exact (Kd.R_reads' HO_124001.out).2.2 | (with_reducible first | refine Kd.C_alloc ?_ _ | refine Kd.C_drewN ?_ _ | refine Kd.C_drew ?_))); (case side2 => exact (Kd.R_reads' HO_124001.out).2.1); (case side3 => exact Kd.C_nil _ _); (case side4 => exact Nat.le_refl _); rintro e w80 ⟨rfl, hb⟩; refine ⟨_, rfl, ?_⟩; replace HO_124001 := am_ (Kd.R_below (Sh.rl HO_124001.out) hb); replace BK119 := Sh.ab BK119 hb; replace BK123 := Sh.ab BK123 hb; replace HK := am_ (KeepBut.trans (by repeat (first | (with_reducible first | exact HK.out | apply KeepBut.set_ | apply keep_drewN | apply keep_drew | apply keep_alloc | refine keep_far ?_ GW119.out _ | refine keep_far ?_ GW123.out _) | exact HK.out)) (KeepBut.of_below hb g none) (.inl rfl)); replace HB := am_ (below_step (by repeat (first | (with_reducible first | exact HB.out | apply below_alloc | apply pw_below_drewN | apply below_drew1 | refine below_set ?_ (IsS49.ge HI0.out) | refine below_set ?_ GE119.out | refine below_set ?_ GE123.out) | exact HB.out)) hb); replace HI0 := am_ (IsS49.below (by repeat (first | (with_reducible first | exact HI0.out | apply IsS49.alloc | apply IsS49.drewN | apply IsS49.drew | apply IsS49.set_1 | apply IsS49.set_2 | refine IsS49.far ?_ NB0_119.out _ | refine IsS49.far ?_ NB0_123.out _) | exact HI0.out)) hb); (try clear hb); (try clear hb2); (try clear hk); (try clear hi)) | ((with_reducible refine Sh.k 24 ?_); refine Sh.gL (some 49) Try.func24 #[.pointer (some ⟨g, 0, none⟩), .int .i64 5] (h := ?_); (with_reducible refine (spec_l1Cur_pick.calls g s0_0 x1001_1 x1002_1 5 t149 t150 t151 w0 _ ?side1 ?side2 A70.out).mono ?_); (case side1 => repeat (first | (with_reducible first | exact HI0.out | apply IsS49.alloc | apply IsS49.drewN | apply IsS49.drew | apply IsS49.set_1 | apply IsS49.set_2 | refine IsS49.far ?_ NB0_119.out _ | refine IsS49.far ?_ NB0_123.out _) | exact HI0.out)); (case side2 => repeat (first | (with_reducible first | exact HB.out | apply below_alloc | apply pw_below_drewN | apply below_drew1 | refine below_set ?_ (IsS49.ge HI0.out) | refine below_set ?_ GE119.out | refine below_set ?_ GE123.out) | exact HB.out)); rintro e w81 ⟨rfl, hi, hb, hk⟩; refine ⟨_, rfl, ?_⟩; replace HO_124001 := am_ (Kd.R_mono (Kd.R_keep (IsS49.apart (show IsS49 w0 _ g s0_0 x1001_1 x1002_1 from by repeat (first | (with_reducible first | exact HI0.out | apply IsS49.alloc | apply IsS49.drewN | apply IsS49.drew | apply IsS49.set_1 | apply IsS49.set_2 | refine IsS49.far ?_ NB0_119.out _ | refine IsS49.far ?_ NB0_123.out _) | exact HI0.out)) (Sh.rl HO_124001.out) (by decide)) hk (fun _ h => h.2)) (fun _ h => h.1)); replace BK119 := am_ (KeepBut.blk hk (g' := gb119) (o := .cells #[.int .i64 0, .slice none 0 0, .slice none 0 0] 27 (0, 0)) (Sh.pl BK119.out) NB119_0.out (by simp)); replace BK123 := am_ (KeepBut.blk hk (g' := gb123) (o := .cells #[.int .i64 (wrap64 (1 + t120)), .slice Ao79 x124001_1.length co79, .slice none 0 0] 27 (0, 0)) (Sh.pl BK123.out) NB123_0.out (by simp)); replace HK := am_ (KeepBut.trans (by repeat (first | (with_reducible first | exact HK.out | apply KeepBut.set_ | apply keep_drewN | apply keep_drew | apply keep_alloc | refine keep_far ?_ GW119.out _ | refine keep_far ?_ GW123.out _) | exact HK.out)) hk (.inl rfl)); replace HB := am_ hb; replace HI0 := am_ hi; (try clear hb); (try clear hb2); (try clear hk); (try clear hi)) | ((with_reducible refine Sh.k 27 ?_); refine Sh.gL (some 50) Try.func27 #[.pointer (some ⟨g, 0, none⟩), .int .i64 t148, .int .i64 t149] (h := ?_); (with_reducible refine (spec_l1Cur_wires.calls k1 g s0_0 t150 t151 t148 t149 t152 t155 t156 w0 _ ?side1 ?side2 A71.out).mono ?_); (case side1 => repeat (first | (with_reducible first | exact HI0.out | apply IsS49.alloc | apply IsS49.drewN | apply IsS49.drew | apply IsS49.set_1 | apply IsS49.set_2 | refine IsS49.far ?_ NB0_119.out _ | refine IsS49.far ?_ NB0_123.out _) | exact HI0.out)); (case side2 => repeat (first | (with_reducible first | exact HB.out | apply below_alloc | apply pw_below_drewN | apply below_drew1 | refine below_set ?_ (IsS49.ge HI0.out) | refine below_set ?_ GE119.out | refine below_set ?_ GE123.out) | exact HB.out)); rintro e w82 ⟨v153, rfl, ho0, hi, hb, hk⟩; refine ⟨_, rfl, ?_⟩; replace HO_124001 := am_ (Kd.R_mono (Kd.R_keep (IsS49.apart (show IsS49 w0 _ g s0_0 t150 t151 from by repeat (first | (with_reducible first | exact HI0.out | apply IsS49.alloc | apply IsS49.drewN | apply IsS49.drew | apply IsS49.set_1 | apply IsS49.set_2 | refine IsS49.far ?_ NB0_119.out _ | refine IsS49.far ?_ NB0_123.out _) | exact HI0.out)) (Sh.rl HO_124001.out) (by decide)) hk (fun _ h => h.2)) (fun _ h => h.1)); replace BK119 := am_ (KeepBut.blk hk (g' := gb119) (o := .cells #[.int .i64 0, .slice none 0 0, .slice none 0 0] 27 (0, 0)) (Sh.pl BK119.out) NB119_0.out (by simp)); replace BK123 := am_ (KeepBut.blk hk (g' := gb123) (o := .cells #[.int .i64 (wrap64 (1 + t120)), .slice Ao79 x124001_1.length co79, .slice none 0 0] 27 (0, 0)) (Sh.pl BK123.out) NB123_0.out (by simp)); have HO154 := am_ (Kd.R_lower ho0 (keep_size (w := w) (g := g) (row := none) (by repeat (first | (with_reducible first | exact HK.out | apply KeepBut.set_ | apply keep_drewN | apply keep_drew | apply keep_alloc | refine keep_far ?_ GW119.out _ | refine keep_far ?_ GW123.out _) | exact HK.out)))); replace HK := am_ (KeepBut.trans (by repeat (first | (with_reducible first | exact HK.out | apply KeepBut.set_ | apply keep_drewN | apply keep_drew | apply keep_alloc | refine keep_far ?_ GW119.out _ | refine keep_far ?_ GW123.out _) | exact HK.out)) hk (.inl rfl)); replace HB := am_ hb; replace HI0 := am_ hi; (try clear hb); (try clear hb2); (try clear hk); (try clear hi); (try clear ho0); obtain ⟨Ao83, co83, eo83⟩ := Kd.R_slice HO154.out; subst eo83; obtain ⟨hcz84_0, hcz84_1, hcz84_2, hfz84_0, hfz84_1, hfz84_2⟩ := Sh.b3 BK123.out) | ((with_reducible refine Sh.k 24 ?_); refine Sh.gL (some 53) Try.func24 #[.pointer (some ⟨g, 0, none⟩), .int .i64 30] (h := ?_); (with_reducible refine (spec_l1Cur_pick.calls g s0_0 t155 t156 30 t157 t158 t159 w0 _ ?side1 ?side2 A72.out).mono ?_); (case side1 => repeat (first | (with_reducible first | exact HI0.out | apply IsS49.alloc | apply IsS49.drewN | apply IsS49.drew | apply IsS49.set_1 | apply IsS49.set_2 | refine IsS49.far ?_ NB0_119.out _ | refine IsS49.far ?_ NB0_123.out _) | exact HI0.out)); (case side2 => repeat (first | (with_reducible first | exact HB.out | apply below_alloc | apply pw_below_drewN | apply below_drew1 | refine below_set ?_ (IsS49.ge HI0.out) | refine below_set ?_ GE119.out | refine below_set ?_ GE123.out) | exact HB.out)); rintro e w85 ⟨rfl, hi, hb, hk⟩; refine ⟨_, rfl, ?_⟩; have n0_ := am_ (Kd.R_mono (Kd.R_keep (IsS49.apart (show IsS49 w0 _ g s0_0 t155 t156 from by repeat (first | (with_reducible first | exact HI0.out | apply IsS49.alloc | apply IsS49.drewN | apply IsS49.drew | apply IsS49.set_1 | apply IsS49.set_2 | refine IsS49.far ?_ NB0_119.out _ | refine IsS49.far ?_ NB0_123.out _) | exact HI0.out)) (Sh.rl (Kd.R_mono (Kd.R_far (p := ⟨gb123, 2, none⟩) (Kd.R_types HO_124001.out BK123.out (by decide)) (fun _ hk => hk.2) (.slice Ao83 t152.length co83)) (fun _ h_ => h_.1))) (by decide)) hk (fun _ h => h.2)) (fun _ h => h.1)); have n1_ := am_ (KeepBut.blk hk (g' := gb119) (o := .cells #[.int .i64 0, .slice none 0 0, .slice none 0 0] 27 (0, 0)) (by refine Sh.pl ?_; refine blk_far ?_ NB119_123.out _; refine Sh.pl ?_; exact BK119.out) NB119_0.out (by simp)); have n2_ := am_ (KeepBut.blk hk (g' := gb123) (o := .cells #[.int .i64 (wrap64 (1 + t120)), .slice Ao79 x124001_1.length co79, .slice Ao83 t152.length co83] 27 (0, 0)) (by refine Sh.pl ?_; refine blk_put (cs := #[.int .i64 (wrap64 (1 + t120)), .slice Ao79 x124001_1.length co79, .slice none 0 0]) ?_ 2 _ rfl; refine Sh.pl ?_; exact BK123.out) NB123_0.out (by simp)); have n3_ := am_ (Kd.R_mono (Kd.R_keep (IsS49.apart (show IsS49 w0 _ g s0_0 t155 t156 from by repeat (first | (with_reducible first | exact HI0.out | apply IsS49.alloc | apply IsS49.drewN | apply IsS49.drew | apply IsS49.set_1 | apply IsS49.set_2 | refine IsS49.far ?_ NB0_119.out _ | refine IsS49.far ?_ NB0_123.out _) | exact HI0.out)) (Sh.rl (Kd.R_mono (Kd.R_far (p := ⟨gb123, 2, none⟩) (Kd.R_types HO154.out BK123.out (by decide)) (fun _ hk => hk.2) (.slice Ao83 t152.length co83)) (fun _ h_ => h_.1))) (by decide)) hk (fun _ h => h.2)) (fun _ h => h.1)); have n4_ := am_ (KeepBut.trans (by repeat (first | (with_reducible first | exact HK.out | apply KeepBut.set_ | apply keep_drewN | apply keep_drew | apply keep_alloc | refine keep_far ?_ GW119.out _ | refine keep_far ?_ GW123.out _) | exact HK.out)) hk (.inl rfl)); have n5_ := am_ hb; have n6_ := am_ hi; clear HO_124001; clear BK119; clear BK123; clear HO154; clear HK; clear HB; clear HI0; have HO_124001 := n0_; have BK119 := n1_; have BK123 := n2_; have HO154 := n3_; have HK := n4_; have HB := n5_; have HI0 := n6_; clear n0_ n1_ n2_ n3_ n4_ n5_ n6_; (try clear hb); (try clear hb2); (try clear hk); (try clear hi)))
      replace HO_124001 := am_ (Kd.R_drew HO_124001.out)
      replace HO154 := am_ (Kd.R_drew HO154.out)
      replace BK119 := am_ (blk_drew BK119.out)
      replace BK123 := am_ (blk_drew BK123.out)
      replace HI0 := am_ (IsS49.drew HI0.out)
      replace HK := am_ (keep_drew HK.out)
      replace HB := am_ (below_drew1 HB.out)
      refine start_ (n := 8) (S := fun w' => w'.cell? ⟨gb123, 0, none⟩ = some (.int .i64 (wrap64 (1 + t120))) ∧ w'.cell? ⟨gb123, 1, none⟩ = some (.slice Ao79 x124001_1.length co79) ∧ w'.cell? ⟨gb123, 2, none⟩ = some (.slice Ao83 t152.length co83)) (ds := [7]) (Sh.nm 8 0) (by kernel_rfl) rfl rfl Sh.cs (fun hHeld => ?_); refine with_tabW spec_l1Cur_circuit.tab15 spec_l1Cur_circuit.bits15 (fun HT_ HW_ => ?_)
      generalize w85.drew = w86 at HO_124001 HO154 BK119 BK123 HI0 HK HB hHeld ⊢
      refine Sh.qA 0 ?_; refine Sh.qT 1 hHeld ?_; refine Sh.qT 2 hHeld ?_
      refine Sh.oC 3 Try.func28 #[.agg #[.int .i64 (wrap64 (1 + t120)), .slice Ao79 x124001_1.length co79, .slice Ao83 t152.length co83]] fun K hK => ?_
      with_reducible refine (spec_l4Wires.calls (wrap64 (1 + t120)) _ _ x124001_1 _ _ t152 t160 _ (Sh.cR (Kd.R_reads' HO_124001.out).2.2) (Kd.R_reads' HO_124001.out).2.1 (Sh.cR (Kd.R_reads' HO154.out).2.2) (Kd.R_reads' HO154.out).2.1 A74.out).mono ?_
      rintro e w87 ⟨rfl, hb⟩
      refine ⟨_, rfl, ?_⟩
      replace HO_124001 := am_ (Kd.R_below (Sh.rl HO_124001.out) hb)
      replace HO154 := am_ (Kd.R_below (Sh.rl HO154.out) hb)
      replace BK119 := Sh.ab BK119 hb
      replace BK123 := Sh.ab BK123 hb
      replace HK := am_ (KeepBut.trans (by repeat (first | (with_reducible first | exact HK.out | apply KeepBut.set_ | apply keep_drewN | apply keep_drew | apply keep_alloc | refine keep_far ?_ GW119.out _ | refine keep_far ?_ GW123.out _) | exact HK.out)) (KeepBut.of_below hb g none) (.inl rfl))
      replace HB := am_ (below_step (by repeat (first | (with_reducible first | exact HB.out | apply below_alloc | apply pw_below_drewN | apply below_drew1 | refine below_set ?_ (IsS49.ge HI0.out) | refine below_set ?_ GE119.out | refine below_set ?_ GE123.out) | exact HB.out)) hb)
      replace HI0 := am_ (IsS49.below (by repeat (first | (with_reducible first | exact HI0.out | apply IsS49.alloc | apply IsS49.drewN | apply IsS49.drew | apply IsS49.set_1 | apply IsS49.set_2 | refine IsS49.far ?_ NB0_119.out _ | refine IsS49.far ?_ NB0_123.out _) | exact HI0.out)) hb)
      (try clear hb)
      (try clear hb2)
      (try clear hk)
      (try clear hi)
      refine Sh.kN hK Sh.cs fun hHeld => ?_
      clear hK K
      refine one_ (i := 4) (N := some 60) (Sh.nm 8 31) rfl rfl (one_of HT_.out (by kernel_rfl)) (by decide) (fun K hK => ?_)
      refine value_ (w1 := ?_) (v := ?_) (by rfl) rfl ?_ ?_
      rotate_left 2
      ·go_simp
       constructor
       ·rfl
       ·rfl
      refine Sh.kN hK ⟨(blk_cell (blk_alloc BK123.out _) 0).trans rfl, (blk_cell (blk_alloc BK123.out _) 1).trans rfl, (blk_cell (blk_alloc BK123.out _) 2).trans rfl⟩ fun hHeld => ?_
      clear hK K
      refine one_ (i := 5) (N := some 61) (Sh.nm 8 63) rfl rfl (one_of HT_.out (by kernel_rfl)) (by decide) (fun K hK => ?_)
      refine Kd.R_append_step (Kd.int .i64) w.heap.size (by rfl) (.tmp 57) (.tmp 60) 25 3 (.int .i64 0) 8 rfl Try.underlying25 info3 rfl (by decide) (by omega) (.slice Ao83 t152.length co83) t152 t160 [.int .i64 t160] (fun _ => True) (fun _ => False) rfl rfl ?aP (fun _ hk => hk.elim) ?aF ?aO (Below.refl _ _) ?aS ?aL ?_
      (case aP => exact rfl)
      (case aF => exact (fun _ _ => trivial))
      (case aO => exact (Sh.rl HO154.out))
      (case aS => exact (keep_size (w := w) (g := g) (row := none) (by repeat (first | (with_reducible first | exact HK.out | apply KeepBut.set_ | apply keep_drewN | apply keep_drew | apply keep_alloc | refine keep_far ?_ GW119.out _ | refine keep_far ?_ GW123.out _) | exact HK.out))))
      (case aL => have := LMc75.out; omega)
      intro v162 w88 ho hb hg hat
      rw [← Ny161.out] at ho
      have n0_ := am_ (Kd.R_over' (Sh.rl HO_124001.out) (Kd.R_typed (Sh.rl HO154.out)) (by decide) hg)
      have n1_ := am_ (blk_grown (g := gb119) (o := .cells #[.int .i64 0, .slice none 0 0, .slice none 0 0] 27 (0, 0)) (Sh.pl BK119.out) hg (Kd.R_ne HO154.out BK119.out (by decide)))
      have n2_ := am_ (blk_grown (g := gb123) (o := .cells #[.int .i64 (wrap64 (1 + t120)), .slice Ao79 x124001_1.length co79, .slice Ao83 t152.length co83] 27 (0, 0)) (Sh.pl BK123.out) hg (Kd.R_ne HO154.out BK123.out (by decide)))
      have n3_ := am_ (IsS49.grown (by repeat (first | (with_reducible first | exact HI0.out | apply IsS49.alloc | apply IsS49.drewN | apply IsS49.drew | apply IsS49.set_1 | apply IsS49.set_2 | refine IsS49.far ?_ NB0_119.out _ | refine IsS49.far ?_ NB0_123.out _) | exact HI0.out)) hg (IsS49.own_ne HI0.out HO154.out (by decide)))
      have n4_ := am_ (below_weaken (by repeat (first | (with_reducible first | exact HB.out | apply below_alloc | apply pw_below_drewN | apply below_drew1 | refine below_set ?_ (IsS49.ge HI0.out) | refine below_set ?_ GE119.out | refine below_set ?_ GE123.out) | exact HB.out)) HL.out hb)
      have n5_ := am_ (KeepBut.trans (by repeat (first | (with_reducible first | exact HK.out | apply KeepBut.set_ | apply keep_drewN | apply keep_drew | apply keep_alloc | refine keep_far ?_ GW119.out _ | refine keep_far ?_ GW123.out _) | exact HK.out)) (KeepBut.of_grown hg g) (Kd.R_base2 HO154.out))
      have n6_ := am_ ho
      clear HO_124001
      clear BK119
      clear BK123
      clear HI0
      clear HB
      clear HK
      clear HO154
      have HO_124001 := n0_
      have BK119 := n1_
      have BK123 := n2_
      have HI0 := n3_
      have HB := n4_
      have HK := n5_
      have HO163 := n6_
      clear n0_ n1_ n2_ n3_ n4_ n5_ n6_
      clear ho hb hg hat
      obtain ⟨Ao89, co89, eo89⟩ := Kd.R_slice HO163.out
      (first | subst eo89 | (injection eo89 with f1_ f2_ f3_; have f4_ := f1_.symm; have f5_ := f3_.symm; clear f1_ f2_ f3_; subst f4_; subst f5_))
      refine Sh.kN hK Sh.cs fun hHeld => ?_
      clear hK K
      refine Sh.qA 6 ?_
      refine last_ (i := 7) (N := none) (Sh.nm 8 255) rfl rfl (one_of HT_.out (by kernel_rfl)) (by decide) (fun K hK => ?_)
      have hs90 : w88.cell? ⟨gb123, 2, none⟩ = some (.slice Ao83 t152.length co83) := (blk_cell BK123.out 2).trans rfl
      have hfs90 := blk_frozen BK123.out 2
      have hns90_0 := NB119_123.out
      have hms90_0 := NB123_119.out
      refine skip_ (w1 := ?_) (by rfl) rfl ?_ ?_
      rotate_left
      ·go_simp
       rfl
      refine hK.out _ _ ?_
      clear hK K
      refine done_ (done_of HT_.out (by kernel_rfl)) ?_
      have hcz91_0 := Sh.bc BK123.out 0
      have hcz91_1 := Sh.bc BK123.out 1
      have hcz91_2 := Sh.bc BK123.out 2
      have hfz91_0 := blk_frozen BK123.out 0
      have hfz91_1 := blk_frozen BK123.out 1
      have hfz91_2 := blk_frozen BK123.out 2
      have hnb92 := NB119_0.out
      have hnc92 := NB0_119.out
      have hcz93_0 := Sh.bc BK119.out 0
      have hcz93_1 := Sh.bc BK119.out 1
      have hcz93_2 := Sh.bc BK119.out 2
      have hfz93_0 := blk_frozen BK119.out 0
      have hfz93_1 := blk_frozen BK119.out 1
      have hfz93_2 := blk_frozen BK119.out 2
      try go_wp2
      refine bodyPost_ret (results_cell_row rfl _ _ gb119 27 #[.int .i64 (wrap64 (1 + t120)), .slice Ao79 x124001_1.length co79, .slice Ao89 y161.length co89] (0, 0) _ rfl (by refine Sh.pl ?_; refine blk_put (cs := #[.int .i64 (wrap64 (1 + t120)), .slice Ao79 x124001_1.length co79, .slice none 0 0]) ?_ 2 _ rfl; refine Sh.pl ?_; refine blk_put (cs := #[.int .i64 (wrap64 (1 + t120)), .slice none 0 0, .slice none 0 0]) ?_ 1 _ rfl; refine Sh.pl ?_; refine blk_put (cs := #[.int .i64 0, .slice none 0 0, .slice none 0 0]) ?_ 0 _ rfl; refine Sh.pl ?_; refine blk_far ?_ NB119_123.out _; refine Sh.pl ?_; exact BK119.out) Try.underlying27 rfl (by kernel_rfl)) rfl ?_
      exact ⟨_, _, by first | rfl | (simp [errW_none, errW_some] <;> rfl) | (simp [*, errW_none, errW_some] <;> rfl), Sh.rl (Kd.R_mono (Kd.R_far (p := ⟨gb119, 2, none⟩) (Kd.R_far (p := ⟨gb119, 1, none⟩) (Kd.R_far (p := ⟨gb119, 0, none⟩) (Kd.R_far (p := ⟨gb123, 2, none⟩) (Kd.R_types (Kd.R_types HO_124001.out BK123.out (by decide)) BK119.out (by decide)) (fun _ hk => hk.1.2) (.slice Ao89 y161.length co89)) (fun _ hk => hk.2) (.int .i64 (wrap64 (1 + t120)))) (fun _ hk => hk.2) (.slice Ao79 x124001_1.length co79)) (fun _ hk => hk.2) (.slice Ao89 y161.length co89)) (fun _ hk => trivial)), Sh.rl (Kd.R_mono (Kd.R_far (p := ⟨gb119, 2, none⟩) (Kd.R_far (p := ⟨gb119, 1, none⟩) (Kd.R_far (p := ⟨gb119, 0, none⟩) (Kd.R_far (p := ⟨gb123, 2, none⟩) (Kd.R_types (Kd.R_types HO163.out BK123.out (by decide)) BK119.out (by decide)) (fun _ hk => hk.1.2) (.slice Ao89 y161.length co89)) (fun _ hk => hk.2) (.int .i64 (wrap64 (1 + t120)))) (fun _ hk => hk.2) (.slice Ao79 x124001_1.length co79)) (fun _ hk => hk.2) (.slice Ao89 y161.length co89)) (fun _ hk => trivial)), by repeat (first | (with_reducible first | exact HI0.out | apply IsS49.alloc | apply IsS49.drewN | apply IsS49.drew | apply IsS49.set_1 | apply IsS49.set_2 | refine IsS49.far ?_ NB0_119.out _ | refine IsS49.far ?_ NB0_123.out _) | exact HI0.out), by repeat (first | (with_reducible first | exact HB.out | apply below_alloc | apply pw_below_drewN | apply below_drew1 | refine below_set ?_ (IsS49.ge HI0.out) | refine below_set ?_ GE119.out | refine below_set ?_ GE123.out) | exact HB.out), by repeat (first | (with_reducible first | exact HK.out | apply KeepBut.set_ | apply keep_drewN | apply keep_drew | apply keep_alloc | refine keep_far ?_ GW119.out _ | refine keep_far ?_ GW123.out _) | exact HK.out)⟩
     ·rw [if_neg c75] at H
      exact absurd H (by simp)
    ·rw [if_neg c73] at H
     have c73b0 : (t157 == 0) = false := beq_eq_false_iff_ne.mpr c73
     have c73b1 : (t157 != 0) = true := bne_iff_ne.mpr c73
     by_cases c94 : t157 = 1
     ·rw [if_pos c94] at H
      have c94b0 : (t157 == 1) = true := beq_iff_eq.mpr c94
      have c94b1 : (t157 != 1) = false := bne_eq_false_iff_eq.mpr c94
      clear c94
      obtain ⟨y164, hy164⟩ : ∃ y_ : List Int, y_ = (([(-1), 0, 16, 17] : List Int)) := ⟨_, rfl⟩
      replace H : ((spec_l1Cur_among.f s0_0 t158 t159 y164).bind fun bt167 => (some (bt167.1, x124001_1, t152, bt167.2.1, bt167.2.2))) = some (r1, r2, r3, r4, r5) := by first | (rw [hy164]; with_reducible exact H) | (have H2_ := (Option.bind_some _ _).symm.trans H; rw [hy164]; with_reducible exact H2_) | (have H2_ := (Option.bind_some _ _).symm.trans H; with_reducible exact H2_) | with_reducible exact H | (rw [hy164]; exact H) | exact H
      have Ny164 := am_ hy164
      clear hy164
      obtain ⟨⟨t167, t168, t169⟩, A950, H⟩ := Sh.bd H
      have A95 := am_ A950
      clear A950
      simp only [Option.some.injEq, Prod.mk.injEq] at H
      obtain ⟨rfl, rfl, rfl, rfl, rfl⟩ := H
      have hnb96 := NB123_119.out
      have hnc96 := NB119_123.out
      have hnb97 := NB123_0.out
      have hnc97 := NB0_123.out
      have hcz98_0 := Sh.bc BK123.out 0
      have hcz98_1 := Sh.bc BK123.out 1
      have hcz98_2 := Sh.bc BK123.out 2
      have hfz98_0 := blk_frozen BK123.out 0
      have hfz98_1 := blk_frozen BK123.out 1
      have hfz98_2 := blk_frozen BK123.out 2
      obtain ⟨Ao99, co99, eo99⟩ := Kd.R_slice HO_124001.out
      subst eo99
      go_wp2_with (first | ((with_reducible refine Sh.k 28 ?_); refine Sh.gL (some 47) Try.func28 #[.agg #[.int .i64 (wrap64 (1 + t120)), .slice Ao99 x124001_1.length co99, .slice none 0 0]] (h := ?_); (refine (spec_l4Wires.calls (wrap64 (1 + t120)) _ _ x124001_1 _ _ ([] : List Int) t148 _ ?side1 ?side2 ?side3 ?side4 A69.out).mono ?_); (case side1 => repeat (first | exact (Kd.R_reads' HO_124001.out).2.2 | (with_reducible first | refine Kd.C_alloc ?_ _ | refine Kd.C_drewN ?_ _ | refine Kd.C_drew ?_))); (case side2 => exact (Kd.R_reads' HO_124001.out).2.1); (case side3 => exact Kd.C_nil _ _); (case side4 => exact Nat.le_refl _); rintro e w100 ⟨rfl, hb⟩; refine ⟨_, rfl, ?_⟩; replace HO_124001 := am_ (Kd.R_below (Sh.rl HO_124001.out) hb); replace BK119 := Sh.ab BK119 hb; replace BK123 := Sh.ab BK123 hb; replace HK := am_ (KeepBut.trans (by repeat (first | (with_reducible first | exact HK.out | apply KeepBut.set_ | apply keep_drewN | apply keep_drew | apply keep_alloc | refine keep_far ?_ GW119.out _ | refine keep_far ?_ GW123.out _) | exact HK.out)) (KeepBut.of_below hb g none) (.inl rfl)); replace HB := am_ (below_step (by repeat (first | (with_reducible first | exact HB.out | apply below_alloc | apply pw_below_drewN | apply below_drew1 | refine below_set ?_ (IsS49.ge HI0.out) | refine below_set ?_ GE119.out | refine below_set ?_ GE123.out) | exact HB.out)) hb); replace HI0 := am_ (IsS49.below (by repeat (first | (with_reducible first | exact HI0.out | apply IsS49.alloc | apply IsS49.drewN | apply IsS49.drew | apply IsS49.set_1 | apply IsS49.set_2 | refine IsS49.far ?_ NB0_119.out _ | refine IsS49.far ?_ NB0_123.out _) | exact HI0.out)) hb); (try clear hb); (try clear hb2); (try clear hk); (try clear hi)) | ((with_reducible refine Sh.k 24 ?_); refine Sh.gL (some 49) Try.func24 #[.pointer (some ⟨g, 0, none⟩), .int .i64 5] (h := ?_); (with_reducible refine (spec_l1Cur_pick.calls g s0_0 x1001_1 x1002_1 5 t149 t150 t151 w0 _ ?side1 ?side2 A70.out).mono ?_); (case side1 => repeat (first | (with_reducible first | exact HI0.out | apply IsS49.alloc | apply IsS49.drewN | apply IsS49.drew | apply IsS49.set_1 | apply IsS49.set_2 | refine IsS49.far ?_ NB0_119.out _ | refine IsS49.far ?_ NB0_123.out _) | exact HI0.out)); (case side2 => repeat (first | (with_reducible first | exact HB.out | apply below_alloc | apply pw_below_drewN | apply below_drew1 | refine below_set ?_ (IsS49.ge HI0.out) | refine below_set ?_ GE119.out | refine below_set ?_ GE123.out) | exact HB.out)); rintro e w101 ⟨rfl, hi, hb, hk⟩; refine ⟨_, rfl, ?_⟩; replace HO_124001 := am_ (Kd.R_mono (Kd.R_keep (IsS49.apart (show IsS49 w0 _ g s0_0 x1001_1 x1002_1 from by repeat (first | (with_reducible first | exact HI0.out | apply IsS49.alloc | apply IsS49.drewN | apply IsS49.drew | apply IsS49.set_1 | apply IsS49.set_2 | refine IsS49.far ?_ NB0_119.out _ | refine IsS49.far ?_ NB0_123.out _) | exact HI0.out)) (Sh.rl HO_124001.out) (by decide)) hk (fun _ h => h.2)) (fun _ h => h.1)); replace BK119 := am_ (KeepBut.blk hk (g' := gb119) (o := .cells #[.int .i64 0, .slice none 0 0, .slice none 0 0] 27 (0, 0)) (Sh.pl BK119.out) NB119_0.out (by simp)); replace BK123 := am_ (KeepBut.blk hk (g' := gb123) (o := .cells #[.int .i64 (wrap64 (1 + t120)), .slice Ao99 x124001_1.length co99, .slice none 0 0] 27 (0, 0)) (Sh.pl BK123.out) NB123_0.out (by simp)); replace HK := am_ (KeepBut.trans (by repeat (first | (with_reducible first | exact HK.out | apply KeepBut.set_ | apply keep_drewN | apply keep_drew | apply keep_alloc | refine keep_far ?_ GW119.out _ | refine keep_far ?_ GW123.out _) | exact HK.out)) hk (.inl rfl)); replace HB := am_ hb; replace HI0 := am_ hi; (try clear hb); (try clear hb2); (try clear hk); (try clear hi)) | ((with_reducible refine Sh.k 27 ?_); refine Sh.gL (some 50) Try.func27 #[.pointer (some ⟨g, 0, none⟩), .int .i64 t148, .int .i64 t149] (h := ?_); (with_reducible refine (spec_l1Cur_wires.calls k1 g s0_0 t150 t151 t148 t149 t152 t155 t156 w0 _ ?side1 ?side2 A71.out).mono ?_); (case side1 => repeat (first | (with_reducible first | exact HI0.out | apply IsS49.alloc | apply IsS49.drewN | apply IsS49.drew | apply IsS49.set_1 | apply IsS49.set_2 | refine IsS49.far ?_ NB0_119.out _ | refine IsS49.far ?_ NB0_123.out _) | exact HI0.out)); (case side2 => repeat (first | (with_reducible first | exact HB.out | apply below_alloc | apply pw_below_drewN | apply below_drew1 | refine below_set ?_ (IsS49.ge HI0.out) | refine below_set ?_ GE119.out | refine below_set ?_ GE123.out) | exact HB.out)); rintro e w102 ⟨v153, rfl, ho0, hi, hb, hk⟩; refine ⟨_, rfl, ?_⟩; replace HO_124001 := am_ (Kd.R_mono (Kd.R_keep (IsS49.apart (show IsS49 w0 _ g s0_0 t150 t151 from by repeat (first | (with_reducible first | exact HI0.out | apply IsS49.alloc | apply IsS49.drewN | apply IsS49.drew | apply IsS49.set_1 | apply IsS49.set_2 | refine IsS49.far ?_ NB0_119.out _ | refine IsS49.far ?_ NB0_123.out _) | exact HI0.out)) (Sh.rl HO_124001.out) (by decide)) hk (fun _ h => h.2)) (fun _ h => h.1)); replace BK119 := am_ (KeepBut.blk hk (g' := gb119) (o := .cells #[.int .i64 0, .slice none 0 0, .slice none 0 0] 27 (0, 0)) (Sh.pl BK119.out) NB119_0.out (by simp)); replace BK123 := am_ (KeepBut.blk hk (g' := gb123) (o := .cells #[.int .i64 (wrap64 (1 + t120)), .slice Ao99 x124001_1.length co99, .slice none 0 0] 27 (0, 0)) (Sh.pl BK123.out) NB123_0.out (by simp)); have HO154 := am_ (Kd.R_lower ho0 (keep_size (w := w) (g := g) (row := none) (by repeat (first | (with_reducible first | exact HK.out | apply KeepBut.set_ | apply keep_drewN | apply keep_drew | apply keep_alloc | refine keep_far ?_ GW119.out _ | refine keep_far ?_ GW123.out _) | exact HK.out)))); replace HK := am_ (KeepBut.trans (by repeat (first | (with_reducible first | exact HK.out | apply KeepBut.set_ | apply keep_drewN | apply keep_drew | apply keep_alloc | refine keep_far ?_ GW119.out _ | refine keep_far ?_ GW123.out _) | exact HK.out)) hk (.inl rfl)); replace HB := am_ hb; replace HI0 := am_ hi; (try clear hb); (try clear hb2); (try clear hk); (try clear hi); (try clear ho0); obtain ⟨Ao103, co103, eo103⟩ := Kd.R_slice HO154.out; subst eo103; obtain ⟨hcz104_0, hcz104_1, hcz104_2, hfz104_0, hfz104_1, hfz104_2⟩ := Sh.b3 BK123.out) | ((with_reducible refine Sh.k 24 ?_); refine Sh.gL (some 53) Try.func24 #[.pointer (some ⟨g, 0, none⟩), .int .i64 30] (h := ?_); (with_reducible refine (spec_l1Cur_pick.calls g s0_0 t155 t156 30 t157 t158 t159 w0 _ ?side1 ?side2 A72.out).mono ?_); (case side1 => repeat (first | (with_reducible first | exact HI0.out | apply IsS49.alloc | apply IsS49.drewN | apply IsS49.drew | apply IsS49.set_1 | apply IsS49.set_2 | refine IsS49.far ?_ NB0_119.out _ | refine IsS49.far ?_ NB0_123.out _) | exact HI0.out)); (case side2 => repeat (first | (with_reducible first | exact HB.out | apply below_alloc | apply pw_below_drewN | apply below_drew1 | refine below_set ?_ (IsS49.ge HI0.out) | refine below_set ?_ GE119.out | refine below_set ?_ GE123.out) | exact HB.out)); rintro e w105 ⟨rfl, hi, hb, hk⟩; refine ⟨_, rfl, ?_⟩; have n0_ := am_ (Kd.R_mono (Kd.R_keep (IsS49.apart (show IsS49 w0 _ g s0_0 t155 t156 from by repeat (first | (with_reducible first | exact HI0.out | apply IsS49.alloc | apply IsS49.drewN | apply IsS49.drew | apply IsS49.set_1 | apply IsS49.set_2 | refine IsS49.far ?_ NB0_119.out _ | refine IsS49.far ?_ NB0_123.out _) | exact HI0.out)) (Sh.rl (Kd.R_mono (Kd.R_far (p := ⟨gb123, 2, none⟩) (Kd.R_types HO_124001.out BK123.out (by decide)) (fun _ hk => hk.2) (.slice Ao103 t152.length co103)) (fun _ h_ => h_.1))) (by decide)) hk (fun _ h => h.2)) (fun _ h => h.1)); have n1_ := am_ (KeepBut.blk hk (g' := gb119) (o := .cells #[.int .i64 0, .slice none 0 0, .slice none 0 0] 27 (0, 0)) (by refine Sh.pl ?_; refine blk_far ?_ NB119_123.out _; refine Sh.pl ?_; exact BK119.out) NB119_0.out (by simp)); have n2_ := am_ (KeepBut.blk hk (g' := gb123) (o := .cells #[.int .i64 (wrap64 (1 + t120)), .slice Ao99 x124001_1.length co99, .slice Ao103 t152.length co103] 27 (0, 0)) (by refine Sh.pl ?_; refine blk_put (cs := #[.int .i64 (wrap64 (1 + t120)), .slice Ao99 x124001_1.length co99, .slice none 0 0]) ?_ 2 _ rfl; refine Sh.pl ?_; exact BK123.out) NB123_0.out (by simp)); have n3_ := am_ (Kd.R_mono (Kd.R_keep (IsS49.apart (show IsS49 w0 _ g s0_0 t155 t156 from by repeat (first | (with_reducible first | exact HI0.out | apply IsS49.alloc | apply IsS49.drewN | apply IsS49.drew | apply IsS49.set_1 | apply IsS49.set_2 | refine IsS49.far ?_ NB0_119.out _ | refine IsS49.far ?_ NB0_123.out _) | exact HI0.out)) (Sh.rl (Kd.R_mono (Kd.R_far (p := ⟨gb123, 2, none⟩) (Kd.R_types HO154.out BK123.out (by decide)) (fun _ hk => hk.2) (.slice Ao103 t152.length co103)) (fun _ h_ => h_.1))) (by decide)) hk (fun _ h => h.2)) (fun _ h => h.1)); have n4_ := am_ (KeepBut.trans (by repeat (first | (with_reducible first | exact HK.out | apply KeepBut.set_ | apply keep_drewN | apply keep_drew | apply keep_alloc | refine keep_far ?_ GW119.out _ | refine keep_far ?_ GW123.out _) | exact HK.out)) hk (.inl rfl)); have n5_ := am_ hb; have n6_ := am_ hi; clear HO_124001; clear BK119; clear BK123; clear HO154; clear HK; clear HB; clear HI0; have HO_124001 := n0_; have BK119 := n1_; have BK123 := n2_; have HO154 := n3_; have HK := n4_; have HB := n5_; have HI0 := n6_; clear n0_ n1_ n2_ n3_ n4_ n5_ n6_; (try clear hb); (try clear hb2); (try clear hk); (try clear hi)) | ((with_reducible refine Sh.d 66 ?_); refine Kd.R_lit (Kd.int .i64) _ 3 ?hg (N := 66) ?hd (xs := ([(-1), 0, 16, 17] : List Int)) (inner := [.int .i64 (-1), .int .i64 0, .int .i64 16, .int .i64 17]) (ok := fun _ => True) (okp := fun _ => True) ?hr ?hp (fun _ hk => hk) trivial (Below.refl _ _) (Nat.le_refl _) (by simp) ?_; (case hd => rfl); (case hg => rfl); (case hr => first | (go_simp; done) | (go_simp; rfl)); (case hp => exact (Reps.one (show Kd.M (Kd.int .i64) _ _ _ (-1) [.int .i64 (-1)] from rfl) (Reps.one (show Kd.M (Kd.int .i64) _ _ _ 0 [.int .i64 0] from rfl) (Reps.one (show Kd.M (Kd.int .i64) _ _ _ 16 [.int .i64 16] from rfl) (Reps.one (show Kd.M (Kd.int .i64) _ _ _ 17 [.int .i64 17] from rfl) (Reps.none _ _)))))); intro v165 w106 ho107 hb hg_ hnew_; clear hg_ hnew_; (first | rw [← Ny164.out] at ho107 | (simp only [Int.reduceToNat] at ho107; rw [← Ny164.out] at ho107)); replace HO_124001 := am_ (Kd.R_below (Sh.rl HO_124001.out) hb); have HO166 := am_ (Kd.R_lower (Kd.R_new' ho107 (Kd.R_lt (Sh.rl HO154.out))) (keep_size (w := w) (g := g) (row := none) (by repeat (first | (with_reducible first | exact HK.out | apply KeepBut.set_ | apply keep_drewN | apply keep_drew | apply keep_alloc | refine keep_far ?_ GW119.out _ | refine keep_far ?_ GW123.out _) | exact HK.out)))); replace HO154 := am_ (Kd.R_elder' (Sh.rl HO154.out) (Kd.R_base ho107) hb); replace BK119 := Sh.ab BK119 hb; replace BK123 := Sh.ab BK123 hb; replace HK := am_ (KeepBut.trans (by repeat (first | (with_reducible first | exact HK.out | apply KeepBut.set_ | apply keep_drewN | apply keep_drew | apply keep_alloc | refine keep_far ?_ GW119.out _ | refine keep_far ?_ GW123.out _) | exact HK.out)) (KeepBut.of_below hb g none) (.inl rfl)); replace HB := am_ (below_step (by repeat (first | (with_reducible first | exact HB.out | apply below_alloc | apply pw_below_drewN | apply below_drew1 | refine below_set ?_ (IsS49.ge HI0.out) | refine below_set ?_ GE119.out | refine below_set ?_ GE123.out) | exact HB.out)) hb); replace HI0 := am_ (IsS49.below (by repeat (first | (with_reducible first | exact HI0.out | apply IsS49.alloc | apply IsS49.drewN | apply IsS49.drew | apply IsS49.set_1 | apply IsS49.set_2 | refine IsS49.far ?_ NB0_119.out _ | refine IsS49.far ?_ NB0_123.out _) | exact HI0.out)) hb); clear hb ho107; obtain ⟨Ao108, co108, eo108⟩ := Kd.R_slice HO166.out; subst eo108) | ((with_reducible refine Sh.k 26 ?_); refine Sh.gL (some 67) Try.func26 #[.pointer (some ⟨g, 0, none⟩), .slice Ao108 y164.length co108] (h := ?_); (with_reducible refine (spec_l1Cur_among.calls g s0_0 t158 t159 _ _ y164 t167 t168 t169 w0 _ ?side1 ?side2 ?side3 ?side4 ?side5 A95.out).mono ?_); (case side1 => repeat (first | (with_reducible first | exact HI0.out | apply IsS49.alloc | apply IsS49.drewN | apply IsS49.drew | apply IsS49.set_1 | apply IsS49.set_2 | refine IsS49.far ?_ NB0_119.out _ | refine IsS49.far ?_ NB0_123.out _) | exact HI0.out)); (case side2 => repeat (first | (with_reducible first | exact HB.out | apply below_alloc | apply pw_below_drewN | apply below_drew1 | refine below_set ?_ (IsS49.ge HI0.out) | refine below_set ?_ GE119.out | refine below_set ?_ GE123.out) | exact HB.out)); (case side3 => repeat (first | exact (Kd.R_reads' HO166.out).2.2 | (with_reducible first | refine Kd.C_alloc ?_ _ | refine Kd.C_drewN ?_ _ | refine Kd.C_drew ?_))); (case side4 => exact (Kd.R_reads' HO166.out).2.1); (case side5 => exact far_slice (IsS49.own_ne HI0.out HO166.out (by decide))); rintro e w109 ⟨rfl, hi, hb, hk⟩; refine ⟨_, rfl, ?_⟩; replace HO_124001 := am_ (Kd.R_mono (Kd.R_keep (IsS49.apart (show IsS49 w0 _ g s0_0 t158 t159 from by repeat (first | (with_reducible first | exact HI0.out | apply IsS49.alloc | apply IsS49.drewN | apply IsS49.drew | apply IsS49.set_1 | apply IsS49.set_2 | refine IsS49.far ?_ NB0_119.out _ | refine IsS49.far ?_ NB0_123.out _) | exact HI0.out)) (Sh.rl HO_124001.out) (by decide)) hk (fun _ h => h.2)) (fun _ h => h.1)); replace BK119 := am_ (KeepBut.blk hk (g' := gb119) (o := .cells #[.int .i64 0, .slice none 0 0, .slice none 0 0] 27 (0, 0)) (Sh.pl BK119.out) NB119_0.out (by simp)); replace BK123 := am_ (KeepBut.blk hk (g' := gb123) (o := .cells #[.int .i64 (wrap64 (1 + t120)), .slice Ao99 x124001_1.length co99, .slice Ao103 t152.length co103] 27 (0, 0)) (Sh.pl BK123.out) NB123_0.out (by simp)); replace HO154 := am_ (Kd.R_mono (Kd.R_keep (IsS49.apart (show IsS49 w0 _ g s0_0 t158 t159 from by repeat (first | (with_reducible first | exact HI0.out | apply IsS49.alloc | apply IsS49.drewN | apply IsS49.drew | apply IsS49.set_1 | apply IsS49.set_2 | refine IsS49.far ?_ NB0_119.out _ | refine IsS49.far ?_ NB0_123.out _) | exact HI0.out)) (Sh.rl HO154.out) (by decide)) hk (fun _ h => h.2)) (fun _ h => h.1)); replace HO166 := am_ (Kd.R_mono (Kd.R_keep (IsS49.apart (show IsS49 w0 _ g s0_0 t158 t159 from by repeat (first | (with_reducible first | exact HI0.out | apply IsS49.alloc | apply IsS49.drewN | apply IsS49.drew | apply IsS49.set_1 | apply IsS49.set_2 | refine IsS49.far ?_ NB0_119.out _ | refine IsS49.far ?_ NB0_123.out _) | exact HI0.out)) (Sh.rl HO166.out) (by decide)) hk (fun _ h => h.2)) (fun _ h => h.1)); replace HK := am_ (KeepBut.trans (by repeat (first | (with_reducible first | exact HK.out | apply KeepBut.set_ | apply keep_drewN | apply keep_drew | apply keep_alloc | refine keep_far ?_ GW119.out _ | refine keep_far ?_ GW123.out _) | exact HK.out)) hk (.inl rfl)); replace HB := am_ hb; replace HI0 := am_ hi; (try clear hb); (try clear hb2); (try clear hk); (try clear hi); obtain ⟨hcz110_0, hcz110_1, hcz110_2, hfz110_0, hfz110_1, hfz110_2⟩ := Sh.b3 BK123.out; have hnb111 := NB119_0.out; have hnc111 := NB0_119.out; obtain ⟨hcz112_0, hcz112_1, hcz112_2, hfz112_0, hfz112_1, hfz112_2⟩ := Sh.b3 BK119.out))
      refine bodyPost_ret (results_cell_row rfl _ _ gb119 27 #[.int .i64 t167, .slice Ao99 x124001_1.length co99, .slice Ao103 t152.length co103] (0, 0) _ rfl (by refine Sh.pl ?_; refine blk_put (cs := #[.int .i64 t167, .slice Ao99 x124001_1.length co99, .slice none 0 0]) ?_ 2 _ rfl; refine Sh.pl ?_; refine blk_put (cs := #[.int .i64 t167, .slice none 0 0, .slice none 0 0]) ?_ 1 _ rfl; refine Sh.pl ?_; refine blk_put (cs := #[.int .i64 0, .slice none 0 0, .slice none 0 0]) ?_ 0 _ rfl; refine Sh.pl ?_; refine blk_far ?_ NB119_123.out _; refine Sh.pl ?_; exact BK119.out) Try.underlying27 rfl (by kernel_rfl)) rfl ?_
      exact ⟨_, _, by first | rfl | (simp [errW_none, errW_some] <;> rfl) | (simp [*, errW_none, errW_some] <;> rfl), Sh.rl (Kd.R_mono (Kd.R_far (p := ⟨gb119, 2, none⟩) (Kd.R_far (p := ⟨gb119, 1, none⟩) (Kd.R_far (p := ⟨gb119, 0, none⟩) (Kd.R_far (p := ⟨gb123, 0, none⟩) (Kd.R_types (Kd.R_types HO_124001.out BK123.out (by decide)) BK119.out (by decide)) (fun _ hk => hk.1.2) (.int .i64 t167)) (fun _ hk => hk.2) (.int .i64 t167)) (fun _ hk => hk.2) (.slice Ao99 x124001_1.length co99)) (fun _ hk => hk.2) (.slice Ao103 t152.length co103)) (fun _ hk => trivial)), Sh.rl (Kd.R_mono (Kd.R_far (p := ⟨gb119, 2, none⟩) (Kd.R_far (p := ⟨gb119, 1, none⟩) (Kd.R_far (p := ⟨gb119, 0, none⟩) (Kd.R_far (p := ⟨gb123, 0, none⟩) (Kd.R_types (Kd.R_types HO154.out BK123.out (by decide)) BK119.out (by decide)) (fun _ hk => hk.1.2) (.int .i64 t167)) (fun _ hk => hk.2) (.int .i64 t167)) (fun _ hk => hk.2) (.slice Ao99 x124001_1.length co99)) (fun _ hk => hk.2) (.slice Ao103 t152.length co103)) (fun _ hk => trivial)), by repeat (first | (with_reducible first | exact HI0.out | apply IsS49.alloc | apply IsS49.drewN | apply IsS49.drew | apply IsS49.set_1 | apply IsS49.set_2 | refine IsS49.far ?_ NB0_119.out _ | refine IsS49.far ?_ NB0_123.out _) | exact HI0.out), by repeat (first | (with_reducible first | exact HB.out | apply below_alloc | apply pw_below_drewN | apply below_drew1 | refine below_set ?_ (IsS49.ge HI0.out) | refine below_set ?_ GE119.out | refine below_set ?_ GE123.out) | exact HB.out), by repeat (first | (with_reducible first | exact HK.out | apply KeepBut.set_ | apply keep_drewN | apply keep_drew | apply keep_alloc | refine keep_far ?_ GW119.out _ | refine keep_far ?_ GW123.out _) | exact HK.out)⟩
     ·rw [if_neg c94] at H
      have c94b0 : (t157 == 1) = false := beq_eq_false_iff_ne.mpr c94
      have c94b1 : (t157 != 1) = true := bne_iff_ne.mpr c94
      by_cases c113 : t157 = 2
      ·rw [if_pos c113] at H
       have c113b0 : (t157 == 2) = true := beq_iff_eq.mpr c113
       have c113b1 : (t157 != 2) = false := bne_eq_false_iff_eq.mpr c113
       clear c113
       have H' := am_ H
       clear H
       have hnb114 := NB123_119.out
       have hnc114 := NB119_123.out
       have hnb115 := NB123_0.out
       have hnc115 := NB0_123.out
       have hcz116_0 := Sh.bc BK123.out 0
       have hcz116_1 := Sh.bc BK123.out 1
       have hcz116_2 := Sh.bc BK123.out 2
       have hfz116_0 := blk_frozen BK123.out 0
       have hfz116_1 := blk_frozen BK123.out 1
       have hfz116_2 := blk_frozen BK123.out 2
       obtain ⟨Ao117, co117, eo117⟩ := Kd.R_slice HO_124001.out
       subst eo117
       go_wp2_with (first | ((with_reducible refine Sh.k 28 ?_); refine Sh.gL (some 47) Try.func28 #[.agg #[.int .i64 (wrap64 (1 + t120)), .slice Ao117 x124001_1.length co117, .slice none 0 0]] (h := ?_); (refine (spec_l4Wires.calls (wrap64 (1 + t120)) _ _ x124001_1 _ _ ([] : List Int) t148 _ ?side1 ?side2 ?side3 ?side4 A69.out).mono ?_); (case side1 => repeat (first | exact (Kd.R_reads' HO_124001.out).2.2 | (with_reducible first | refine Kd.C_alloc ?_ _ | refine Kd.C_drewN ?_ _ | refine Kd.C_drew ?_))); (case side2 => exact (Kd.R_reads' HO_124001.out).2.1); (case side3 => exact Kd.C_nil _ _); (case side4 => exact Nat.le_refl _); rintro e w118 ⟨rfl, hb⟩; refine ⟨_, rfl, ?_⟩; replace HO_124001 := am_ (Kd.R_below (Sh.rl HO_124001.out) hb); replace BK119 := Sh.ab BK119 hb; replace BK123 := Sh.ab BK123 hb; replace HK := am_ (KeepBut.trans (by repeat (first | (with_reducible first | exact HK.out | apply KeepBut.set_ | apply keep_drewN | apply keep_drew | apply keep_alloc | refine keep_far ?_ GW119.out _ | refine keep_far ?_ GW123.out _) | exact HK.out)) (KeepBut.of_below hb g none) (.inl rfl)); replace HB := am_ (below_step (by repeat (first | (with_reducible first | exact HB.out | apply below_alloc | apply pw_below_drewN | apply below_drew1 | refine below_set ?_ (IsS49.ge HI0.out) | refine below_set ?_ GE119.out | refine below_set ?_ GE123.out) | exact HB.out)) hb); replace HI0 := am_ (IsS49.below (by repeat (first | (with_reducible first | exact HI0.out | apply IsS49.alloc | apply IsS49.drewN | apply IsS49.drew | apply IsS49.set_1 | apply IsS49.set_2 | refine IsS49.far ?_ NB0_119.out _ | refine IsS49.far ?_ NB0_123.out _) | exact HI0.out)) hb); (try clear hb); (try clear hb2); (try clear hk); (try clear hi)) | ((with_reducible refine Sh.k 24 ?_); refine Sh.gL (some 49) Try.func24 #[.pointer (some ⟨g, 0, none⟩), .int .i64 5] (h := ?_); (with_reducible refine (spec_l1Cur_pick.calls g s0_0 x1001_1 x1002_1 5 t149 t150 t151 w0 _ ?side1 ?side2 A70.out).mono ?_); (case side1 => repeat (first | (with_reducible first | exact HI0.out | apply IsS49.alloc | apply IsS49.drewN | apply IsS49.drew | apply IsS49.set_1 | apply IsS49.set_2 | refine IsS49.far ?_ NB0_119.out _ | refine IsS49.far ?_ NB0_123.out _) | exact HI0.out)); (case side2 => repeat (first | (with_reducible first | exact HB.out | apply below_alloc | apply pw_below_drewN | apply below_drew1 | refine below_set ?_ (IsS49.ge HI0.out) | refine below_set ?_ GE119.out | refine below_set ?_ GE123.out) | exact HB.out)); rintro e w119 ⟨rfl, hi, hb, hk⟩; refine ⟨_, rfl, ?_⟩; replace HO_124001 := am_ (Kd.R_mono (Kd.R_keep (IsS49.apart (show IsS49 w0 _ g s0_0 x1001_1 x1002_1 from by repeat (first | (with_reducible first | exact HI0.out | apply IsS49.alloc | apply IsS49.drewN | apply IsS49.drew | apply IsS49.set_1 | apply IsS49.set_2 | refine IsS49.far ?_ NB0_119.out _ | refine IsS49.far ?_ NB0_123.out _) | exact HI0.out)) (Sh.rl HO_124001.out) (by decide)) hk (fun _ h => h.2)) (fun _ h => h.1)); replace BK119 := am_ (KeepBut.blk hk (g' := gb119) (o := .cells #[.int .i64 0, .slice none 0 0, .slice none 0 0] 27 (0, 0)) (Sh.pl BK119.out) NB119_0.out (by simp)); replace BK123 := am_ (KeepBut.blk hk (g' := gb123) (o := .cells #[.int .i64 (wrap64 (1 + t120)), .slice Ao117 x124001_1.length co117, .slice none 0 0] 27 (0, 0)) (Sh.pl BK123.out) NB123_0.out (by simp)); replace HK := am_ (KeepBut.trans (by repeat (first | (with_reducible first | exact HK.out | apply KeepBut.set_ | apply keep_drewN | apply keep_drew | apply keep_alloc | refine keep_far ?_ GW119.out _ | refine keep_far ?_ GW123.out _) | exact HK.out)) hk (.inl rfl)); replace HB := am_ hb; replace HI0 := am_ hi; (try clear hb); (try clear hb2); (try clear hk); (try clear hi)) | ((with_reducible refine Sh.k 27 ?_); refine Sh.gL (some 50) Try.func27 #[.pointer (some ⟨g, 0, none⟩), .int .i64 t148, .int .i64 t149] (h := ?_); (with_reducible refine (spec_l1Cur_wires.calls k1 g s0_0 t150 t151 t148 t149 t152 t155 t156 w0 _ ?side1 ?side2 A71.out).mono ?_); (case side1 => repeat (first | (with_reducible first | exact HI0.out | apply IsS49.alloc | apply IsS49.drewN | apply IsS49.drew | apply IsS49.set_1 | apply IsS49.set_2 | refine IsS49.far ?_ NB0_119.out _ | refine IsS49.far ?_ NB0_123.out _) | exact HI0.out)); (case side2 => repeat (first | (with_reducible first | exact HB.out | apply below_alloc | apply pw_below_drewN | apply below_drew1 | refine below_set ?_ (IsS49.ge HI0.out) | refine below_set ?_ GE119.out | refine below_set ?_ GE123.out) | exact HB.out)); rintro e w120 ⟨v153, rfl, ho0, hi, hb, hk⟩; refine ⟨_, rfl, ?_⟩; replace HO_124001 := am_ (Kd.R_mono (Kd.R_keep (IsS49.apart (show IsS49 w0 _ g s0_0 t150 t151 from by repeat (first | (with_reducible first | exact HI0.out | apply IsS49.alloc | apply IsS49.drewN | apply IsS49.drew | apply IsS49.set_1 | apply IsS49.set_2 | refine IsS49.far ?_ NB0_119.out _ | refine IsS49.far ?_ NB0_123.out _) | exact HI0.out)) (Sh.rl HO_124001.out) (by decide)) hk (fun _ h => h.2)) (fun _ h => h.1)); replace BK119 := am_ (KeepBut.blk hk (g' := gb119) (o := .cells #[.int .i64 0, .slice none 0 0, .slice none 0 0] 27 (0, 0)) (Sh.pl BK119.out) NB119_0.out (by simp)); replace BK123 := am_ (KeepBut.blk hk (g' := gb123) (o := .cells #[.int .i64 (wrap64 (1 + t120)), .slice Ao117 x124001_1.length co117, .slice none 0 0] 27 (0, 0)) (Sh.pl BK123.out) NB123_0.out (by simp)); have HO154 := am_ (Kd.R_lower ho0 (keep_size (w := w) (g := g) (row := none) (by repeat (first | (with_reducible first | exact HK.out | apply KeepBut.set_ | apply keep_drewN | apply keep_drew | apply keep_alloc | refine keep_far ?_ GW119.out _ | refine keep_far ?_ GW123.out _) | exact HK.out)))); replace HK := am_ (KeepBut.trans (by repeat (first | (with_reducible first | exact HK.out | apply KeepBut.set_ | apply keep_drewN | apply keep_drew | apply keep_alloc | refine keep_far ?_ GW119.out _ | refine keep_far ?_ GW123.out _) | exact HK.out)) hk (.inl rfl)); replace HB := am_ hb; replace HI0 := am_ hi; (try clear hb); (try clear hb2); (try clear hk); (try clear hi); (try clear ho0); obtain ⟨Ao121, co121, eo121⟩ := Kd.R_slice HO154.out; subst eo121; obtain ⟨hcz122_0, hcz122_1, hcz122_2, hfz122_0, hfz122_1, hfz122_2⟩ := Sh.b3 BK123.out) | ((with_reducible refine Sh.k 24 ?_); refine Sh.gL (some 53) Try.func24 #[.pointer (some ⟨g, 0, none⟩), .int .i64 30] (h := ?_); (with_reducible refine (spec_l1Cur_pick.calls g s0_0 t155 t156 30 t157 t158 t159 w0 _ ?side1 ?side2 A72.out).mono ?_); (case side1 => repeat (first | (with_reducible first | exact HI0.out | apply IsS49.alloc | apply IsS49.drewN | apply IsS49.drew | apply IsS49.set_1 | apply IsS49.set_2 | refine IsS49.far ?_ NB0_119.out _ | refine IsS49.far ?_ NB0_123.out _) | exact HI0.out)); (case side2 => repeat (first | (with_reducible first | exact HB.out | apply below_alloc | apply pw_below_drewN | apply below_drew1 | refine below_set ?_ (IsS49.ge HI0.out) | refine below_set ?_ GE119.out | refine below_set ?_ GE123.out) | exact HB.out)); rintro e w123 ⟨rfl, hi, hb, hk⟩; refine ⟨_, rfl, ?_⟩; have n0_ := am_ (Kd.R_mono (Kd.R_keep (IsS49.apart (show IsS49 w0 _ g s0_0 t155 t156 from by repeat (first | (with_reducible first | exact HI0.out | apply IsS49.alloc | apply IsS49.drewN | apply IsS49.drew | apply IsS49.set_1 | apply IsS49.set_2 | refine IsS49.far ?_ NB0_119.out _ | refine IsS49.far ?_ NB0_123.out _) | exact HI0.out)) (Sh.rl (Kd.R_mono (Kd.R_far (p := ⟨gb123, 2, none⟩) (Kd.R_types HO_124001.out BK123.out (by decide)) (fun _ hk => hk.2) (.slice Ao121 t152.length co121)) (fun _ h_ => h_.1))) (by decide)) hk (fun _ h => h.2)) (fun _ h => h.1)); have n1_ := am_ (KeepBut.blk hk (g' := gb119) (o := .cells #[.int .i64 0, .slice none 0 0, .slice none 0 0] 27 (0, 0)) (by refine Sh.pl ?_; refine blk_far ?_ NB119_123.out _; refine Sh.pl ?_; exact BK119.out) NB119_0.out (by simp)); have n2_ := am_ (KeepBut.blk hk (g' := gb123) (o := .cells #[.int .i64 (wrap64 (1 + t120)), .slice Ao117 x124001_1.length co117, .slice Ao121 t152.length co121] 27 (0, 0)) (by refine Sh.pl ?_; refine blk_put (cs := #[.int .i64 (wrap64 (1 + t120)), .slice Ao117 x124001_1.length co117, .slice none 0 0]) ?_ 2 _ rfl; refine Sh.pl ?_; exact BK123.out) NB123_0.out (by simp)); have n3_ := am_ (Kd.R_mono (Kd.R_keep (IsS49.apart (show IsS49 w0 _ g s0_0 t155 t156 from by repeat (first | (with_reducible first | exact HI0.out | apply IsS49.alloc | apply IsS49.drewN | apply IsS49.drew | apply IsS49.set_1 | apply IsS49.set_2 | refine IsS49.far ?_ NB0_119.out _ | refine IsS49.far ?_ NB0_123.out _) | exact HI0.out)) (Sh.rl (Kd.R_mono (Kd.R_far (p := ⟨gb123, 2, none⟩) (Kd.R_types HO154.out BK123.out (by decide)) (fun _ hk => hk.2) (.slice Ao121 t152.length co121)) (fun _ h_ => h_.1))) (by decide)) hk (fun _ h => h.2)) (fun _ h => h.1)); have n4_ := am_ (KeepBut.trans (by repeat (first | (with_reducible first | exact HK.out | apply KeepBut.set_ | apply keep_drewN | apply keep_drew | apply keep_alloc | refine keep_far ?_ GW119.out _ | refine keep_far ?_ GW123.out _) | exact HK.out)) hk (.inl rfl)); have n5_ := am_ hb; have n6_ := am_ hi; clear HO_124001; clear BK119; clear BK123; clear HO154; clear HK; clear HB; clear HI0; have HO_124001 := n0_; have BK119 := n1_; have BK123 := n2_; have HO154 := n3_; have HK := n4_; have HB := n5_; have HI0 := n6_; clear n0_ n1_ n2_ n3_ n4_ n5_ n6_; (try clear hb); (try clear hb2); (try clear hk); (try clear hi)))
       go_loopg [] k1 (fun kq w' => ∃ (x1001_2 : Int) (x1002_2 : Int) (x124001_2 : List (S66)) (u124001 : Value), Aside0 (spec_l1Cur_circuit.l1 kq s0_0 x1001_2 x1002_2 (wrap64 (1 + t120)) x124001_2 t152 = some (r1, r2, r3, r4, r5)) ∧ Aside0 (kq ≤ k1) ∧ Aside0 (Kd.R k66 66 w' w.heap.size (fun _ => True) u124001 x124001_2) ∧ Aside0 (Kd.R (Kd.int .i64) 3 w' w.heap.size (fun _ => True) (.slice Ao121 t152.length co121) t152) ∧ Aside0 (w'.heap[gb119]? = some (.cells #[.int .i64 0, (.slice none 0 0), (.slice none 0 0)] 27 (0, 0))) ∧ Aside0 (w'.heap[gb123]? = some (.cells #[.int .i64 (wrap64 (1 + t120)), u124001, (.slice Ao121 t152.length co121)] 27 (0, 0))) ∧ Aside0 (IsS49 w0 w' g s0_0 x1001_2 x1002_2) ∧ Aside0 (KeepBut w w' g none) ∧ Aside0 (Below w0.heap.size w0 w'))
       case atStart => exact ⟨(t158), (t159), (x124001_1), (.slice Ao117 x124001_1.length co117), H', ⟨Nat.le_refl _⟩, ⟨Sh.rl HO_124001.out⟩, ⟨Sh.rl HO154.out⟩, ⟨by refine Sh.pl ?_; exact BK119.out⟩, ⟨by refine Sh.pl ?_; exact BK123.out⟩, ⟨by repeat (first | (with_reducible first | exact HI0.out | apply IsS49.alloc | apply IsS49.drewN | apply IsS49.drew | apply IsS49.set_1 | apply IsS49.set_2 | refine IsS49.far ?_ NB0_119.out _ | refine IsS49.far ?_ NB0_123.out _) | exact HI0.out)⟩, ⟨by repeat (first | (with_reducible first | exact HK.out | apply KeepBut.set_ | apply keep_drewN | apply keep_drew | apply keep_alloc | refine keep_far ?_ GW119.out _ | refine keep_far ?_ GW123.out _) | exact HK.out)⟩, ⟨by repeat (first | (with_reducible first | exact HB.out | apply below_alloc | apply pw_below_drewN | apply below_drew1 | refine below_set ?_ (IsS49.ge HI0.out) | refine below_set ?_ GE119.out | refine below_set ?_ GE123.out) | exact HB.out)⟩⟩
       case round =>
        clear H'
        try clear hcz104_0
        try clear hcz104_1
        try clear hcz104_2
        try clear hcz110_0
        try clear hcz110_1
        try clear hcz110_2
        try clear hcz112_0
        try clear hcz112_1
        try clear hcz112_2
        try clear hcz116_0
        try clear hcz116_1
        try clear hcz116_2
        try clear hcz122_0
        try clear hcz122_1
        try clear hcz122_2
        try clear hcz19_0
        try clear hcz19_1
        try clear hcz19_2
        try clear hcz26_0
        try clear hcz26_1
        try clear hcz26_2
        try clear hcz32_0
        try clear hcz32_1
        try clear hcz32_2
        try clear hcz38_0
        try clear hcz38_1
        try clear hcz38_2
        try clear hcz46_0
        try clear hcz46_1
        try clear hcz46_2
        try clear hcz49_0
        try clear hcz49_1
        try clear hcz49_2
        try clear hcz53_0
        try clear hcz53_1
        try clear hcz53_2
        try clear hcz54_0
        try clear hcz54_1
        try clear hcz54_2
        try clear hcz57_0
        try clear hcz57_1
        try clear hcz57_2
        try clear hcz62_0
        try clear hcz62_1
        try clear hcz62_2
        try clear hcz65_0
        try clear hcz65_1
        try clear hcz65_2
        try clear hcz68_0
        try clear hcz68_1
        try clear hcz68_2
        try clear hcz78_0
        try clear hcz78_1
        try clear hcz78_2
        try clear hcz84_0
        try clear hcz84_1
        try clear hcz84_2
        try clear hcz91_0
        try clear hcz91_1
        try clear hcz91_2
        try clear hcz93_0
        try clear hcz93_1
        try clear hcz93_2
        try clear hcz98_0
        try clear hcz98_1
        try clear hcz98_2
        try clear hcz9_0
        try clear hcz9_1
        try clear hcz9_2
        try clear hfz104_0
        try clear hfz104_1
        try clear hfz104_2
        try clear hfz110_0
        try clear hfz110_1
        try clear hfz110_2
        try clear hfz112_0
        try clear hfz112_1
        try clear hfz112_2
        try clear hfz116_0
        try clear hfz116_1
        try clear hfz116_2
        try clear hfz122_0
        try clear hfz122_1
        try clear hfz122_2
        try clear hfz19_0
        try clear hfz19_1
        try clear hfz19_2
        try clear hfz26_0
        try clear hfz26_1
        try clear hfz26_2
        try clear hfz32_0
        try clear hfz32_1
        try clear hfz32_2
        try clear hfz38_0
        try clear hfz38_1
        try clear hfz38_2
        try clear hfz46_0
        try clear hfz46_1
        try clear hfz46_2
        try clear hfz49_0
        try clear hfz49_1
        try clear hfz49_2
        try clear hfz53_0
        try clear hfz53_1
        try clear hfz53_2
        try clear hfz54_0
        try clear hfz54_1
        try clear hfz54_2
        try clear hfz57_0
        try clear hfz57_1
        try clear hfz57_2
        try clear hfz62_0
        try clear hfz62_1
        try clear hfz62_2
        try clear hfz65_0
        try clear hfz65_1
        try clear hfz65_2
        try clear hfz68_0
        try clear hfz68_1
        try clear hfz68_2
        try clear hfz78_0
        try clear hfz78_1
        try clear hfz78_2
        try clear hfz84_0
        try clear hfz84_1
        try clear hfz84_2
        try clear hfz91_0
        try clear hfz91_1
        try clear hfz91_2
        try clear hfz93_0
        try clear hfz93_1
        try clear hfz93_2
        try clear hfz98_0
        try clear hfz98_1
        try clear hfz98_2
        try clear hfz9_0
        try clear hfz9_1
        try clear hfz9_2
        obtain ⟨x1001_2, x1002_2, x124001_2, u124001, HA, HK2, HO_124001, HO_124002, BK119, BK123, HI0, HK, HB⟩ := hrel
        cases gk with
        | zero => exact absurd HA.out (by simp [spec_l1Cur_circuit.l1])
        | succ k2 =>
         have H := HA.out
         clear HA
         simp only [spec_l1Cur_circuit.l1] at H
         obtain ⟨⟨t170, t171, t172⟩, A1240, H⟩ := Sh.bd H
         have A124 := am_ A1240
         clear A1240
         by_cases c125 : (x124001_2.length : Int) < (wrap64 (300 + t170))
         ·rw [if_pos c125] at H
          have c125b0 := decide_eq_true c125
          clear c125
          by_cases c126 : x124001_2.length < 5864062014805
          ·rw [if_pos c126] at H
           have LMc126 := am_ c126
           clear c126
           obtain ⟨y173, hy173⟩ : ∃ y_ : List (S66), y_ = (x124001_2 ++ [(⟨2, 0, 0⟩ : S66)]) := ⟨_, rfl⟩
           replace H : (spec_l1Cur_circuit.l1 k2 s0_0 t171 t172 (wrap64 (1 + t120)) y173 t152) = some (r1, r2, r3, r4, r5) := by first | (rw [hy173]; with_reducible exact H) | (have H2_ := (Option.bind_some _ _).symm.trans H; rw [hy173]; with_reducible exact H2_) | (have H2_ := (Option.bind_some _ _).symm.trans H; with_reducible exact H2_) | with_reducible exact H | (rw [hy173]; exact H) | exact H
           have Ny173 := am_ hy173
           clear hy173
           have H' := am_ H
           clear H
           try go_wp2
           replace HO_124001 := am_ (Kd.R_drew HO_124001.out)
           replace HO_124002 := am_ (Kd.R_drew HO_124002.out)
           replace BK119 := am_ (blk_drew BK119.out)
           replace BK123 := am_ (blk_drew BK123.out)
           replace HI0 := am_ (IsS49.drew HI0.out)
           replace HK := am_ (keep_drew HK.out)
           replace HB := am_ (below_drew1 HB.out)
           obtain ⟨Ao128, co128, eo128⟩ := Kd.R_slice HO_124001.out
           (first | subst eo128 | (injection eo128 with f1_ f2_ f3_; have f4_ := f1_.symm; have f5_ := f3_.symm; clear f1_ f2_ f3_; subst f4_; subst f5_))
           refine start_ (n := 7) (S := fun w' => w'.cell? ⟨gb123, 0, none⟩ = some (.int .i64 (wrap64 (1 + t120))) ∧ w'.cell? ⟨gb123, 1, none⟩ = some (.slice Ao128 x124001_2.length co128) ∧ w'.cell? ⟨gb123, 2, none⟩ = some (.slice Ao121 t152.length co121)) (ds := []) (Sh.nm 7 0) (by kernel_rfl) rfl rfl Sh.cs (fun hHeld => ?_)
           generalize wr.drew = w127 at HO_124001 HO_124002 BK119 BK123 HI0 HK HB hHeld ⊢
           refine Sh.pA 0 71 (Sh.pre 7 1) (by kernel_rfl) ?_
           refine Sh.pA 3 74 (Sh.nm 7 9) (by kernel_rfl) ?_
           refine Sh.tA 1 72 (Sh.nm 7 11) (by kernel_rfl) hHeld ?_ (hy := by rintro w' ⟨s0, s1, s2⟩; go_simp; with_reducible rfl)
           refine Sh.pA 2 73 (Sh.pre 7 4) (by kernel_rfl) ?_
           refine one_ (i := 4) (N := some 75) (Sh.nm 7 31) rfl rfl (by kernel_rfl) (by decide) (fun K hK => ?_)
           refine goes_ Try.func24 (by kernel_rfl) rfl #[.pointer (some ⟨g, 0, none⟩), .int .i64 2] (by rfl) rfl rfl (by (try simp only [List.map_toArray, List.map_cons, List.map_nil]); first | done | rfl | (simp only [List.length_drop, List.length_take]; rfl)) ?_
           with_reducible refine (spec_l1Cur_pick.calls g s0_0 x1001_2 x1002_2 2 t170 t171 t172 w0 _ ?side1 ?side2 A124.out).mono ?_
           (case side1 => repeat (first | (with_reducible first | exact HI0.out | apply IsS49.alloc | apply IsS49.drewN | apply IsS49.drew | apply IsS49.set_1 | apply IsS49.set_2 | refine IsS49.far ?_ NB0_119.out _ | refine IsS49.far ?_ NB0_123.out _) | exact HI0.out))
           (case side2 => repeat (first | (with_reducible first | exact HB.out | apply below_alloc | apply pw_below_drewN | apply below_drew1 | refine below_set ?_ (IsS49.ge HI0.out) | refine below_set ?_ GE119.out | refine below_set ?_ GE123.out) | exact HB.out))
           rintro e w129 ⟨rfl, hi, hb, hk⟩
           refine ⟨_, rfl, ?_⟩
           replace HO_124001 := am_ (Kd.R_mono (Kd.R_keep (IsS49.apart (show IsS49 w0 _ g s0_0 x1001_2 x1002_2 from by repeat (first | (with_reducible first | exact HI0.out | apply IsS49.alloc | apply IsS49.drewN | apply IsS49.drew | apply IsS49.set_1 | apply IsS49.set_2 | refine IsS49.far ?_ NB0_119.out _ | refine IsS49.far ?_ NB0_123.out _) | exact HI0.out)) (Sh.rl HO_124001.out) (by decide)) hk (fun _ h => h.2)) (fun _ h => h.1))
           replace HO_124002 := am_ (Kd.R_mono (Kd.R_keep (IsS49.apart (show IsS49 w0 _ g s0_0 x1001_2 x1002_2 from by repeat (first | (with_reducible first | exact HI0.out | apply IsS49.alloc | apply IsS49.drewN | apply IsS49.drew | apply IsS49.set_1 | apply IsS49.set_2 | refine IsS49.far ?_ NB0_119.out _ | refine IsS49.far ?_ NB0_123.out _) | exact HI0.out)) (Sh.rl HO_124002.out) (by decide)) hk (fun _ h => h.2)) (fun _ h => h.1))
           replace BK119 := am_ (KeepBut.blk hk (g' := gb119) (o := .cells #[.int .i64 0, .slice none 0 0, .slice none 0 0] 27 (0, 0)) (Sh.pl BK119.out) NB119_0.out (by simp))
           replace BK123 := am_ (KeepBut.blk hk (g' := gb123) (o := .cells #[.int .i64 (wrap64 (1 + t120)), .slice Ao128 x124001_2.length co128, .slice Ao121 t152.length co121] 27 (0, 0)) (Sh.pl BK123.out) NB123_0.out (by simp))
           replace HK := am_ (KeepBut.trans (by repeat (first | (with_reducible first | exact HK.out | apply KeepBut.set_ | apply keep_drewN | apply keep_drew | apply keep_alloc | refine keep_far ?_ GW119.out _ | refine keep_far ?_ GW123.out _) | exact HK.out)) hk (.inl rfl))
           replace HB := am_ hb
           replace HI0 := am_ hi
           (try clear hb)
           (try clear hb2)
           (try clear hk)
           (try clear hi)
           refine Sh.kN hK Sh.cs fun hHeld => ?_
           clear hK K
           refine Sh.pA 5 76 (Sh.pre 7 6) (by kernel_rfl) ?_
           refine Sh.pA 6 77 (Sh.pre 7 7) (by kernel_rfl) ?_
           refine done_ (by kernel_rfl) ?_
           have hnb130 := NB123_119.out
           have hnc130 := NB119_123.out
           have hnb131 := NB123_0.out
           have hnc131 := NB0_123.out
           have hcz132_0 := Sh.bc BK123.out 0
           have hcz132_1 := Sh.bc BK123.out 1
           have hcz132_2 := Sh.bc BK123.out 2
           have hfz132_0 := blk_frozen BK123.out 0
           have hfz132_1 := blk_frozen BK123.out 1
           have hfz132_2 := blk_frozen BK123.out 2
           try go_wp2_with (first | ((with_reducible refine gate_builtin (b := .append) (xs := #[.tmp 79, .tmp 81]) rfl ?_); at_builtin; refine Kd.R_append k66 w.heap.size rfl (.tmp 79) (.tmp 81) 24 66 (.agg #[(.int .i64 0), (.int .i64 0), (.int .i64 0)]) 24 rfl Try.underlying24 info66 rfl (by decide) (by omega) (.slice Ao128 x124001_2.length co128) x124001_2 (⟨2, 0, 0⟩ : S66) [.int .i64 2, .int .i64 0, .int .i64 0] (fun _ => True) (fun _ => False) rfl rfl ?aP (fun _ hk => hk.elim) ?aF ?aO (Below.refl _ _) ?aS ?aL ?_; (case aP => exact k66_mkM _ _ _ (⟨2, 0, 0⟩ : S66)); (case aF => exact (fun _ _ => trivial)); (case aO => exact (Sh.rl HO_124001.out)); (case aS => exact (keep_size (w := w) (g := g) (row := none) (by repeat (first | (with_reducible first | exact HK.out | apply KeepBut.set_ | apply keep_drewN | apply keep_drew | apply keep_alloc | refine keep_far ?_ GW119.out _ | refine keep_far ?_ GW123.out _) | exact HK.out)))); (case aL => have := LMc126.out; omega); intro v174 w133 ho hb hg hat; rw [← Ny173.out] at ho; have n0_ := am_ (Kd.R_over' (Sh.rl HO_124002.out) (Kd.R_typed (Sh.rl HO_124001.out)) (by decide) hg); have n1_ := am_ (blk_grown (g := gb119) (o := .cells #[.int .i64 0, .slice none 0 0, .slice none 0 0] 27 (0, 0)) (Sh.pl BK119.out) hg (Kd.R_ne HO_124001.out BK119.out (by decide))); have n2_ := am_ (blk_grown (g := gb123) (o := .cells #[.int .i64 (wrap64 (1 + t120)), .slice Ao128 x124001_2.length co128, .slice Ao121 t152.length co121] 27 (0, 0)) (Sh.pl BK123.out) hg (Kd.R_ne HO_124001.out BK123.out (by decide))); have n3_ := am_ (IsS49.grown (by repeat (first | (with_reducible first | exact HI0.out | apply IsS49.alloc | apply IsS49.drewN | apply IsS49.drew | apply IsS49.set_1 | apply IsS49.set_2 | refine IsS49.far ?_ NB0_119.out _ | refine IsS49.far ?_ NB0_123.out _) | exact HI0.out)) hg (IsS49.own_ne HI0.out HO_124001.out (by decide))); have n4_ := am_ (below_weaken (by repeat (first | (with_reducible first | exact HB.out | apply below_alloc | apply pw_below_drewN | apply below_drew1 | refine below_set ?_ (IsS49.ge HI0.out) | refine below_set ?_ GE119.out | refine below_set ?_ GE123.out) | exact HB.out)) HL.out hb); have n5_ := am_ (KeepBut.trans (by repeat (first | (with_reducible first | exact HK.out | apply KeepBut.set_ | apply keep_drewN | apply keep_drew | apply keep_alloc | refine keep_far ?_ GW119.out _ | refine keep_far ?_ GW123.out _) | exact HK.out)) (KeepBut.of_grown hg g) (Kd.R_base2 HO_124001.out)); have n6_ := am_ ho; clear HO_124002; clear BK119; clear BK123; clear HI0; clear HB; clear HK; clear HO_124001; have HO_124002 := n0_; have BK119 := n1_; have BK123 := n2_; have HI0 := n3_; have HB := n4_; have HK := n5_; have HO175 := n6_; clear n0_ n1_ n2_ n3_ n4_ n5_ n6_; clear ho hb hg hat; obtain ⟨Ao134, co134, eo134⟩ := Kd.R_slice HO175.out; subst eo134; obtain ⟨hcz135_0, hcz135_1, hcz135_2, hfz135_0, hfz135_1, hfz135_2⟩ := Sh.b3 BK123.out))
           go_roundg k2
           case measure => have := HK1.out; have := HK2.out; omega
           case rel => exact ⟨(t171), (t172), (y173), (.slice Ao134 y173.length co134), H', ⟨by have := HK1.out; have := HK2.out; omega⟩, ⟨Sh.rl (Kd.R_mono (Kd.R_far (p := ⟨gb123, 1, none⟩) (Kd.R_types HO175.out BK123.out (by decide)) (fun _ hk => hk.2) (.slice Ao134 y173.length co134)) (fun _ hk => trivial))⟩, ⟨Sh.rl (Kd.R_mono (Kd.R_far (p := ⟨gb123, 1, none⟩) (Kd.R_types HO_124002.out BK123.out (by decide)) (fun _ hk => hk.2) (.slice Ao134 y173.length co134)) (fun _ hk => trivial))⟩, ⟨by refine Sh.pl ?_; refine blk_far ?_ NB119_123.out _; refine Sh.pl ?_; exact BK119.out⟩, ⟨by refine Sh.pl ?_; refine blk_put (cs := #[.int .i64 (wrap64 (1 + t120)), .slice Ao128 x124001_2.length co128, .slice Ao121 t152.length co121]) ?_ 1 _ rfl; refine Sh.pl ?_; exact BK123.out⟩, ⟨by repeat (first | (with_reducible first | exact HI0.out | apply IsS49.alloc | apply IsS49.drewN | apply IsS49.drew | apply IsS49.set_1 | apply IsS49.set_2 | refine IsS49.far ?_ NB0_119.out _ | refine IsS49.far ?_ NB0_123.out _) | exact HI0.out)⟩, ⟨by repeat (first | (with_reducible first | exact HK.out | apply KeepBut.set_ | apply keep_drewN | apply keep_drew | apply keep_alloc | refine keep_far ?_ GW119.out _ | refine keep_far ?_ GW123.out _) | exact HK.out)⟩, ⟨by repeat (first | (with_reducible first | exact HB.out | apply below_alloc | apply pw_below_drewN | apply below_drew1 | refine below_set ?_ (IsS49.ge HI0.out) | refine below_set ?_ GE119.out | refine below_set ?_ GE123.out) | exact HB.out)⟩⟩
          ·rw [if_neg c126] at H
           exact absurd H (by simp)
         ·rw [if_neg c125] at H
          have c125b0 := decide_eq_false c125
          clear c125
          simp only [Option.some.injEq, Prod.mk.injEq] at H
          obtain ⟨rfl, rfl, rfl, rfl, rfl⟩ := H
          try go_wp2
          replace HO_124001 := am_ (Kd.R_drew HO_124001.out)
          replace HO_124002 := am_ (Kd.R_drew HO_124002.out)
          replace BK119 := am_ (blk_drew BK119.out)
          replace BK123 := am_ (blk_drew BK123.out)
          replace HI0 := am_ (IsS49.drew HI0.out)
          replace HK := am_ (keep_drew HK.out)
          replace HB := am_ (below_drew1 HB.out)
          obtain ⟨Ao137, co137, eo137⟩ := Kd.R_slice HO_124001.out
          (first | subst eo137 | (injection eo137 with f1_ f2_ f3_; have f4_ := f1_.symm; have f5_ := f3_.symm; clear f1_ f2_ f3_; subst f4_; subst f5_))
          refine start_ (n := 7) (S := fun w' => w'.cell? ⟨gb123, 0, none⟩ = some (.int .i64 (wrap64 (1 + t120))) ∧ w'.cell? ⟨gb123, 1, none⟩ = some (.slice Ao137 x124001_2.length co137) ∧ w'.cell? ⟨gb123, 2, none⟩ = some (.slice Ao121 t152.length co121)) (ds := []) (Sh.nm 7 0) (by kernel_rfl) rfl rfl Sh.cs (fun hHeld => ?_)
          generalize wr.drew = w136 at HO_124001 HO_124002 BK119 BK123 HI0 HK HB hHeld ⊢
          refine Sh.pA 0 71 (Sh.pre 7 1) (by kernel_rfl) ?_
          refine Sh.pA 3 74 (Sh.nm 7 9) (by kernel_rfl) ?_
          refine Sh.tA 1 72 (Sh.nm 7 11) (by kernel_rfl) hHeld ?_ (hy := by rintro w' ⟨s0, s1, s2⟩; go_simp; with_reducible rfl)
          refine Sh.pA 2 73 (Sh.pre 7 4) (by kernel_rfl) ?_
          refine one_ (i := 4) (N := some 75) (Sh.nm 7 31) rfl rfl (by kernel_rfl) (by decide) (fun K hK => ?_)
          refine goes_ Try.func24 (by kernel_rfl) rfl #[.pointer (some ⟨g, 0, none⟩), .int .i64 2] (by rfl) rfl rfl (by (try simp only [List.map_toArray, List.map_cons, List.map_nil]); first | done | rfl | (simp only [List.length_drop, List.length_take]; rfl)) ?_
          with_reducible refine (spec_l1Cur_pick.calls g s0_0 x1001_2 x1002_2 2 t170 t171 t172 w0 _ ?side1 ?side2 A124.out).mono ?_
          (case side1 => repeat (first | (with_reducible first | exact HI0.out | apply IsS49.alloc | apply IsS49.drewN | apply IsS49.drew | apply IsS49.set_1 | apply IsS49.set_2 | refine IsS49.far ?_ NB0_119.out _ | refine IsS49.far ?_ NB0_123.out _) | exact HI0.out))
          (case side2 => repeat (first | (with_reducible first | exact HB.out | apply below_alloc | apply pw_below_drewN | apply below_drew1 | refine below_set ?_ (IsS49.ge HI0.out) | refine below_set ?_ GE119.out | refine below_set ?_ GE123.out) | exact HB.out))
          rintro e w138 ⟨rfl, hi, hb, hk⟩
          refine ⟨_, rfl, ?_⟩
          replace HO_124001 := am_ (Kd.R_mono (Kd.R_keep (IsS49.apart (show IsS49 w0 _ g s0_0 x1001_2 x1002_2 from by repeat (first | (with_reducible first | exact HI0.out | apply IsS49.alloc | apply IsS49.drewN | apply IsS49.drew | apply IsS49.set_1 | apply IsS49.set_2 | refine IsS49.far ?_ NB0_119.out _ | refine IsS49.far ?_ NB0_123.out _) | exact HI0.out)) (Sh.rl HO_124001.out) (by decide)) hk (fun _ h => h.2)) (fun _ h => h.1))
          replace HO_124002 := am_ (Kd.R_mono (Kd.R_keep (IsS49.apart (show IsS49 w0 _ g s0_0 x1001_2 x1002_2 from by repeat (first | (with_reducible first | exact HI0.out | apply IsS49.alloc | apply IsS49.drewN | apply IsS49.drew | apply IsS49.set_1 | apply IsS49.set_2 | refine IsS49.far ?_ NB0_119.out _ | refine IsS49.far ?_ NB0_123.out _) | exact HI0.out)) (Sh.rl HO_124002.out) (by decide)) hk (fun _ h => h.2)) (fun _ h => h.1))
          replace BK119 := am_ (KeepBut.blk hk (g' := gb119) (o := .cells #[.int .i64 0, .slice none 0 0, .slice none 0 0] 27 (0, 0)) (Sh.pl BK119.out) NB119_0.out (by simp))
          replace BK123 := am_ (KeepBut.blk hk (g' := gb123) (o := .cells #[.int .i64 (wrap64 (1 + t120)), .slice Ao137 x124001_2.length co137, .slice Ao121 t152.length co121] 27 (0, 0)) (Sh.pl BK123.out) NB123_0.out (by simp))
          replace HK := am_ (KeepBut.trans (by repeat (first | (with_reducible first | exact HK.out | apply KeepBut.set_ | apply keep_drewN | apply keep_drew | apply keep_alloc | refine keep_far ?_ GW119.out _ | refine keep_far ?_ GW123.out _) | exact HK.out)) hk (.inl rfl))
          replace HB := am_ hb
          replace HI0 := am_ hi
          (try clear hb)
          (try clear hb2)
          (try clear hk)
          (try clear hi)
          refine Sh.kN hK Sh.cs fun hHeld => ?_
          clear hK K
          refine Sh.pA 5 76 (Sh.pre 7 6) (by kernel_rfl) ?_
          refine Sh.pA 6 77 (Sh.pre 7 7) (by kernel_rfl) ?_
          refine done_ (by kernel_rfl) ?_
          have hnb139 := NB123_119.out
          have hnc139 := NB119_123.out
          have hnb140 := NB123_0.out
          have hnc140 := NB0_123.out
          have hcz141_0 := Sh.bc BK123.out 0
          have hcz141_1 := Sh.bc BK123.out 1
          have hcz141_2 := Sh.bc BK123.out 2
          have hfz141_0 := blk_frozen BK123.out 0
          have hfz141_1 := blk_frozen BK123.out 1
          have hfz141_2 := blk_frozen BK123.out 2
          have hnb142 := NB119_0.out
          have hnc142 := NB0_119.out
          have hcz143_0 := Sh.bc BK119.out 0
          have hcz143_1 := Sh.bc BK119.out 1
          have hcz143_2 := Sh.bc BK119.out 2
          have hfz143_0 := blk_frozen BK119.out 0
          have hfz143_1 := blk_frozen BK119.out 1
          have hfz143_2 := blk_frozen BK119.out 2
          try go_wp2
          refine bodyPost_ret (results_cell_row rfl _ _ gb119 27 #[.int .i64 (wrap64 (1 + t120)), .slice Ao137 x124001_2.length co137, .slice Ao121 t152.length co121] (0, 0) _ rfl (by refine Sh.pl ?_; refine blk_put (cs := #[.int .i64 (wrap64 (1 + t120)), .slice Ao137 x124001_2.length co137, .slice none 0 0]) ?_ 2 _ rfl; refine Sh.pl ?_; refine blk_put (cs := #[.int .i64 (wrap64 (1 + t120)), .slice none 0 0, .slice none 0 0]) ?_ 1 _ rfl; refine Sh.pl ?_; refine blk_put (cs := #[.int .i64 0, .slice none 0 0, .slice none 0 0]) ?_ 0 _ rfl; refine Sh.pl ?_; exact BK119.out) Try.underlying27 rfl (by kernel_rfl)) rfl ?_
          exact ⟨_, _, by first | rfl | (simp [errW_none, errW_some] <;> rfl) | (simp [*, errW_none, errW_some] <;> rfl), Sh.rl (Kd.R_mono (Kd.R_far (p := ⟨gb119, 2, none⟩) (Kd.R_far (p := ⟨gb119, 1, none⟩) (Kd.R_far (p := ⟨gb119, 0, none⟩) (Kd.R_types HO_124001.out BK119.out (by decide)) (fun _ hk => hk.2) (.int .i64 (wrap64 (1 + t120)))) (fun _ hk => hk.2) (.slice Ao137 x124001_2.length co137)) (fun _ hk => hk.2) (.slice Ao121 t152.length co121)) (fun _ hk => trivial)), Sh.rl (Kd.R_mono (Kd.R_far (p := ⟨gb119, 2, none⟩) (Kd.R_far (p := ⟨gb119, 1, none⟩) (Kd.R_far (p := ⟨gb119, 0, none⟩) (Kd.R_types HO_124002.out BK119.out (by decide)) (fun _ hk => hk.2) (.int .i64 (wrap64 (1 + t120)))) (fun _ hk => hk.2) (.slice Ao137 x124001_2.length co137)) (fun _ hk => hk.2) (.slice Ao121 t152.length co121)) (fun _ hk => trivial)), by repeat (first | (with_reducible first | exact HI0.out | apply IsS49.alloc | apply IsS49.drewN | apply IsS49.drew | apply IsS49.set_1 | apply IsS49.set_2 | refine IsS49.far ?_ NB0_119.out _ | refine IsS49.far ?_ NB0_123.out _) | exact HI0.out), by repeat (first | (with_reducible first | exact HB.out | apply below_alloc | apply pw_below_drewN | apply below_drew1 | refine below_set ?_ (IsS49.ge HI0.out) | refine below_set ?_ GE119.out | refine below_set ?_ GE123.out) | exact HB.out), by repeat (first | (with_reducible first | exact HK.out | apply KeepBut.set_ | apply keep_drewN | apply keep_drew | apply keep_alloc | refine keep_far ?_ GW119.out _ | refine keep_far ?_ GW123.out _) | exact HK.out)⟩
      ·rw [if_neg c113] at H
       have c113b0 : (t157 == 2) = false := beq_eq_false_iff_ne.mpr c113
       have c113b1 : (t157 != 2) = true := bne_iff_ne.mpr c113
       simp only [Option.some.injEq, Prod.mk.injEq] at H
       obtain ⟨rfl, rfl, rfl, rfl, rfl⟩ := H
       have hnb144 := NB123_119.out
       have hnc144 := NB119_123.out
       have hnb145 := NB123_0.out
       have hnc145 := NB0_123.out
       have hcz146_0 := Sh.bc BK123.out 0
       have hcz146_1 := Sh.bc BK123.out 1
       have hcz146_2 := Sh.bc BK123.out 2
       have hfz146_0 := blk_frozen BK123.out 0
       have hfz146_1 := blk_frozen BK123.out 1
       have hfz146_2 := blk_frozen BK123.out 2
       obtain ⟨Ao147, co147, eo147⟩ := Kd.R_slice HO_124001.out
       subst eo147
       go_wp2_with (first | ((with_reducible refine Sh.k 28 ?_); refine Sh.gL (some 47) Try.func28 #[.agg #[.int .i64 (wrap64 (1 + t120)), .slice Ao147 x124001_1.length co147, .slice none 0 0]] (h := ?_); (refine (spec_l4Wires.calls (wrap64 (1 + t120)) _ _ x124001_1 _ _ ([] : List Int) t148 _ ?side1 ?side2 ?side3 ?side4 A69.out).mono ?_); (case side1 => repeat (first | exact (Kd.R_reads' HO_124001.out).2.2 | (with_reducible first | refine Kd.C_alloc ?_ _ | refine Kd.C_drewN ?_ _ | refine Kd.C_drew ?_))); (case side2 => exact (Kd.R_reads' HO_124001.out).2.1); (case side3 => exact Kd.C_nil _ _); (case side4 => exact Nat.le_refl _); rintro e w148 ⟨rfl, hb⟩; refine ⟨_, rfl, ?_⟩; replace HO_124001 := am_ (Kd.R_below (Sh.rl HO_124001.out) hb); replace BK119 := Sh.ab BK119 hb; replace BK123 := Sh.ab BK123 hb; replace HK := am_ (KeepBut.trans (by repeat (first | (with_reducible first | exact HK.out | apply KeepBut.set_ | apply keep_drewN | apply keep_drew | apply keep_alloc | refine keep_far ?_ GW119.out _ | refine keep_far ?_ GW123.out _) | exact HK.out)) (KeepBut.of_below hb g none) (.inl rfl)); replace HB := am_ (below_step (by repeat (first | (with_reducible first | exact HB.out | apply below_alloc | apply pw_below_drewN | apply below_drew1 | refine below_set ?_ (IsS49.ge HI0.out) | refine below_set ?_ GE119.out | refine below_set ?_ GE123.out) | exact HB.out)) hb); replace HI0 := am_ (IsS49.below (by repeat (first | (with_reducible first | exact HI0.out | apply IsS49.alloc | apply IsS49.drewN | apply IsS49.drew | apply IsS49.set_1 | apply IsS49.set_2 | refine IsS49.far ?_ NB0_119.out _ | refine IsS49.far ?_ NB0_123.out _) | exact HI0.out)) hb); (try clear hb); (try clear hb2); (try clear hk); (try clear hi)) | ((with_reducible refine Sh.k 24 ?_); refine Sh.gL (some 49) Try.func24 #[.pointer (some ⟨g, 0, none⟩), .int .i64 5] (h := ?_); (with_reducible refine (spec_l1Cur_pick.calls g s0_0 x1001_1 x1002_1 5 t149 t150 t151 w0 _ ?side1 ?side2 A70.out).mono ?_); (case side1 => repeat (first | (with_reducible first | exact HI0.out | apply IsS49.alloc | apply IsS49.drewN | apply IsS49.drew | apply IsS49.set_1 | apply IsS49.set_2 | refine IsS49.far ?_ NB0_119.out _ | refine IsS49.far ?_ NB0_123.out _) | exact HI0.out)); (case side2 => repeat (first | (with_reducible first | exact HB.out | apply below_alloc | apply pw_below_drewN | apply below_drew1 | refine below_set ?_ (IsS49.ge HI0.out) | refine below_set ?_ GE119.out | refine below_set ?_ GE123.out) | exact HB.out)); rintro e w149 ⟨rfl, hi, hb, hk⟩; refine ⟨_, rfl, ?_⟩; replace HO_124001 := am_ (Kd.R_mono (Kd.R_keep (IsS49.apart (show IsS49 w0 _ g s0_0 x1001_1 x1002_1 from by repeat (first | (with_reducible first | exact HI0.out | apply IsS49.alloc | apply IsS49.drewN | apply IsS49.drew | apply IsS49.set_1 | apply IsS49.set_2 | refine IsS49.far ?_ NB0_119.out _ | refine IsS49.far ?_ NB0_123.out _) | exact HI0.out)) (Sh.rl HO_124001.out) (by decide)) hk (fun _ h => h.2)) (fun _ h => h.1)); replace BK119 := am_ (KeepBut.blk hk (g' := gb119) (o := .cells #[.int .i64 0, .slice none 0 0, .slice none 0 0] 27 (0, 0)) (Sh.pl BK119.out) NB119_0.out (by simp)); replace BK123 := am_ (KeepBut.blk hk (g' := gb123) (o := .cells #[.int .i64 (wrap64 (1 + t120)), .slice Ao147 x124001_1.length co147, .slice none 0 0] 27 (0, 0)) (Sh.pl BK123.out) NB123_0.out (by simp)); replace HK := am_ (KeepBut.trans (by repeat (first | (with_reducible first | exact HK.out | apply KeepBut.set_ | apply keep_drewN | apply keep_drew | apply keep_alloc | refine keep_far ?_ GW119.out _ | refine keep_far ?_ GW123.out _) | exact HK.out)) hk (.inl rfl)); replace HB := am_ hb; replace HI0 := am_ hi; (try clear hb); (try clear hb2); (try clear hk); (try clear hi)) | ((with_reducible refine Sh.k 27 ?_); refine Sh.gL (some 50) Try.func27 #[.pointer (some ⟨g, 0, none⟩), .int .i64 t148, .int .i64 t149] (h := ?_); (with_reducible refine (spec_l1Cur_wires.calls k1 g s0_0 t150 t151 t148 t149 t152 t155 t156 w0 _ ?side1 ?side2 A71.out).mono ?_); (case side1 => repeat (first | (with_reducible first | exact HI0.out | apply IsS49.alloc | apply IsS49.drewN | apply IsS49.drew | apply IsS49.set_1 | apply IsS49.set_2 | refine IsS49.far ?_ NB0_119.out _ | refine IsS49.far ?_ NB0_123.out _) | exact HI0.out)); (case side2 => repeat (first | (with_reducible first | exact HB.out | apply below_alloc | apply pw_below_drewN | apply below_drew1 | refine below_set ?_ (IsS49.ge HI0.out) | refine below_set ?_ GE119.out | refine below_set ?_ GE123.out) | exact HB.out)); rintro e w150 ⟨v153, rfl, ho0, hi, hb, hk⟩; refine ⟨_, rfl, ?_⟩; replace HO_124001 := am_ (Kd.R_mono (Kd.R_keep (IsS49.apart (show IsS49 w0 _ g s0_0 t150 t151 from by repeat (first | (with_reducible first | exact HI0.out | apply IsS49.alloc | apply IsS49.drewN | apply IsS49.drew | apply IsS49.set_1 | apply IsS49.set_2 | refine IsS49.far ?_ NB0_119.out _ | refine IsS49.far ?_ NB0_123.out _) | exact HI0.out)) (Sh.rl HO_124001.out) (by decide)) hk (fun _ h => h.2)) (fun _ h => h.1)); replace BK119 := am_ (KeepBut.blk hk (g' := gb119) (o := .cells #[.int .i64 0, .slice none 0 0, .slice none 0 0] 27 (0, 0)) (Sh.pl BK119.out) NB119_0.out (by simp)); replace BK123 := am_ (KeepBut.blk hk (g' := gb123) (o := .cells #[.int .i64 (wrap64 (1 + t120)), .slice Ao147 x124001_1.length co147, .slice none 0 0] 27 (0, 0)) (Sh.pl BK123.out) NB123_0.out (by simp)); have HO154 := am_ (Kd.R_lower ho0 (keep_size (w := w) (g := g) (row := none) (by repeat (first | (with_reducible first | exact HK.out | apply KeepBut.set_ | apply keep_drewN | apply keep_drew | apply keep_alloc | refine keep_far ?_ GW119.out _ | refine keep_far ?_ GW123.out _) | exact HK.out)))); replace HK := am_ (KeepBut.trans (by repeat (first | (with_reducible first | exact HK.out | apply KeepBut.set_ | apply keep_drewN | apply keep_drew | apply keep_alloc | refine keep_far ?_ GW119.out _ | refine keep_far ?_ GW123.out _) | exact HK.out)) hk (.inl rfl)); replace HB := am_ hb; replace HI0 := am_ hi; (try clear hb); (try clear hb2); (try clear hk); (try clear hi); (try clear ho0); obtain ⟨Ao151, co151, eo151⟩ := Kd.R_slice HO154.out; subst eo151; obtain ⟨hcz152_0, hcz152_1, hcz152_2, hfz152_0, hfz152_1, hfz152_2⟩ := Sh.b3 BK123.out) | ((with_reducible refine Sh.k 24 ?_); refine Sh.gL (some 53) Try.func24 #[.pointer (some ⟨g, 0, none⟩), .int .i64 30] (h := ?_); (with_reducible refine (spec_l1Cur_pick.calls g s0_0 t155 t156 30 t157 t158 t159 w0 _ ?side1 ?side2 A72.out).mono ?_); (case side1 => repeat (first | (with_reducible first | exact HI0.out | apply IsS49.alloc | apply IsS49.drewN | apply IsS49.drew | apply IsS49.set_1 | apply IsS49.set_2 | refine IsS49.far ?_ NB0_119.out _ | refine IsS49.far ?_ NB0_123.out _) | exact HI0.out)); (case side2 => repeat (first | (with_reducible first | exact HB.out | apply below_alloc | apply pw_below_drewN | apply below_drew1 | refine below_set ?_ (IsS49.ge HI0.out) | refine below_set ?_ GE119.out | refine below_set ?_ GE123.out) | exact HB.out)); rintro e w153 ⟨rfl, hi, hb, hk⟩; refine ⟨_, rfl, ?_⟩; have n0_ := am_ (Kd.R_mono (Kd.R_keep (IsS49.apart (show IsS49 w0 _ g s0_0 t155 t156 from by repeat (first | (with_reducible first | exact HI0.out | apply IsS49.alloc | apply IsS49.drewN | apply IsS49.drew | apply IsS49.set_1 | apply IsS49.set_2 | refine IsS49.far ?_ NB0_119.out _ | refine IsS49.far ?_ NB0_123.out _) | exact HI0.out)) (Sh.rl (Kd.R_mono (Kd.R_far (p := ⟨gb123, 2, none⟩) (Kd.R_types HO_124001.out BK123.out (by decide)) (fun _ hk => hk.2) (.slice Ao151 t152.length co151)) (fun _ h_ => h_.1))) (by decide)) hk (fun _ h => h.2)) (fun _ h => h.1)); have n1_ := am_ (KeepBut.blk hk (g' := gb119) (o := .cells #[.int .i64 0, .slice none 0 0, .slice none 0 0] 27 (0, 0)) (by refine Sh.pl ?_; refine blk_far ?_ NB119_123.out _; refine Sh.pl ?_; exact BK119.out) NB119_0.out (by simp)); have n2_ := am_ (KeepBut.blk hk (g' := gb123) (o := .cells #[.int .i64 (wrap64 (1 + t120)), .slice Ao147 x124001_1.length co147, .slice Ao151 t152.length co151] 27 (0, 0)) (by refine Sh.pl ?_; refine blk_put (cs := #[.int .i64 (wrap64 (1 + t120)), .slice Ao147 x124001_1.length co147, .slice none 0 0]) ?_ 2 _ rfl; refine Sh.pl ?_; exact BK123.out) NB123_0.out (by simp)); have n3_ := am_ (Kd.R_mono (Kd.R_keep (IsS49.apart (show IsS49 w0 _ g s0_0 t155 t156 from by repeat (first | (with_reducible first | exact HI0.out | apply IsS49.alloc | apply IsS49.drewN | apply IsS49.drew | apply IsS49.set_1 | apply IsS49.set_2 | refine IsS49.far ?_ NB0_119.out _ | refine IsS49.far ?_ NB0_123.out _) | exact HI0.out)) (Sh.rl (Kd.R_mono (Kd.R_far (p := ⟨gb123, 2, none⟩) (Kd.R_types HO154.out BK123.out (by decide)) (fun _ hk => hk.2) (.slice Ao151 t152.length co151)) (fun _ h_ => h_.1))) (by decide)) hk (fun _ h => h.2)) (fun _ h => h.1)); have n4_ := am_ (KeepBut.trans (by repeat (first | (with_reducible first | exact HK.out | apply KeepBut.set_ | apply keep_drewN | apply keep_drew | apply keep_alloc | refine keep_far ?_ GW119.out _ | refine keep_far ?_ GW123.out _) | exact HK.out)) hk (.inl rfl)); have n5_ := am_ hb; have n6_ := am_ hi; clear HO_124001; clear BK119; clear BK123; clear HO154; clear HK; clear HB; clear HI0; have HO_124001 := n0_; have BK119 := n1_; have BK123 := n2_; have HO154 := n3_; have HK := n4_; have HB := n5_; have HI0 := n6_; clear n0_ n1_ n2_ n3_ n4_ n5_ n6_; (try clear hb); (try clear hb2); (try clear hk); (try clear hi); obtain ⟨hcz154_0, hcz154_1, hcz154_2, hfz154_0, hfz154_1, hfz154_2⟩ := Sh.b3 BK123.out; have hnb155 := NB119_0.out; have hnc155 := NB0_119.out; obtain ⟨hcz156_0, hcz156_1, hcz156_2, hfz156_0, hfz156_1, hfz156_2⟩ := Sh.b3 BK119.out))
       refine bodyPost_ret (results_cell_row rfl _ _ gb119 27 #[.int .i64 (wrap64 (1 + t120)), .slice Ao147 x124001_1.length co147, .slice Ao151 t152.length co151] (0, 0) _ rfl (by refine Sh.pl ?_; refine blk_put (cs := #[.int .i64 (wrap64 (1 + t120)), .slice Ao147 x124001_1.length co147, .slice none 0 0]) ?_ 2 _ rfl; refine Sh.pl ?_; refine blk_put (cs := #[.int .i64 (wrap64 (1 + t120)), .slice none 0 0, .slice none 0 0]) ?_ 1 _ rfl; refine Sh.pl ?_; refine blk_put (cs := #[.int .i64 0, .slice none 0 0, .slice none 0 0]) ?_ 0 _ rfl; refine Sh.pl ?_; exact BK119.out) Try.underlying27 rfl (by kernel_rfl)) rfl ?_
       exact ⟨_, _, by first | rfl | (simp [errW_none, errW_some] <;> rfl) | (simp [*, errW_none, errW_some] <;> rfl), Sh.rl (Kd.R_mono (Kd.R_far (p := ⟨gb119, 2, none⟩) (Kd.R_far (p := ⟨gb119, 1, none⟩) (Kd.R_far (p := ⟨gb119, 0, none⟩) (Kd.R_types HO_124001.out BK119.out (by decide)) (fun _ hk => hk.2) (.int .i64 (wrap64 (1 + t120)))) (fun _ hk => hk.2) (.slice Ao147 x124001_1.length co147)) (fun _ hk => hk.2) (.slice Ao151 t152.length co151)) (fun _ hk => trivial)), Sh.rl (Kd.R_mono (Kd.R_far (p := ⟨gb119, 2, none⟩) (Kd.R_far (p := ⟨gb119, 1, none⟩) (Kd.R_far (p := ⟨gb119, 0, none⟩) (Kd.R_types HO154.out BK119.out (by decide)) (fun _ hk => hk.2) (.int .i64 (wrap64 (1 + t120)))) (fun _ hk => hk.2) (.slice Ao147 x124001_1.length co147)) (fun _ hk => hk.2) (.slice Ao151 t152.length co151)) (fun _ hk => trivial)), by repeat (first | (with_reducible first | exact HI0.out | apply IsS49.alloc | apply IsS49.drewN | apply IsS49.drew | apply IsS49.set_1 | apply IsS49.set_2 | refine IsS49.far ?_ NB0_119.out _ | refine IsS49.far ?_ NB0_123.out _) | exact HI0.out), by repeat (first | (with_reducible first | exact HB.out | apply below_alloc | apply pw_below_drewN | apply below_drew1 | refine below_set ?_ (IsS49.ge HI0.out) | refine below_set ?_ GE119.out | refine below_set ?_ GE123.out) | exact HB.out), by repeat (first | (with_reducible first | exact HK.out | apply KeepBut.set_ | apply keep_drewN | apply keep_drew | apply keep_alloc | refine keep_far ?_ GW119.out _ | refine keep_far ?_ GW123.out _) | exact HK.out)⟩
def spec_l1Cur_one.f (s0_0 : List Int) (s0_1 : Int) (s0_2 : Int) (a1 : Int) : Option (Bool × Int × Int) := (spec_l1Cur_pick.f s0_0 s0_1 s0_2 a1).bind fun bt176 => (some ((bt176.1 == 0), bt176.2.1, bt176.2.2))
theorem spec_l1Cur_one.calls (g : Nat) (s0_0 : List Int) (s0_1 : Int) (s0_2 : Int) (a1 : Int) (r1 : Bool) (r2 : Int) (r3 : Int) (w0 w : World) (hI : IsS49 w0 w g s0_0 s0_1 s0_2) (hB : Below w0.heap.size w0 w) (h : spec_l1Cur_one.f s0_0 s0_1 s0_2 a1 = some (r1, r2, r3)) :
  Calls Try.prog 25 #[.pointer (some ⟨g, 0, none⟩), .int .i64 a1] w fun e w' => e = .returned (.bool r1) ∧ IsS49 w0 w' g s0_0 r2 r3 ∧ Below w0.heap.size w0 w' ∧ KeepBut w w' g none := by
 have HI0 := am_ hI
 have HK := am_ (KeepBut.refl w g none)
 have HL := am_ hB.size
 clear hI
 have HW0 := am_ hB.size
 have HB := am_ hB
 clear hB
 have H := h
 clear h
 unfold spec_l1Cur_one.f at H
 obtain ⟨⟨t176, t177, t178⟩, A30, H⟩ := Sh.bd H
 have A3 := am_ A30
 clear A30
 simp only [Option.some.injEq, Prod.mk.injEq] at H
 obtain ⟨rfl, rfl, rfl⟩ := H
 go_enter Try.func25, Try.ntmps25
 go_wp2_with (first | ((with_reducible refine Sh.k 24 ?_); refine Sh.gL (some 7) Try.func24 #[.pointer (some ⟨g, 0, none⟩), .int .i64 a1] (h := ?_); (with_reducible refine (spec_l1Cur_pick.calls g s0_0 s0_1 s0_2 a1 t176 t177 t178 w0 _ ?side1 ?side2 A3.out).mono ?_); (case side1 => repeat (first | (with_reducible first | exact HI0.out | apply IsS49.alloc | apply IsS49.drewN | apply IsS49.drew | apply IsS49.set_1 | apply IsS49.set_2) | exact HI0.out)); (case side2 => repeat (first | (with_reducible first | exact HB.out | apply below_alloc | apply pw_below_drewN | apply below_drew1 | refine below_set ?_ (IsS49.ge HI0.out)) | exact HB.out)); rintro e w4 ⟨rfl, hi, hb, hk⟩; refine ⟨_, rfl, ?_⟩; replace HK := am_ (KeepBut.trans (by repeat (first | (with_reducible first | exact HK.out | apply KeepBut.set_ | apply keep_drewN | apply keep_drew | apply keep_alloc) | exact HK.out)) hk (.inl rfl)); replace HB := am_ hb; replace HI0 := am_ hi; (try clear hb); (try clear hb2); (try clear hk); (try clear hi)))
 go_ret
 exact ⟨Sh.eR, by repeat (first | (with_reducible first | exact HI0.out | apply IsS49.alloc | apply IsS49.drewN | apply IsS49.drew | apply IsS49.set_1 | apply IsS49.set_2) | exact HI0.out), by repeat (first | (with_reducible first | exact HB.out | apply below_alloc | apply pw_below_drewN | apply below_drew1 | refine below_set ?_ (IsS49.ge HI0.out)) | exact HB.out), by repeat (first | (with_reducible first | exact HK.out | apply KeepBut.set_ | apply keep_drewN | apply keep_drew | apply keep_alloc) | exact HK.out)⟩
def spec_DrawAddGates.j0 : Nat → Int → List Int → Int → Int → Int → List (S66) → List Int → Option (Int × (List (S66)) × List Int × List Int × List Int × Int)
 | 0, _, _, _, _, _, _, _ => none
 | k + 1, x8, x181000, x181001, x181002, x191000, x191001, x191002 => (spec_l4Wires.f x191000 x191001 x191002).bind fun t203 => ((spec_l1Cur_wires.f k x181000 x181001 x181002 t203 x8).bind fun bt204 => ((spec_l4Wires.f x191000 x191001 x191002).bind fun t209 => ((spec_l1Cur_wires.f k x181000 bt204.2.1 bt204.2.2 t209 x8).bind fun bt210 => ((spec_l4Wires.f x191000 x191001 x191002).bind fun t215 => ((spec_l1Cur_pick.f x181000 bt210.2.1 bt210.2.2 (wrap64 (t215 + 1))).bind fun bt216 => (some (x191000, x191001, x191002, bt204.1, bt210.1, bt216.1)))))))
def spec_DrawAddGates.f (k : Nat) (l0 : List Int) : Option (Int × (List (S66)) × List Int × List Int × List Int × Int) := (spec_l1Cur_circuit.f k l0 0 0).bind fun bt181 => ((spec_l1Cur_pick.f l0 bt181.2.2.2.1 bt181.2.2.2.2 6).bind fun bt191 => ((spec_l1Cur_one.f l0 bt191.2.1 bt191.2.2 12).bind fun bt194 => (if bt194.1 = true then ((spec_l1Cur_among.f l0 bt194.2.1 bt194.2.2 (([16, 17] : List Int))).bind fun bt200 => (spec_DrawAddGates.j0 k bt200.1 l0 bt200.2.1 bt200.2.2 bt181.1 bt181.2.1 bt181.2.2.1)) else (spec_DrawAddGates.j0 k bt191.1 l0 bt194.2.1 bt194.2.2 bt181.1 bt181.2.1 bt181.2.2.1))))
theorem spec_DrawAddGates.mono_l : ∀ k, (∀ y0 y1 y2 y3 y4 y5 y6, LeO (spec_DrawAddGates.j0 k y0 y1 y2 y3 y4 y5 y6) (spec_DrawAddGates.j0 (k + 1) y0 y1 y2 y3 y4 y5 y6))
 | 0 => fun _ _ _ _ _ _ _ r h => by simp [spec_DrawAddGates.j0] at h
 | k + 1 => by
  have ih0 := spec_DrawAddGates.mono_l k
  ·intro y0 y1 y2 y3 y4 y5 y6
   unfold spec_DrawAddGates.j0
   repeat' with_reducible first | apply ih0 | apply spec_l1Cur_circuit.mono | apply spec_l1Cur_wires.mono | exact LeO.refl _ | exact LeO.none _ | apply LeO.ite | refine LeO.bind ?_ fun _ => ?_
theorem spec_DrawAddGates.mono : ∀ a0 k, LeO (spec_DrawAddGates.f k a0) (spec_DrawAddGates.f (k + 1) a0) := by
 intro a0 k
 have ih0 := spec_DrawAddGates.mono_l k
 unfold spec_DrawAddGates.f
 repeat' with_reducible first | apply ih0 | apply spec_l1Cur_circuit.mono | apply spec_l1Cur_wires.mono | exact LeO.refl _ | exact LeO.none _ | apply LeO.ite | refine LeO.bind ?_ fun _ => ?_
def spec_DrawAddGates.T6 : Bool × List (List Nat × List Nat) := (true, [([], []), ([], []), ([], []), ([2], [2]), ([], []), ([1, 3, 4, 3], [1, 3, 4]), ([], []), ([], []), ([7, 5], [7]), ([], []), ([6, 8, 9, 8], [6, 8, 9]), ([], []), ([], []), ([12, 10], [12]), ([13], [13]), ([11, 14, 13], [11, 14]), ([0, 15, 0], [0]), ([5, 16, 0, 1, 2, 3, 4, 5, 16], [5]), ([10, 17, 0, 1, 2, 3, 4, 5, 6, 7, 8, 9, 10, 16, 17], [10]), ([15, 18, 0, 1, 2, 3, 4, 5, 6, 7, 8, 9, 10, 11, 12, 13, 14, 15, 16, 17, 18], [15])])
def spec_DrawAddGates.B6 : List Nat := [0, 0, 0, 4, 0, 30, 0, 0, 190, 0, 1022, 0, 0, 6142, 14334, 32766, 65535, 131071, 262143, 524287]
theorem spec_DrawAddGates.tab6 : rtab .any (opsOf Try.f6 6) = spec_DrawAddGates.T6 := by kernel_rfl
theorem spec_DrawAddGates.bits6 : waitsOk spec_DrawAddGates.T6.2 spec_DrawAddGates.B6 = true := by kernel_rfl
theorem spec_DrawAddGates.calls (k : Nat) (A0 : Option Addr) (c0 : Nat) (l0 : List Int) (r1 : Int) (r2 : List (S66)) (r3 : List Int) (r4 : List Int) (r5 : List Int) (r6 : Int) (w : World) (hr0 : Kd.C (Kd.int .u8) w A0 l0.length l0) (hc0 : l0.length ≤ c0) (h : spec_DrawAddGates.f k l0 = some (r1, r2, r3, r4, r5, r6)) :
  Calls Try.prog 6 #[.slice A0 l0.length c0] w fun e w' => ∃ v1_ v2_ v3_ v4_ : Value, e = .returned (.tuple #[.agg #[.int .i64 r1, v1_, v2_], v3_, v4_, .int .i64 r6]) ∧ Kd.R k66 66 w' w.heap.size (fun _ => True) v1_ r2 ∧ Kd.R (Kd.int .i64) 3 w' w.heap.size (fun k_ => some k_ ≠ (v3_ : Value).ownBlock ∧ some k_ ≠ (v4_ : Value).ownBlock) v2_ r3 ∧ Kd.R (Kd.int .i64) 3 w' w.heap.size (fun k_ => some k_ ≠ (v2_ : Value).ownBlock ∧ some k_ ≠ (v4_ : Value).ownBlock) v3_ r4 ∧ Kd.R (Kd.int .i64) 3 w' w.heap.size (fun k_ => some k_ ≠ (v2_ : Value).ownBlock ∧ some k_ ≠ (v3_ : Value).ownBlock) v4_ r5 ∧ Below w.heap.size w w' := by
 have hu27 := Try.underlying27
 have hu49 := Try.underlying49
 have HR0 := am_ hr0
 have HC0 := am_ hc0
 clear hr0 hc0
 have HB := am_ (Below.refl w.heap.size w)
 have H := h
 clear h
 unfold spec_DrawAddGates.f at H
 obtain ⟨⟨t181, t182, t185, t188, t189⟩, A20, H⟩ := Sh.bd H
 have A2 := am_ A20
 clear A20
 obtain ⟨⟨t191, t192, t193⟩, A30, H⟩ := Sh.bd H
 have A3 := am_ A30
 clear A30
 obtain ⟨⟨t194, t195, t196⟩, A40, H⟩ := Sh.bd H
 have A4 := am_ A40
 clear A40
 have HC5 := am_ H
 clear H
 go_enter Try.func6, Try.ntmps6
 go_upto_if 17 with (first | ((with_reducible refine Sh.d 2 ?_); refine Sh.bz w (N := 2) (cs := #[.int .i64 0, .slice none 0 0, .slice none 0 0]) (t := 27) (h := ?_); clear HB; intro gb179 w6 BK179 GE179 HB) | ((with_reducible refine Sh.d 11 ?_); refine Sh.bx (N := 11) (cs := #[.slice A0 l0.length c0, .int .i64 0, .int .u64 0]) (t := 49) (h := ?_); intro gb180 hg w7 hbox hb; have BK180 := am_ hbox; have GE180 := Sh.ag w hg; replace HB := Sh.hb hb; have NB179_180 := am_ (Sh.nl hg BK179.out); have NB180_179 := am_ (Sh.ng hg BK179.out); replace BK179 := Sh.ab BK179 hb; clear hb hbox hg; have HI180 := am_ (show IsS49 w w7 gb180 l0 0 0 from ⟨_, _, BK180.out, GE180.out, HR0.out⟩)) | ((with_reducible refine Sh.k 23 ?_); refine Sh.gL (some 13) Try.func23 #[.pointer (some ⟨gb180, 0, none⟩)] (h := ?_); (with_reducible refine (spec_l1Cur_circuit.calls k gb180 l0 0 0 t181 t182 t185 t188 t189 w _ ?side1 ?side2 A2.out).mono ?_); (case side1 => repeat (first | (with_reducible first | exact HI180.out | apply IsS49.alloc | apply IsS49.drewN | apply IsS49.drew | apply IsS49.set_1 | apply IsS49.set_2 | refine IsS49.far ?_ NB180_179.out _) | exact HI180.out)); (case side2 => repeat (first | (with_reducible first | exact HB.out | apply below_alloc | apply pw_below_drewN | apply below_drew1 | refine below_set ?_ (IsS49.ge HI180.out) | refine below_set ?_ GE179.out) | exact HB.out)); rintro e w8 ⟨v183, v186, rfl, ho0, ho1, hi, hb, hk⟩; refine ⟨_, rfl, ?_⟩; replace BK179 := am_ (KeepBut.blk hk (g' := gb179) (o := .cells #[.int .i64 0, .slice none 0 0, .slice none 0 0] 27 (0, 0)) (Sh.pl BK179.out) NB179_180.out (by simp)); have HO184 := am_ (Kd.R_lower ho0 (below_size (by repeat (first | (with_reducible first | exact HB.out | apply below_alloc | apply pw_below_drewN | apply below_drew1 | refine below_set ?_ (IsS49.ge HI180.out) | refine below_set ?_ GE179.out) | exact HB.out)))); have HO187 := am_ (Kd.R_lower ho1 (below_size (by repeat (first | (with_reducible first | exact HB.out | apply below_alloc | apply pw_below_drewN | apply below_drew1 | refine below_set ?_ (IsS49.ge HI180.out) | refine below_set ?_ GE179.out) | exact HB.out)))); replace HB := am_ hb; replace HI180 := am_ hi; (try clear hb); (try clear hb2); (try clear hk); (try clear hi); (try clear ho0); (try clear ho1)) | ((with_reducible refine Sh.d 7 ?_); refine Sh.bx (N := 7) (cs := #[.int .i64 0, .slice none 0 0, .slice none 0 0]) (t := 27) (h := ?_); intro gb190 hg w9 hbox hb; replace HO184 := am_ (Kd.R_below (Sh.rl HO184.out) hb); replace HO187 := am_ (Kd.R_below (Sh.rl HO187.out) hb); have BK190 := am_ hbox; have GW190 := am_ ((by rw [hg]; exact (below_size (by repeat (first | (with_reducible first | exact HB.out | apply below_alloc | apply pw_below_drewN | apply below_drew1 | refine below_set ?_ (IsS49.ge HI180.out) | refine below_set ?_ GE179.out) | exact HB.out))) : w.heap.size ≤ gb190)); have GE190 := am_ ((by rw [hg]; exact (below_size (by repeat (first | (with_reducible first | exact HB.out | apply below_alloc | apply pw_below_drewN | apply below_drew1 | refine below_set ?_ (IsS49.ge HI180.out) | refine below_set ?_ GE179.out) | exact HB.out))) : w.heap.size ≤ gb190)); replace HB := am_ (below_step (by repeat (first | (with_reducible first | exact HB.out | apply below_alloc | apply pw_below_drewN | apply below_drew1 | refine below_set ?_ (IsS49.ge HI180.out) | refine below_set ?_ GE179.out) | exact HB.out)) hb); have NB179_190 := am_ (Sh.nl hg BK179.out); have NB190_179 := am_ (Sh.ng hg BK179.out); replace BK179 := Sh.ab BK179 hb; have NB180_190 := am_ ((by rw [hg]; exact Nat.ne_of_lt (IsS49.lt (show IsS49 w _ gb180 l0 t188 t189 from by repeat (first | (with_reducible first | exact HI180.out | apply IsS49.alloc | apply IsS49.drewN | apply IsS49.drew | apply IsS49.set_1 | apply IsS49.set_2 | refine IsS49.far ?_ NB180_179.out _) | exact HI180.out))) : gb180 ≠ gb190)); have NB190_180 := am_ ((by rw [hg]; exact Nat.ne_of_gt (IsS49.lt (show IsS49 w _ gb180 l0 t188 t189 from by repeat (first | (with_reducible first | exact HI180.out | apply IsS49.alloc | apply IsS49.drewN | apply IsS49.drew | apply IsS49.set_1 | apply IsS49.set_2 | refine IsS49.far ?_ NB180_179.out _) | exact HI180.out))) : gb190 ≠ gb180)); replace HI180 := am_ (IsS49.below (by repeat (first | (with_reducible first | exact HI180.out | apply IsS49.alloc | apply IsS49.drewN | apply IsS49.drew | apply IsS49.set_1 | apply IsS49.set_2 | refine IsS49.far ?_ NB180_179.out _) | exact HI180.out)) hb); clear hb hbox hg; have hnb10 := NB190_179.out; have hnc10 := NB179_190.out; have hnb11 := NB190_180.out; have hnc11 := NB180_190.out; obtain ⟨hcz12_0, hcz12_1, hcz12_2, hfz12_0, hfz12_1, hfz12_2⟩ := Sh.b3 BK190.out; obtain ⟨Ao13, co13, eo13⟩ := Kd.R_slice HO184.out; subst eo13; obtain ⟨Ao14, co14, eo14⟩ := Kd.R_slice HO187.out; subst eo14) | ((with_reducible refine Sh.k 24 ?_); refine Sh.gL (some 15) Try.func24 #[.pointer (some ⟨gb180, 0, none⟩), .int .i64 6] (h := ?_); (with_reducible refine (spec_l1Cur_pick.calls gb180 l0 t188 t189 6 t191 t192 t193 w _ ?side1 ?side2 A3.out).mono ?_); (case side1 => repeat (first | (with_reducible first | exact HI180.out | apply IsS49.alloc | apply IsS49.drewN | apply IsS49.drew | apply IsS49.set_1 | apply IsS49.set_2 | refine IsS49.far ?_ NB180_179.out _ | refine IsS49.far ?_ NB180_190.out _) | exact HI180.out)); (case side2 => repeat (first | (with_reducible first | exact HB.out | apply below_alloc | apply pw_below_drewN | apply below_drew1 | refine below_set ?_ (IsS49.ge HI180.out) | refine below_set ?_ GE179.out | refine below_set ?_ GE190.out) | exact HB.out)); rintro e w15 ⟨rfl, hi, hb, hk⟩; refine ⟨_, rfl, ?_⟩; have n0_ := am_ (KeepBut.blk hk (g' := gb179) (o := .cells #[.int .i64 0, .slice none 0 0, .slice none 0 0] 27 (0, 0)) (by refine Sh.pl ?_; refine blk_far ?_ NB179_190.out _; refine Sh.pl ?_; refine blk_far ?_ NB179_190.out _; refine Sh.pl ?_; refine blk_far ?_ NB179_190.out _; refine Sh.pl ?_; exact BK179.out) NB179_180.out (by simp)); have n1_ := am_ (Kd.R_mono (Kd.R_keep (IsS49.apart (show IsS49 w _ gb180 l0 t188 t189 from by repeat (first | (with_reducible first | exact HI180.out | apply IsS49.alloc | apply IsS49.drewN | apply IsS49.drew | apply IsS49.set_1 | apply IsS49.set_2 | refine IsS49.far ?_ NB180_179.out _ | refine IsS49.far ?_ NB180_190.out _) | exact HI180.out)) (Sh.rl (Kd.R_mono (Kd.R_far (p := ⟨gb190, 2, none⟩) (Kd.R_far (p := ⟨gb190, 1, none⟩) (Kd.R_far (p := ⟨gb190, 0, none⟩) (Kd.R_types HO184.out BK190.out (by decide)) (fun _ hk => hk.2) (.int .i64 t181)) (fun _ hk => hk.2) (.slice Ao13 t182.length co13)) (fun _ hk => hk.2) (.slice Ao14 t185.length co14)) (fun _ h_ => h_.1))) (by decide)) hk (fun _ h => h.2)) (fun _ h => h.1)); have n2_ := am_ (Kd.R_mono (Kd.R_keep (IsS49.apart (show IsS49 w _ gb180 l0 t188 t189 from by repeat (first | (with_reducible first | exact HI180.out | apply IsS49.alloc | apply IsS49.drewN | apply IsS49.drew | apply IsS49.set_1 | apply IsS49.set_2 | refine IsS49.far ?_ NB180_179.out _ | refine IsS49.far ?_ NB180_190.out _) | exact HI180.out)) (Sh.rl (Kd.R_mono (Kd.R_far (p := ⟨gb190, 2, none⟩) (Kd.R_far (p := ⟨gb190, 1, none⟩) (Kd.R_far (p := ⟨gb190, 0, none⟩) (Kd.R_types HO187.out BK190.out (by decide)) (fun _ hk => hk.2) (.int .i64 t181)) (fun _ hk => hk.2) (.slice Ao13 t182.length co13)) (fun _ hk => hk.2) (.slice Ao14 t185.length co14)) (fun _ h_ => h_.1))) (by decide)) hk (fun _ h => h.2)) (fun _ h => h.1)); have n3_ := am_ (KeepBut.blk hk (g' := gb190) (o := .cells #[.int .i64 t181, .slice Ao13 t182.length co13, .slice Ao14 t185.length co14] 27 (0, 0)) (by refine Sh.pl ?_; refine blk_put (cs := #[.int .i64 t181, .slice Ao13 t182.length co13, .slice none 0 0]) ?_ 2 _ rfl; refine Sh.pl ?_; refine blk_put (cs := #[.int .i64 t181, .slice none 0 0, .slice none 0 0]) ?_ 1 _ rfl; refine Sh.pl ?_; refine blk_put (cs := #[.int .i64 0, .slice none 0 0, .slice none 0 0]) ?_ 0 _ rfl; refine Sh.pl ?_; exact BK190.out) NB190_180.out (by simp)); have n4_ := am_ hb; have n5_ := am_ hi; clear BK179; clear HO184; clear HO187; clear BK190; clear HB; clear HI180; have BK179 := n0_; have HO184 := n1_; have HO187 := n2_; have BK190 := n3_; have HB := n4_; have HI180 := n5_; clear n0_ n1_ n2_ n3_ n4_ n5_; (try clear hb); (try clear hb2); (try clear hk); (try clear hi)) | ((with_reducible refine Sh.k 25 ?_); refine Sh.gL (some 17) Try.func25 #[.pointer (some ⟨gb180, 0, none⟩), .int .i64 12] (h := ?_); (with_reducible refine (spec_l1Cur_one.calls gb180 l0 t192 t193 12 t194 t195 t196 w _ ?side1 ?side2 A4.out).mono ?_); (case side1 => repeat (first | (with_reducible first | exact HI180.out | apply IsS49.alloc | apply IsS49.drewN | apply IsS49.drew | apply IsS49.set_1 | apply IsS49.set_2 | refine IsS49.far ?_ NB180_179.out _ | refine IsS49.far ?_ NB180_190.out _) | exact HI180.out)); (case side2 => repeat (first | (with_reducible first | exact HB.out | apply below_alloc | apply pw_below_drewN | apply below_drew1 | refine below_set ?_ (IsS49.ge HI180.out) | refine below_set ?_ GE179.out | refine below_set ?_ GE190.out) | exact HB.out)); rintro e w16 ⟨rfl, hi, hb, hk⟩; refine ⟨_, rfl, ?_⟩; replace BK179 := am_ (KeepBut.blk hk (g' := gb179) (o := .cells #[.int .i64 0, .slice none 0 0, .slice none 0 0] 27 (0, 0)) (Sh.pl BK179.out) NB179_180.out (by simp)); replace HO184 := am_ (Kd.R_mono (Kd.R_keep (IsS49.apart (show IsS49 w _ gb180 l0 t192 t193 from by repeat (first | (with_reducible first | exact HI180.out | apply IsS49.alloc | apply IsS49.drewN | apply IsS49.drew | apply IsS49.set_1 | apply IsS49.set_2 | refine IsS49.far ?_ NB180_179.out _ | refine IsS49.far ?_ NB180_190.out _) | exact HI180.out)) (Sh.rl HO184.out) (by decide)) hk (fun _ h => h.2)) (fun _ h => h.1)); replace HO187 := am_ (Kd.R_mono (Kd.R_keep (IsS49.apart (show IsS49 w _ gb180 l0 t192 t193 from by repeat (first | (with_reducible first | exact HI180.out | apply IsS49.alloc | apply IsS49.drewN | apply IsS49.drew | apply IsS49.set_1 | apply IsS49.set_2 | refine IsS49.far ?_ NB180_179.out _ | refine IsS49.far ?_ NB180_190.out _) | exact HI180.out)) (Sh.rl HO187.out) (by decide)) hk (fun _ h => h.2)) (fun _ h => h.1)); replace BK190 := am_ (KeepBut.blk hk (g' := gb190) (o := .cells #[.int .i64 t181, .slice Ao13 t182.length co13, .slice Ao14 t185.length co14] 27 (0, 0)) (Sh.pl BK190.out) NB190_180.out (by simp)); replace HB := am_ hb; replace HI180 := am_ hi; (try clear hb); (try clear hb2); (try clear hk); (try clear hi)))
 (try simp only [Act.put, List.setIfInBounds_toArray, List.set_cons_zero, List.set_cons_succ])
 go_cut [8] (fun v8 wc => ∃ (kq : Nat) (x8_4 : Int) (x181001_4 : Int) (x181002_4 : Int), v8 = .int .i64 x8_4 ∧ Aside0 (spec_DrawAddGates.j0 kq x8_4 l0 x181001_4 x181002_4 t181 t182 t185 = some (r1, r2, r3, r4, r5, r6)) ∧ Aside0 (kq ≤ k) ∧ Aside0 (Kd.R k66 66 wc w.heap.size (fun _ => True) (.slice Ao13 t182.length co13) t182) ∧ Aside0 (Kd.R (Kd.int .i64) 3 wc w.heap.size (fun _ => True) (.slice Ao14 t185.length co14) t185) ∧ Aside0 (wc.heap[gb179]? = some (.cells #[.int .i64 0, (.slice none 0 0), (.slice none 0 0)] 27 (0, 0))) ∧ Aside0 (wc.heap[gb190]? = some (.cells #[.int .i64 t181, (.slice Ao13 t182.length co13), (.slice Ao14 t185.length co14)] 27 (0, 0))) ∧ Aside0 (IsS49 w wc gb180 l0 x181001_4 x181002_4) ∧ Aside0 (Below w.heap.size w wc))
 case first =>
  have H := HC5.out
  clear HC5
  by_cases c17 : t194 = true
  ·subst c17
   rw [if_pos rfl] at H
   obtain ⟨y197, hy197⟩ : ∃ y_ : List Int, y_ = (([16, 17] : List Int)) := ⟨_, rfl⟩
   replace H : ((spec_l1Cur_among.f l0 t195 t196 y197).bind fun bt200 => (spec_DrawAddGates.j0 k bt200.1 l0 bt200.2.1 bt200.2.2 t181 t182 t185)) = some (r1, r2, r3, r4, r5, r6) := by first | (rw [hy197]; with_reducible exact H) | (have H2_ := (Option.bind_some _ _).symm.trans H; rw [hy197]; with_reducible exact H2_) | (have H2_ := (Option.bind_some _ _).symm.trans H; with_reducible exact H2_) | with_reducible exact H | (rw [hy197]; exact H) | exact H
   have Ny197 := am_ hy197
   clear hy197
   obtain ⟨⟨t200, t201, t202⟩, A180, H⟩ := Sh.bd H
   have A18 := am_ A180
   clear A180
   have H' := am_ H
   clear H
   go_wp2_with (first | ((with_reducible refine Sh.d 19 ?_); refine Kd.R_lit (Kd.int .i64) _ 3 ?hg (N := 19) ?hd (xs := ([16, 17] : List Int)) (inner := [.int .i64 16, .int .i64 17]) (ok := fun _ => True) (okp := fun _ => True) ?hr ?hp (fun _ hk => hk) trivial (Below.refl _ _) (Nat.le_refl _) (by simp) ?_; (case hd => rfl); (case hg => rfl); (case hr => first | (go_simp; done) | (go_simp; rfl)); (case hp => exact (Reps.one (show Kd.M (Kd.int .i64) _ _ _ 16 [.int .i64 16] from rfl) (Reps.one (show Kd.M (Kd.int .i64) _ _ _ 17 [.int .i64 17] from rfl) (Reps.none _ _)))); intro v198 w19 ho20 hb hg_ hnew_; clear hg_ hnew_; (first | rw [← Ny197.out] at ho20 | (simp only [Int.reduceToNat] at ho20; rw [← Ny197.out] at ho20)); replace HO184 := am_ (Kd.R_below (Sh.rl HO184.out) hb); have HO199 := am_ (Kd.R_lower (Kd.R_new' ho20 (Kd.R_lt (Sh.rl HO187.out))) (below_size (by repeat (first | (with_reducible first | exact HB.out | apply below_alloc | apply pw_below_drewN | apply below_drew1 | refine below_set ?_ (IsS49.ge HI180.out) | refine below_set ?_ GE179.out | refine below_set ?_ GE190.out) | exact HB.out)))); replace HO187 := am_ (Kd.R_elder' (Sh.rl HO187.out) (Kd.R_base ho20) hb); replace BK179 := Sh.ab BK179 hb; replace BK190 := Sh.ab BK190 hb; replace HB := am_ (below_step (by repeat (first | (with_reducible first | exact HB.out | apply below_alloc | apply pw_below_drewN | apply below_drew1 | refine below_set ?_ (IsS49.ge HI180.out) | refine below_set ?_ GE179.out | refine below_set ?_ GE190.out) | exact HB.out)) hb); replace HI180 := am_ (IsS49.below (by repeat (first | (with_reducible first | exact HI180.out | apply IsS49.alloc | apply IsS49.drewN | apply IsS49.drew | apply IsS49.set_1 | apply IsS49.set_2 | refine IsS49.far ?_ NB180_179.out _ | refine IsS49.far ?_ NB180_190.out _) | exact HI180.out)) hb); clear hb ho20; obtain ⟨Ao21, co21, eo21⟩ := Kd.R_slice HO199.out; subst eo21) | ((with_reducible refine Sh.k 26 ?_); refine Sh.gL (some 20) Try.func26 #[.pointer (some ⟨gb180, 0, none⟩), .slice Ao21 y197.length co21] (h := ?_); (with_reducible refine (spec_l1Cur_among.calls gb180 l0 t195 t196 _ _ y197 t200 t201 t202 w _ ?side1 ?side2 ?side3 ?side4 ?side5 A18.out).mono ?_); (case side1 => repeat (first | (with_reducible first | exact HI180.out | apply IsS49.alloc | apply IsS49.drewN | apply IsS49.drew | apply IsS49.set_1 | apply IsS49.set_2 | refine IsS49.far ?_ NB180_179.out _ | refine IsS49.far ?_ NB180_190.out _) | exact HI180.out)); (case side2 => repeat (first | (with_reducible first | exact HB.out | apply below_alloc | apply pw_below_drewN | apply below_drew1 | refine below_set ?_ (IsS49.ge HI180.out) | refine below_set ?_ GE179.out | refine below_set ?_ GE190.out) | exact HB.out)); (case side3 => repeat (first | exact (Kd.R_reads' HO199.out).2.2 | (with_reducible first | refine Kd.C_alloc ?_ _ | refine Kd.C_drewN ?_ _ | refine Kd.C_drew ?_))); (case side4 => exact (Kd.R_reads' HO199.out).2.1); (case side5 => exact far_slice (IsS49.own_ne HI180.out HO199.out (by decide))); rintro e w22 ⟨rfl, hi, hb, hk⟩; refine ⟨_, rfl, ?_⟩; replace BK179 := am_ (KeepBut.blk hk (g' := gb179) (o := .cells #[.int .i64 0, .slice none 0 0, .slice none 0 0] 27 (0, 0)) (Sh.pl BK179.out) NB179_180.out (by simp)); replace HO184 := am_ (Kd.R_mono (Kd.R_keep (IsS49.apart (show IsS49 w _ gb180 l0 t195 t196 from by repeat (first | (with_reducible first | exact HI180.out | apply IsS49.alloc | apply IsS49.drewN | apply IsS49.drew | apply IsS49.set_1 | apply IsS49.set_2 | refine IsS49.far ?_ NB180_179.out _ | refine IsS49.far ?_ NB180_190.out _) | exact HI180.out)) (Sh.rl HO184.out) (by decide)) hk (fun _ h => h.2)) (fun _ h => h.1)); replace HO187 := am_ (Kd.R_mono (Kd.R_keep (IsS49.apart (show IsS49 w _ gb180 l0 t195 t196 from by repeat (first | (with_reducible first | exact HI180.out | apply IsS49.alloc | apply IsS49.drewN | apply IsS49.drew | apply IsS49.set_1 | apply IsS49.set_2 | refine IsS49.far ?_ NB180_179.out _ | refine IsS49.far ?_ NB180_190.out _) | exact HI180.out)) (Sh.rl HO187.out) (by decide)) hk (fun _ h => h.2)) (fun _ h => h.1)); replace BK190 := am_ (KeepBut.blk hk (g' := gb190) (o := .cells #[.int .i64 t181, .slice Ao13 t182.length co13, .slice Ao14 t185.length co14] 27 (0, 0)) (Sh.pl BK190.out) NB190_180.out (by simp)); replace HO199 := am_ (Kd.R_mono (Kd.R_keep (IsS49.apart (show IsS49 w _ gb180 l0 t195 t196 from by repeat (first | (with_reducible first | exact HI180.out | apply IsS49.alloc | apply IsS49.drewN | apply IsS49.drew | apply IsS49.set_1 | apply IsS49.set_2 | refine IsS49.far ?_ NB180_179.out _ | refine IsS49.far ?_ NB180_190.out _) | exact HI180.out)) (Sh.rl HO199.out) (by decide)) hk (fun _ h => h.2)) (fun _ h => h.1)); replace HB := am_ hb; replace HI180 := am_ hi; (try clear hb); (try clear hb2); (try clear hk); (try clear hi)))
   go_meet
   case rel => exact ⟨_, (t200), (t201), (t202), (Sh.es), H', ⟨Sh.om⟩, ⟨Sh.rl HO184.out⟩, ⟨Sh.rl (Kd.R_mono HO187.out (fun _ hk => trivial))⟩, ⟨by refine Sh.pl ?_; exact BK179.out⟩, ⟨by refine Sh.pl ?_; exact BK190.out⟩, ⟨by repeat (first | (with_reducible first | exact HI180.out | apply IsS49.alloc | apply IsS49.drewN | apply IsS49.drew | apply IsS49.set_1 | apply IsS49.set_2 | refine IsS49.far ?_ NB180_179.out _ | refine IsS49.far ?_ NB180_190.out _) | exact HI180.out)⟩, ⟨by repeat (first | (with_reducible first | exact HB.out | apply below_alloc | apply pw_below_drewN | apply below_drew1 | refine below_set ?_ (IsS49.ge HI180.out) | refine below_set ?_ GE179.out | refine below_set ?_ GE190.out) | exact HB.out)⟩⟩
  ·replace c17 := Bool.eq_false_iff.mpr c17
   subst c17
   rw [Sh.nf] at H
   have H' := am_ H
   clear H
   go_wp2
   go_meet
   case rel => exact ⟨_, (t191), (t195), (t196), (Sh.es), H', ⟨Sh.om⟩, ⟨Sh.rl HO184.out⟩, ⟨Sh.rl HO187.out⟩, ⟨by refine Sh.pl ?_; exact BK179.out⟩, ⟨by refine Sh.pl ?_; exact BK190.out⟩, ⟨by repeat (first | (with_reducible first | exact HI180.out | apply IsS49.alloc | apply IsS49.drewN | apply IsS49.drew | apply IsS49.set_1 | apply IsS49.set_2 | refine IsS49.far ?_ NB180_179.out _ | refine IsS49.far ?_ NB180_190.out _) | exact HI180.out)⟩, ⟨by repeat (first | (with_reducible first | exact HB.out | apply below_alloc | apply pw_below_drewN | apply below_drew1 | refine below_set ?_ (IsS49.ge HI180.out) | refine below_set ?_ GE179.out | refine below_set ?_ GE190.out) | exact HB.out)⟩⟩
 case rest =>
  clear HC5
  try clear hcz12_0
  try clear hcz12_1
  try clear hcz12_2
  try clear hfz12_0
  try clear hfz12_1
  try clear hfz12_2
  obtain ⟨kq, x8_4, x181001_4, x181002_4, rfl, HA, HJ4, HO_191001, HO_191002, BK179, BK190, HI180, HB⟩ := hcut
  cases kq with
  | zero => exact absurd HA.out (by simp [spec_DrawAddGates.j0])
  | succ kj4 =>
   have H := HA.out
   clear HA
   simp only [spec_DrawAddGates.j0] at H
   obtain ⟨t203, A23, H⟩ := Sh.ba H
   obtain ⟨⟨t204, t207, t208⟩, A240, H⟩ := Sh.bd H
   have A24 := am_ A240
   clear A240
   obtain ⟨t209, A25, H⟩ := Sh.ba H
   obtain ⟨⟨t210, t213, t214⟩, A260, H⟩ := Sh.bd H
   have A26 := am_ A260
   clear A260
   obtain ⟨t215, A27, H⟩ := Sh.ba H
   obtain ⟨⟨t216, t217, t218⟩, A280, H⟩ := Sh.bd H
   have A28 := am_ A280
   clear A280
   simp only [Option.some.injEq, Prod.mk.injEq] at H
   obtain ⟨rfl, rfl, rfl, rfl, rfl, rfl⟩ := H
   try go_wp2
   replace HO_191001 := am_ (Kd.R_drew HO_191001.out)
   replace HO_191002 := am_ (Kd.R_drew HO_191002.out)
   replace BK179 := am_ (blk_drew BK179.out)
   replace BK190 := am_ (blk_drew BK190.out)
   replace HI180 := am_ (IsS49.drew HI180.out)
   replace HB := am_ (below_drew1 HB.out)
   refine start_ (n := 20) (S := fun w' => w'.cell? ⟨gb190, 0, none⟩ = some (.int .i64 t181) ∧ w'.cell? ⟨gb190, 1, none⟩ = some (.slice Ao13 t182.length co13) ∧ w'.cell? ⟨gb190, 2, none⟩ = some (.slice Ao14 t185.length co14)) (ds := []) (Sh.nm 20 0) (by kernel_rfl) rfl rfl Sh.cs (fun hHeld => ?_); refine with_tabW spec_DrawAddGates.tab6 spec_DrawAddGates.bits6 (fun HT_ HW_ => ?_)
   generalize wc.drew = w29 at HO_191001 HO_191002 BK179 BK190 HI180 HB hHeld ⊢
   refine Sh.qA 1 ?_; refine Sh.qA 4 ?_; refine Sh.qA 6 ?_; refine Sh.qA 9 ?_; refine Sh.qA 11 ?_; refine Sh.qT 0 hHeld ?_; refine Sh.qT 2 hHeld ?_; refine Sh.qT 7 hHeld ?_; refine Sh.qT 12 hHeld ?_
   refine Sh.oC 3 Try.func28 #[.agg #[.int .i64 t181, .slice Ao13 t182.length co13, .slice Ao14 t185.length co14]] fun K hK => ?_
   with_reducible refine (spec_l4Wires.calls t181 _ _ t182 _ _ t185 t203 _ (Sh.cR (Kd.R_reads' HO_191001.out).2.2) (Kd.R_reads' HO_191001.out).2.1 (Sh.cR (Kd.R_reads' HO_191002.out).2.2) (Kd.R_reads' HO_191002.out).2.1 A23.out).mono ?_
   rintro e w30 ⟨rfl, hb⟩
   refine ⟨_, rfl, ?_⟩
   replace HO_191001 := am_ (Kd.R_below (Sh.rl HO_191001.out) hb)
   replace HO_191002 := am_ (Kd.R_below (Sh.rl HO_191002.out) hb)
   replace BK179 := Sh.ab BK179 hb
   replace BK190 := Sh.ab BK190 hb
   replace HB := am_ (below_step (by repeat (first | (with_reducible first | exact HB.out | apply below_alloc | apply pw_below_drewN | apply below_drew1 | refine below_set ?_ (IsS49.ge HI180.out) | refine below_set ?_ GE179.out | refine below_set ?_ GE190.out) | exact HB.out)) hb)
   replace HI180 := am_ (IsS49.below (by repeat (first | (with_reducible first | exact HI180.out | apply IsS49.alloc | apply IsS49.drewN | apply IsS49.drew | apply IsS49.set_1 | apply IsS49.set_2 | refine IsS49.far ?_ NB180_179.out _ | refine IsS49.far ?_ NB180_190.out _) | exact HI180.out)) hb)
   (try clear hb)
   (try clear hb2)
   (try clear hk)
   (try clear hi)
   refine Sh.kN hK Sh.cs fun hHeld => ?_
   clear hK K
   refine Sh.oC 5 Try.func27 #[.pointer (some ⟨gb180, 0, none⟩), .int .i64 t203, .int .i64 x8_4] fun K hK => ?_
   with_reducible refine (spec_l1Cur_wires.calls kj4 gb180 l0 x181001_4 x181002_4 t203 x8_4 t204 t207 t208 w _ ?side1 ?side2 A24.out).mono ?_
   (case side1 => repeat (first | (with_reducible first | exact HI180.out | apply IsS49.alloc | apply IsS49.drewN | apply IsS49.drew | apply IsS49.set_1 | apply IsS49.set_2 | refine IsS49.far ?_ NB180_179.out _ | refine IsS49.far ?_ NB180_190.out _) | exact HI180.out))
   (case side2 => repeat (first | (with_reducible first | exact HB.out | apply below_alloc | apply pw_below_drewN | apply below_drew1 | refine below_set ?_ (IsS49.ge HI180.out) | refine below_set ?_ GE179.out | refine below_set ?_ GE190.out) | exact HB.out))
   rintro e w31 ⟨v205, rfl, ho0, hi, hb, hk⟩
   refine ⟨_, rfl, ?_⟩
   replace HO_191001 := am_ (Kd.R_mono (Kd.R_keep (IsS49.apart (show IsS49 w _ gb180 l0 x181001_4 x181002_4 from by repeat (first | (with_reducible first | exact HI180.out | apply IsS49.alloc | apply IsS49.drewN | apply IsS49.drew | apply IsS49.set_1 | apply IsS49.set_2 | refine IsS49.far ?_ NB180_179.out _ | refine IsS49.far ?_ NB180_190.out _) | exact HI180.out)) (Sh.rl HO_191001.out) (by decide)) hk (fun _ h => h.2)) (fun _ h => h.1))
   replace BK179 := am_ (KeepBut.blk hk (g' := gb179) (o := .cells #[.int .i64 0, .slice none 0 0, .slice none 0 0] 27 (0, 0)) (Sh.pl BK179.out) NB179_180.out (by simp))
   replace BK190 := am_ (KeepBut.blk hk (g' := gb190) (o := .cells #[.int .i64 t181, .slice Ao13 t182.length co13, .slice Ao14 t185.length co14] 27 (0, 0)) (Sh.pl BK190.out) NB190_180.out (by simp))
   have HO206 := am_ (Kd.R_lower (Kd.R_new' ho0 (Kd.R_lt (Sh.rl HO_191002.out))) (below_size (by repeat (first | (with_reducible first | exact HB.out | apply below_alloc | apply pw_below_drewN | apply below_drew1 | refine below_set ?_ (IsS49.ge HI180.out) | refine below_set ?_ GE179.out | refine below_set ?_ GE190.out) | exact HB.out))))
   replace HO_191002 := am_ (Kd.R_mono (Kd.R_told (Kd.R_oldK (IsS49.apart (show IsS49 w _ gb180 l0 x181001_4 x181002_4 from by repeat (first | (with_reducible first | exact HI180.out | apply IsS49.alloc | apply IsS49.drewN | apply IsS49.drew | apply IsS49.set_1 | apply IsS49.set_2 | refine IsS49.far ?_ NB180_179.out _ | refine IsS49.far ?_ NB180_190.out _) | exact HI180.out)) (Sh.rl HO_191002.out) (by decide)) hk) (Kd.R_base ho0)) (fun _ h_ => h_.1))
   replace HB := am_ hb
   replace HI180 := am_ hi
   (try clear hb)
   (try clear hb2)
   (try clear hk)
   (try clear hi)
   (try clear ho0)
   refine Sh.kN hK Sh.cs fun hHeld => ?_
   clear hK K
   refine Sh.oC 8 Try.func28 #[.agg #[.int .i64 t181, .slice Ao13 t182.length co13, .slice Ao14 t185.length co14]] fun K hK => ?_
   with_reducible refine (spec_l4Wires.calls t181 _ _ t182 _ _ t185 t209 _ (Sh.cR (Kd.R_reads' HO_191001.out).2.2) (Kd.R_reads' HO_191001.out).2.1 (Sh.cR (Kd.R_reads' HO_191002.out).2.2) (Kd.R_reads' HO_191002.out).2.1 A25.out).mono ?_
   rintro e w32 ⟨rfl, hb⟩
   refine ⟨_, rfl, ?_⟩
   replace HO_191001 := am_ (Kd.R_below (Sh.rl HO_191001.out) hb)
   replace HO_191002 := am_ (Kd.R_below (Sh.rl HO_191002.out) hb)
   replace HO206 := am_ (Kd.R_below (Sh.rl HO206.out) hb)
   replace BK179 := Sh.ab BK179 hb
   replace BK190 := Sh.ab BK190 hb
   replace HB := am_ (below_step (by repeat (first | (with_reducible first | exact HB.out | apply below_alloc | apply pw_below_drewN | apply below_drew1 | refine below_set ?_ (IsS49.ge HI180.out) | refine below_set ?_ GE179.out | refine below_set ?_ GE190.out) | exact HB.out)) hb)
   replace HI180 := am_ (IsS49.below (by repeat (first | (with_reducible first | exact HI180.out | apply IsS49.alloc | apply IsS49.drewN | apply IsS49.drew | apply IsS49.set_1 | apply IsS49.set_2 | refine IsS49.far ?_ NB180_179.out _ | refine IsS49.far ?_ NB180_190.out _) | exact HI180.out)) hb)
   (try clear hb)
   (try clear hb2)
   (try clear hk)
   (try clear hi)
   refine Sh.kN hK Sh.cs fun hHeld => ?_
   clear hK K
   refine Sh.oC 10 Try.func27 #[.pointer (some ⟨gb180, 0, none⟩), .int .i64 t209, .int .i64 x8_4] fun K hK => ?_
   with_reducible refine (spec_l1Cur_wires.calls kj4 gb180 l0 t207 t208 t209 x8_4 t210 t213 t214 w _ ?side1 ?side2 A26.out).mono ?_
   (case side1 => repeat (first | (with_reducible first | exact HI180.out | apply IsS49.alloc | apply IsS49.drewN | apply IsS49.drew | apply IsS49.set_1 | apply IsS49.set_2 | refine IsS49.far ?_ NB180_179.out _ | refine IsS49.far ?_ NB180_190.out _) | exact HI180.out))
   (case side2 => repeat (first | (with_reducible first | exact HB.out | apply below_alloc | apply pw_below_drewN | apply below_drew1 | refine below_set ?_ (IsS49.ge HI180.out) | refine below_set ?_ GE179.out | refine below_set ?_ GE190.out) | exact HB.out))
   rintro e w33 ⟨v211, rfl, ho0, hi, hb, hk⟩
   refine ⟨_, rfl, ?_⟩
   replace HO_191001 := am_ (Kd.R_mono (Kd.R_keep (IsS49.apart (show IsS49 w _ gb180 l0 t207 t208 from by repeat (first | (with_reducible first | exact HI180.out | apply IsS49.alloc | apply IsS49.drewN | apply IsS49.drew | apply IsS49.set_1 | apply IsS49.set_2 | refine IsS49.far ?_ NB180_179.out _ | refine IsS49.far ?_ NB180_190.out _) | exact HI180.out)) (Sh.rl HO_191001.out) (by decide)) hk (fun _ h => h.2)) (fun _ h => h.1))
   replace BK179 := am_ (KeepBut.blk hk (g' := gb179) (o := .cells #[.int .i64 0, .slice none 0 0, .slice none 0 0] 27 (0, 0)) (Sh.pl BK179.out) NB179_180.out (by simp))
   replace BK190 := am_ (KeepBut.blk hk (g' := gb190) (o := .cells #[.int .i64 t181, .slice Ao13 t182.length co13, .slice Ao14 t185.length co14] 27 (0, 0)) (Sh.pl BK190.out) NB190_180.out (by simp))
   have HO212 := am_ (Kd.R_lower (Kd.R_new' (Kd.R_new' ho0 (Kd.R_lt (Sh.rl HO_191002.out))) (Kd.R_lt (Sh.rl HO206.out))) (below_size (by repeat (first | (with_reducible first | exact HB.out | apply below_alloc | apply pw_below_drewN | apply below_drew1 | refine below_set ?_ (IsS49.ge HI180.out) | refine below_set ?_ GE179.out | refine below_set ?_ GE190.out) | exact HB.out))))
   replace HO_191002 := am_ (Kd.R_mono (Kd.R_told (Kd.R_oldK (IsS49.apart (show IsS49 w _ gb180 l0 t207 t208 from by repeat (first | (with_reducible first | exact HI180.out | apply IsS49.alloc | apply IsS49.drewN | apply IsS49.drew | apply IsS49.set_1 | apply IsS49.set_2 | refine IsS49.far ?_ NB180_179.out _ | refine IsS49.far ?_ NB180_190.out _) | exact HI180.out)) (Sh.rl HO_191002.out) (by decide)) hk) (Kd.R_base ho0)) (fun _ h_ => h_.1))
   replace HO206 := am_ (Kd.R_mono (Kd.R_told (Kd.R_oldK (IsS49.apart (show IsS49 w _ gb180 l0 t207 t208 from by repeat (first | (with_reducible first | exact HI180.out | apply IsS49.alloc | apply IsS49.drewN | apply IsS49.drew | apply IsS49.set_1 | apply IsS49.set_2 | refine IsS49.far ?_ NB180_179.out _ | refine IsS49.far ?_ NB180_190.out _) | exact HI180.out)) (Sh.rl HO206.out) (by decide)) hk) (Kd.R_base ho0)) (fun _ h_ => h_.1))
   replace HB := am_ hb
   replace HI180 := am_ hi
   (try clear hb)
   (try clear hb2)
   (try clear hk)
   (try clear hi)
   (try clear ho0)
   refine Sh.kN hK Sh.cs fun hHeld => ?_
   clear hK K
   refine Sh.oC 13 Try.func28 #[.agg #[.int .i64 t181, .slice Ao13 t182.length co13, .slice Ao14 t185.length co14]] fun K hK => ?_
   with_reducible refine (spec_l4Wires.calls t181 _ _ t182 _ _ t185 t215 _ (Sh.cR (Kd.R_reads' HO_191001.out).2.2) (Kd.R_reads' HO_191001.out).2.1 (Sh.cR (Kd.R_reads' HO_191002.out).2.2) (Kd.R_reads' HO_191002.out).2.1 A27.out).mono ?_
   rintro e w34 ⟨rfl, hb⟩
   refine ⟨_, rfl, ?_⟩
   replace HO_191001 := am_ (Kd.R_below (Sh.rl HO_191001.out) hb)
   replace HO_191002 := am_ (Kd.R_below (Sh.rl HO_191002.out) hb)
   replace HO206 := am_ (Kd.R_below (Sh.rl HO206.out) hb)
   replace HO212 := am_ (Kd.R_below (Sh.rl HO212.out) hb)
   replace BK179 := Sh.ab BK179 hb
   replace BK190 := Sh.ab BK190 hb
   replace HB := am_ (below_step (by repeat (first | (with_reducible first | exact HB.out | apply below_alloc | apply pw_below_drewN | apply below_drew1 | refine below_set ?_ (IsS49.ge HI180.out) | refine below_set ?_ GE179.out | refine below_set ?_ GE190.out) | exact HB.out)) hb)
   replace HI180 := am_ (IsS49.below (by repeat (first | (with_reducible first | exact HI180.out | apply IsS49.alloc | apply IsS49.drewN | apply IsS49.drew | apply IsS49.set_1 | apply IsS49.set_2 | refine IsS49.far ?_ NB180_179.out _ | refine IsS49.far ?_ NB180_190.out _) | exact HI180.out)) hb)
   (try clear hb)
   (try clear hb2)
   (try clear hk)
   (try clear hi)
   refine Sh.kN hK Sh.cs fun hHeld => ?_
   clear hK K
   refine Sh.qA 14 ?_
   refine Sh.oC 15 Try.func24 #[.pointer (some ⟨gb180, 0, none⟩), .int .i64 (wrap64 (t215 + 1))] fun K hK => ?_
   with_reducible refine (spec_l1Cur_pick.calls gb180 l0 t213 t214 (wrap64 (t215 + 1)) t216 t217 t218 w _ ?side1 ?side2 A28.out).mono ?_
   (case side1 => repeat (first | (with_reducible first | exact HI180.out | apply IsS49.alloc | apply IsS49.drewN | apply IsS49.drew | apply IsS49.set_1 | apply IsS49.set_2 | refine IsS49.far ?_ NB180_179.out _ | refine IsS49.far ?_ NB180_190.out _) | exact HI180.out))
   (case side2 => repeat (first | (with_reducible first | exact HB.out | apply below_alloc | apply pw_below_drewN | apply below_drew1 | refine below_set ?_ (IsS49.ge HI180.out) | refine below_set ?_ GE179.out | refine below_set ?_ GE190.out) | exact HB.out))
   rintro e w35 ⟨rfl, hi, hb, hk⟩
   refine ⟨_, rfl, ?_⟩
   replace HO_191001 := am_ (Kd.R_mono (Kd.R_keep (IsS49.apart (show IsS49 w _ gb180 l0 t213 t214 from by repeat (first | (with_reducible first | exact HI180.out | apply IsS49.alloc | apply IsS49.drewN | apply IsS49.drew | apply IsS49.set_1 | apply IsS49.set_2 | refine IsS49.far ?_ NB180_179.out _ | refine IsS49.far ?_ NB180_190.out _) | exact HI180.out)) (Sh.rl HO_191001.out) (by decide)) hk (fun _ h => h.2)) (fun _ h => h.1))
   replace HO_191002 := am_ (Kd.R_mono (Kd.R_keep (IsS49.apart (show IsS49 w _ gb180 l0 t213 t214 from by repeat (first | (with_reducible first | exact HI180.out | apply IsS49.alloc | apply IsS49.drewN | apply IsS49.drew | apply IsS49.set_1 | apply IsS49.set_2 | refine IsS49.far ?_ NB180_179.out _ | refine IsS49.far ?_ NB180_190.out _) | exact HI180.out)) (Sh.rl HO_191002.out) (by decide)) hk (fun _ h => h.2)) (fun _ h => h.1))
   replace BK179 := am_ (KeepBut.blk hk (g' := gb179) (o := .cells #[.int .i64 0, .slice none 0 0, .slice none 0 0] 27 (0, 0)) (Sh.pl BK179.out) NB179_180.out (by simp))
   replace BK190 := am_ (KeepBut.blk hk (g' := gb190) (o := .cells #[.int .i64 t181, .slice Ao13 t182.length co13, .slice Ao14 t185.length co14] 27 (0, 0)) (Sh.pl BK190.out) NB190_180.out (by simp))
   replace HO206 := am_ (Kd.R_mono (Kd.R_keep (IsS49.apart (show IsS49 w _ gb180 l0 t213 t214 from by repeat (first | (with_reducible first | exact HI180.out | apply IsS49.alloc | apply IsS49.drewN | apply IsS49.drew | apply IsS49.set_1 | apply IsS49.set_2 | refine IsS49.far ?_ NB180_179.out _ | refine IsS49.far ?_ NB180_190.out _) | exact HI180.out)) (Sh.rl HO206.out) (by decide)) hk (fun _ h => h.2)) (fun _ h => h.1))
   replace HO212 := am_ (Kd.R_mono (Kd.R_keep (IsS49.apart (show IsS49 w _ gb180 l0 t213 t214 from by repeat (first | (with_reducible first | exact HI180.out | apply IsS49.alloc | apply IsS49.drewN | apply IsS49.drew | apply IsS49.set_1 | apply IsS49.set_2 | refine IsS49.far ?_ NB180_179.out _ | refine IsS49.far ?_ NB180_190.out _) | exact HI180.out)) (Sh.rl HO212.out) (by decide)) hk (fun _ h => h.2)) (fun _ h => h.1))
   replace HB := am_ hb
   replace HI180 := am_ hi
   (try clear hb)
   (try clear hb2)
   (try clear hk)
   (try clear hi)
   refine Sh.kN hK Sh.cs fun hHeld => ?_
   clear hK K
   refine one_ (i := 16) (N := none) (Sh.nm 20 131071) rfl rfl (one_of HT_.out (by kernel_rfl)) (by decide) (fun K hK => ?_)
   have hs36 : w35.cell? ⟨gb179, 0, none⟩ = some (.int .i64 0) := (blk_cell BK179.out 0).trans rfl
   have hfs36 := blk_frozen BK179.out 0
   have hns36_1 := NB190_179.out
   have hms36_1 := NB179_190.out
   have hs37 : w35.cell? ⟨gb179, 1, none⟩ = some (.slice none 0 0) := (blk_cell BK179.out 1).trans rfl
   have hfs37 := blk_frozen BK179.out 1
   have hns37_1 := NB190_179.out
   have hms37_1 := NB179_190.out
   have hs38 : w35.cell? ⟨gb179, 2, none⟩ = some (.slice none 0 0) := (blk_cell BK179.out 2).trans rfl
   have hfs38 := blk_frozen BK179.out 2
   have hns38_1 := NB190_179.out
   have hms38_1 := NB179_190.out
   refine skip_ (w1 := ?_) (by rfl) rfl ?_ ?_
   rotate_left
   ·go_simp
    rfl
   refine hK.out _ _ ⟨((cell_far (p := ⟨gb179, _, none⟩) NB190_179.out _).trans (((cell_far (p := ⟨gb179, _, none⟩) NB190_179.out _).trans (((cell_far (p := ⟨gb179, _, none⟩) NB190_179.out _).trans (hHeld.1)))))), ((cell_far (p := ⟨gb179, _, none⟩) NB190_179.out _).trans (((cell_far (p := ⟨gb179, _, none⟩) NB190_179.out _).trans (((cell_far (p := ⟨gb179, _, none⟩) NB190_179.out _).trans (hHeld.2.1)))))), ((cell_far (p := ⟨gb179, _, none⟩) NB190_179.out _).trans (((cell_far (p := ⟨gb179, _, none⟩) NB190_179.out _).trans (((cell_far (p := ⟨gb179, _, none⟩) NB190_179.out _).trans (hHeld.2.2))))))⟩ (fun hHeld => ?_)
   clear hK K
   refine Sh.qA 17 ?_; refine Sh.qA 18 ?_; refine Sh.qA 19 ?_
   refine done_ (done_of HT_.out (by kernel_rfl)) ?_
   try go_wp2
   refine bodyPost_ret (results_list (rs := [.cell 2 27, .tmp 3, .tmp 4, .tmp 5]) rfl (by simp) (.cell gb179 27 #[.int .i64 t181, .slice Ao13 t182.length co13, .slice Ao14 t185.length co14] (0, 0) _ rfl (by refine Sh.pl ?_; refine blk_put (cs := #[.int .i64 t181, .slice Ao13 t182.length co13, .slice none 0 0]) ?_ 2 _ rfl; refine Sh.pl ?_; refine blk_put (cs := #[.int .i64 t181, .slice none 0 0, .slice none 0 0]) ?_ 1 _ rfl; refine Sh.pl ?_; refine blk_put (cs := #[.int .i64 0, .slice none 0 0, .slice none 0 0]) ?_ 0 _ rfl; refine Sh.pl ?_; exact BK179.out) Try.underlying27 rfl (by kernel_rfl) (.tmp (.tmp (.tmp .nil))))) rfl ?_
   exact ⟨_, _, _, _, by first | rfl | (simp [errW_none, errW_some] <;> rfl) | (simp [*, errW_none, errW_some] <;> rfl), Sh.rl (Kd.R_mono (Kd.R_far (p := ⟨gb179, 2, none⟩) (Kd.R_far (p := ⟨gb179, 1, none⟩) (Kd.R_far (p := ⟨gb179, 0, none⟩) (Kd.R_types HO_191001.out BK179.out (by decide)) (fun _ hk => hk.2) (.int .i64 t181)) (fun _ hk => hk.2) (.slice Ao13 t182.length co13)) (fun _ hk => hk.2) (.slice Ao14 t185.length co14)) (fun _ hk => trivial)), Sh.rl (Kd.R_mono (Kd.R_far (p := ⟨gb179, 2, none⟩) (Kd.R_far (p := ⟨gb179, 1, none⟩) (Kd.R_far (p := ⟨gb179, 0, none⟩) (Kd.R_types HO_191002.out BK179.out (by decide)) (fun _ hk => hk.2) (.int .i64 t181)) (fun _ hk => hk.2) (.slice Ao13 t182.length co13)) (fun _ hk => hk.2) (.slice Ao14 t185.length co14)) (fun _ h => ⟨h.1.1.2, h.1.2⟩)), Sh.rl (Kd.R_mono (Kd.R_far (p := ⟨gb179, 2, none⟩) (Kd.R_far (p := ⟨gb179, 1, none⟩) (Kd.R_far (p := ⟨gb179, 0, none⟩) (Kd.R_types HO206.out BK179.out (by decide)) (fun _ hk => hk.2) (.int .i64 t181)) (fun _ hk => hk.2) (.slice Ao13 t182.length co13)) (fun _ hk => hk.2) (.slice Ao14 t185.length co14)) (fun _ h => ⟨h.1.1.2, h.1.2⟩)), Sh.rl (Kd.R_mono (Kd.R_far (p := ⟨gb179, 2, none⟩) (Kd.R_far (p := ⟨gb179, 1, none⟩) (Kd.R_far (p := ⟨gb179, 0, none⟩) (Kd.R_types HO212.out BK179.out (by decide)) (fun _ hk => hk.2) (.int .i64 t181)) (fun _ hk => hk.2) (.slice Ao13 t182.length co13)) (fun _ hk => hk.2) (.slice Ao14 t185.length co14)) (fun _ h => ⟨h.1.1.2, h.1.2⟩)), by repeat (first | (with_reducible first | exact HB.out | apply below_alloc | apply pw_below_drewN | apply below_drew1 | refine below_set ?_ (IsS49.ge HI180.out) | refine below_set ?_ GE179.out | refine below_set ?_ GE190.out) | exact HB.out)⟩
theorem slices_IndexFunc_int_int.gen (g : Nat) (lb : Array Value) (eg : ∀ args w, (callFunc g args).run Try.prog w = .ok (.enter g args) w) (q : Int → Option Bool) (A0 : Option Addr) (c0 : Nat) (l0 : List (Int)) (r : Int) (w : World) (hr0 : Kd.C (Kd.int .i64) w A0 l0.length l0) (hc0 : l0.length ≤ c0)
  (hp : ∀ (W : World) (x : Int) (b : Bool), Below w.heap.size w W → x ∈ l0 → q x = some b → Calls Try.prog g (#[.int .i64 x] ++ lb) W fun e w' => e = .returned (.bool b) ∧ Below W.heap.size W w')
  (h : idxO q l0 0 = some r) : Calls Try.prog 60 #[.slice A0 l0.length c0, .func (.func g) #[] lb] w fun e w' => e = .returned (.int .i64 r) ∧ Below w.heap.size w w' := by
 have HR := am_ hr0
 have HP := am_ hp
 have HH := am_ h
 have hn : l0.length ≤ 9223372036854775807 := hr0.2.1
 clear hr0 hp h
 go_enter Try.func60, Try.ntmps60
 go_wp2
 go_loopg [5, 8] l0.length (fun gg _ s8 wr => ∃ kk : Nat, kk ≤ l0.length ∧ l0.length - kk ≤ gg ∧ s8 = .int .i64 kk ∧ Aside0 (idxO q (l0.drop kk) kk = some r) ∧ Aside0 (Below w.heap.size w wr))
 case atStart => exact ⟨0, Nat.zero_le _, by omega, rfl, HH, ⟨Below.refl _ _⟩⟩
 case round =>
  obtain ⟨kk, hkk, hg, rfl, HA, HB⟩ := hrel
  clear HH
  by_cases hlt : kk < l0.length
  ·have hltz : (kk : Int) < (l0.length : Int) := by omega
   have h0z : 0 ≤ (kk : Int) := by omega
   obtain ⟨ad, e, hx⟩ := Kd.at_int HR.out (kk : Int) h0z hltz
   have er : rd l0 (kk : Int) = l0.getD kk 0 := by simp [rd]
   rw [er] at hx
   have hA := HA.out
   rw [drop_getD hlt 0] at hA
   obtain ⟨b, hb, hA2⟩ := Option.bind_eq_some_iff.mp hA
   have HA2 := am_ hA2
   have hin := getD_in hlt (0 : Int)
   have hcall := HP.out wr _ b HB.out hin hb
   generalize l0.getD kk 0 = y at hx hcall
   clear HA hA hA2 hb er hin
   skip
   cases e
   simp only [Int.toNat_natCast] at hx
   replace hx := (HB.out.cell (World.block_lt_of_cell? w _ hx)).trans hx
   cases b with
   | true =>
    go_wp2_with (go_at_fn g; refine hcall.mono ?_; rintro e w' ⟨rfl, hb2⟩)
    go_ret
    have h3 := HA2.out
    simp only [if_true] at h3
    exact ⟨by rw [← Option.some.inj h3]; rfl, below_step HB.out hb2⟩
   | false =>
    go_wp2_with (go_at_fn g; refine hcall.mono ?_; rintro e w' ⟨rfl, hb2⟩)
    go_roundg (l0.length - (kk + 1))
    case measure => omega
    case rel =>
     refine ⟨kk + 1, by omega, by omega, by go_num, ⟨by have h3 := HA2.out; simpa using h3⟩, ⟨below_step HB.out hb2⟩⟩
  ·have hltz : ¬ (kk : Int) < (l0.length : Int) := by omega
   have hA := HA.out
   rw [List.drop_of_length_le (by omega)] at hA
   have h4 : (-1 : Int) = r := Option.some.inj hA
   subst h4
   clear HA hA
   have : kk = l0.length := by omega
   subst this
   go_wp2
   go_ret
   exact ⟨rfl, HB.out⟩
theorem slices_ContainsFunc_int_int.gen (g : Nat) (lb : Array Value) (eg : ∀ args w, (callFunc g args).run Try.prog w = .ok (.enter g args) w) (q : Int → Option Bool) (A0 : Option Addr) (c0 : Nat) (l0 : List (Int)) (r : Bool) (w : World) (hr0 : Kd.C (Kd.int .i64) w A0 l0.length l0) (hc0 : l0.length ≤ c0)
  (hp : ∀ (W : World) (x : Int) (b : Bool), Below w.heap.size w W → x ∈ l0 → q x = some b → Calls Try.prog g (#[.int .i64 x] ++ lb) W fun e w' => e = .returned (.bool b) ∧ Below W.heap.size W w')
  (h : anyO q l0 = some r) : Calls Try.prog 51 #[.slice A0 l0.length c0, .func (.func g) #[] lb] w fun e w' => e = .returned (.bool r) ∧ Below w.heap.size w w' := by
 obtain ⟨i, hi, hd⟩ := idxO_of_anyO l0 r 0 (Int.le_refl 0) h
 have HC := am_ (slices_IndexFunc_int_int.gen g lb eg q A0 c0 l0 i w hr0 hc0 hp hi)
 have HD := am_ hd
 clear hr0 hp h hi hd
 go_enter Try.func51, Try.ntmps51
 go_wp2_with (go_at_call 60; refine HC.out.mono ?_; rintro e w' ⟨rfl, hb2⟩)
 go_ret
 exact ⟨by rw [← HD.out]; rfl, hb2⟩
def impl_areWiresBelow_1.f (a0 : Int) (a1_0 : Int) : Option (Bool) := if a0 < 0 then (some true) else (some (decide (a0 ≥ a1_0)))
theorem impl_areWiresBelow_1.calls (a0 : Int) (bp1 : Nat) (a1_0 : Int) (r : Bool) (w : World) (hb1 : w.heap[bp1]? = some (.cells #[.int .i64 a1_0] 3 (0, 0))) (h : impl_areWiresBelow_1.f a0 a1_0 = some r) :
  Calls Try.prog 52 #[.int .i64 a0, .pointer (some ⟨bp1, 0, none⟩)] w fun e w' => e = .returned (.bool r) ∧ Drawn0 w w' := by
 have HX1 := am_ hb1
 clear hb1
 have H := h
 clear h
 unfold impl_areWiresBelow_1.f at H
 by_cases c3 : a0 < 0
 ·rw [if_pos c3] at H
  have c3b0 := decide_eq_true c3
  clear c3
  obtain rfl := Option.some.inj H
  go_enter Try.func52, Try.ntmps52
  go_wp2
  go_ret
  exact ⟨Sh.es, Sh.dr⟩
 ·rw [if_neg c3] at H
  have c3b0 := decide_eq_false c3
  clear c3
  obtain rfl := Option.some.inj H
  have hcz4_0 : w.cell? ⟨bp1, 0, none⟩ = some (.int .i64 a1_0) := (blk_cell HX1.out 0).trans rfl
  have hfz4_0 := blk_frozen HX1.out 0
  go_enter Try.func52, Try.ntmps52
  go_wp2
  go_ret
  exact ⟨Sh.es, Sh.dr⟩
def slices_ContainsFunc_int_int_by_impl_areWiresBelow_1.f (l0 : List Int) (a1_0 : Int) : Option (Bool) := anyO (fun x_ => impl_areWiresBelow_1.f x_ a1_0) l0
theorem slices_ContainsFunc_int_int_by_impl_areWiresBelow_1.calls (A0 : Option Addr) (c0 : Nat) (l0 : List Int) (bp1 : Nat) (a1_0 : Int) (r : Bool) (w : World) (hr0 : Kd.C (Kd.int .i64) w A0 l0.length l0) (hc0 : l0.length ≤ c0) (hb1 : w.heap[bp1]? = some (.cells #[.int .i64 a1_0] 3 (0, 0))) (h : slices_ContainsFunc_int_int_by_impl_areWiresBelow_1.f l0 a1_0 = some r) :
  Calls Try.prog 51 #[.slice A0 l0.length c0, .func (.func 52) #[] #[.pointer (some ⟨bp1, 0, none⟩)]] w fun e w' => e = .returned (.bool r) ∧ Below w.heap.size w w' := by
 refine slices_ContainsFunc_int_int.gen 52 #[.pointer (some ⟨bp1, 0, none⟩)] (enters_of Try.func52 (by kernel_rfl) rfl) _ A0 c0 l0 r w hr0 hc0 ?_ h
 intro W x b hB_ hin_ hq_
 refine (impl_areWiresBelow_1.calls x bp1 a1_0 b W ((hB_.block _ (blk_lt hb1)).trans hb1) hq_).mono ?_
 rintro e w' ⟨rfl, hd_⟩
 exact ⟨rfl, hd_.below⟩
def impl_areWiresBelow.f (l0 : List Int) (a1 : Int) : Option (Bool) := (slices_ContainsFunc_int_int_by_impl_areWiresBelow_1.f l0 a1).bind fun t220 => (some (!t220))
theorem impl_areWiresBelow.calls (A0 : Option Addr) (c0 : Nat) (l0 : List Int) (a1 : Int) (r : Bool) (w : World) (hr0 : Kd.C (Kd.int .i64) w A0 l0.length l0) (hc0 : l0.length ≤ c0) (h : impl_areWiresBelow.f l0 a1 = some r) :
  Calls Try.prog 30 #[.slice A0 l0.length c0, .int .i64 a1] w fun e w' => e = .returned (.bool r) ∧ Below w.heap.size w w' := by
 have HR0 := am_ hr0
 have HC0 := am_ hc0
 clear hr0 hc0
 have HB := am_ (Below.refl w.heap.size w)
 have H := h
 clear h
 unfold impl_areWiresBelow.f at H
 obtain ⟨t220, A3, H⟩ := Sh.ba H
 obtain rfl := Option.some.inj H
 go_enter Try.func30, Try.ntmps30
 go_wp2_with (first | ((with_reducible refine Sh.d 3 ?_); refine Sh.bz w (N := 3) (cs := #[.int .i64 a1]) (t := 3) (h := ?_); clear HB; intro gb219 w4 BK219 GE219 HB) | ((with_reducible refine Sh.k 51 ?_); refine Sh.gL (some 7) Try.func51 #[.slice A0 l0.length c0, .func (.func 52) #[] #[.pointer (some ⟨gb219, 0, none⟩)]] (h := ?_); (with_reducible refine (slices_ContainsFunc_int_int_by_impl_areWiresBelow_1.calls _ _ l0 gb219 a1 t220 _ (Sh.cB HR0.out) HC0.out ?side3 A3.out).mono ?_); (case side3 => refine Sh.pl ?_; exact BK219.out); rintro e w5 ⟨rfl, hb⟩; refine ⟨_, rfl, ?_⟩; replace BK219 := Sh.ab BK219 hb; replace HB := Sh.hb hb; (try clear hb); (try clear hb2); (try clear hk); (try clear hi)))
 go_ret
 exact ⟨Sh.eR, Sh.bw⟩
def impl_Circuit_wires.f (a0_0 : Int) (l0_1 : List (S66)) (l0_2 : List Int) : Option (Int) := some (wrap64 (a0_0 + (l0_1.length : Int)))
theorem impl_Circuit_wires.calls (a0_0 : Int) (A0_1 : Option Addr) (c0_1 : Nat) (l0_1 : List (S66)) (A0_2 : Option Addr) (c0_2 : Nat) (l0_2 : List Int) (r : Int) (w : World) (hr0_1 : Kd.C k66 w A0_1 l0_1.length l0_1) (hc0_1 : l0_1.length ≤ c0_1) (hr0_2 : Kd.C (Kd.int .i64) w A0_2 l0_2.length l0_2) (hc0_2 : l0_2.length ≤ c0_2) (h : impl_Circuit_wires.f a0_0 l0_1 l0_2 = some r) :
  Calls Try.prog 31 #[.agg #[.int .i64 a0_0, .slice A0_1 l0_1.length c0_1, .slice A0_2 l0_2.length c0_2]] w fun e w' => e = .returned (.int .i64 r) ∧ Below w.heap.size w w' := by
 have hu27 := Try.underlying27
 have HR0_1 := am_ hr0_1
 have HC0_1 := am_ hc0_1
 clear hr0_1 hc0_1
 have HR0_2 := am_ hr0_2
 have HC0_2 := am_ hc0_2
 clear hr0_2 hc0_2
 have HB := am_ (Below.refl w.heap.size w)
 have H := h
 clear h
 unfold impl_Circuit_wires.f at H
 obtain rfl := Option.some.inj H
 go_enter Try.func31, Try.ntmps31
 go_wp2_with (first | ((with_reducible refine Sh.d 1 ?_); refine Sh.bz w (N := 1) (cs := #[.int .i64 a0_0, .slice A0_1 l0_1.length c0_1, .slice A0_2 l0_2.length c0_2]) (t := 27) (h := ?_); clear HB; intro gb221 w2 BK221 GE221 HB; obtain ⟨hcz3_0, hcz3_1, hcz3_2, hfz3_0, hfz3_1, hfz3_2⟩ := Sh.b3 BK221.out))
 go_ret
 exact ⟨Sh.eR, Sh.bw⟩
end Go.Proofs.Ytejlobcjgbeeaaa.P
