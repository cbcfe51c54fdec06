/- Go functions of this seat as Lean functions, and the proofs that the calls come to what these say; printed by a program of this session. No condition. -/
import Derived.Test.YtjpjijihehlnkaaP0
set_option linter.unusedVariables false
set_option linter.unusedSimpArgs false
set_option maxHeartbeats 40000000
set_option maxRecDepth 100000
namespace Go.Proofs.Ytjpjijihehlnkaa.P
open Go.RowKit Go.Proofs.YtjpjijihehlnkaaW.PrintWords Go.Proofs.YtjpjijihehlnkaaW.PrintLast Go.Proofs.YtjpjijihehlnkaaW.PrintMore Go.Proofs.Ytjpjijihehlnkaa.Hof
attribute [local go_sem] max2_int min2_int max_two min_two max_three min_three max_four min_four
theorem eqA35 (d : Nat) (w : World) (x0 y0 : Int) (x1 y1 : Int) :
  (Op.equalIn (d + 2) 35 (.agg #[.int .i64 x0, .int .i64 x1]) (.agg #[.int .i64 y0, .int .i64 y1])).run Try.prog w = .ok (x0 == y0 && (x1 == y1)) w := by
 refine eqA_of Try.underlying35 (by kernel_rfl) ?_
 refine eqf_cons (by rfl) (by go_simp; rfl) (by go_simp; rfl) (by go_simp) ?_
 exact eqf_last (by rfl) (by go_simp; rfl) (by go_simp; rfl) (by go_simp)
def laws_big.f (l0 : List Int) (l1 : List Int) : Option (Bool) := if (l0.length : Int) > 1048576 then (some true) else (some (decide ((l1.length : Int) > (wrap64 (1048576 - (l0.length : Int))))))
theorem laws_big.calls (A0 : Option Addr) (c0 : Nat) (l0 : List Int) (A1 : Option Addr) (c1 : Nat) (l1 : List Int) (r : Bool) (w : World) (hr0 : Kd.C (Kd.int .u8) w A0 l0.length l0) (hc0 : l0.length ≤ c0) (hr1 : Kd.C (Kd.int .u8) w A1 l1.length l1) (hc1 : l1.length ≤ c1) (h : laws_big.f l0 l1 = some r) :
  Calls Try.prog 4 #[.slice A0 l0.length c0, .slice A1 l1.length c1] w fun e w' => e = .returned (.bool r) ∧ Drawn0 w w' := by
 have HR0 := am_ hr0
 have HC0 := am_ hc0
 clear hr0 hc0
 have HR1 := am_ hr1
 have HC1 := am_ hc1
 clear hr1 hc1
 have H := h
 clear h
 unfold laws_big.f at H
 by_cases c3 : (l0.length : Int) > 1048576
 ·rw [if_pos c3] at H
  have c3b0 : decide (1048576 < (l0.length : Int)) = true := decide_eq_true c3
  have c3b1 : decide (1048576 < l0.length) = true := decide_eq_true (by omega)
  clear c3
  obtain rfl := Option.some.inj H
  go_enter Try.func4, Try.ntmps4
  go_wp2
  go_ret
  exact ⟨Sh.es, Sh.dr⟩
 ·rw [if_neg c3] at H
  have c3b0 : decide (1048576 < (l0.length : Int)) = false := decide_eq_false c3
  have c3b1 : decide (1048576 < l0.length) = false := decide_eq_false (by omega)
  clear c3
  obtain rfl := Option.some.inj H
  go_enter Try.func4, Try.ntmps4
  go_wp2
  go_ret
  exact ⟨Sh.es, Sh.dr⟩
/-- A state of type 46 at block g of W; what its slices lead to came in by w0. -/
def IsS46 (w0 W : World) (g : Nat) (f0 : List Int) (f1 : Int) (f2 : Int) : Prop := ∃ A0 c0, W.heap[g]? = some (.cells #[.slice A0 f0.length c0, .int .i64 f1, .int .u64 f2] 46 (0, 0)) ∧ w0.heap.size ≤ g ∧ Kd.C (Kd.int .u8) w0 A0 f0.length f0
theorem IsS46.grown {w0 W : World} {g : Nat} {f0 : List Int} {f1 : Int} {f2 : Int} {W1 : World} {row : Option Nat} (h : IsS46 w0 W g f0 f1 f2) (hw : W.grownBy W1 row) (hne : some g ≠ row) : IsS46 w0 W1 g f0 f1 f2 := by
 obtain ⟨A0, c0, hb, hg, hr0⟩ := h
 exact ⟨A0, c0, blk_grown hb hw hne, hg, hr0⟩
theorem IsS46.own_neN {w0 W : World} {g : Nat} {f0 : List Int} {f1 : Int} {f2 : Int} {α : Type} {d : Kd α} {e : Nat} {base : Nat} {ok : Nat → Prop} {v : Value} {xs : List α} (h : IsS46 w0 W g f0 f1 f2) (ho : Kd.N d e W base ok v xs) (ht : e ≠ 46) : some g ≠ v.ownBlock := by
 obtain ⟨A0, c0, hb, hg, hr0⟩ := h
 exact Kd.N_ne ho hb ht
theorem IsS46.fresh {w0 W : World} {g : Nat} {f0 : List Int} {f1 : Int} {f2 : Int} (h : IsS46 w0 W g f0 f1 f2) : ∀ k, W.heap.size ≤ k → k ≠ g := by
 obtain ⟨A0, c0, hb, hg, hr0⟩ := h
 exact Kd.freshB hb
theorem IsS46.kept {w0 W : World} {g : Nat} {f0 : List Int} {f1 : Int} {f2 : Int} {W1 : World} {S : Nat → Prop} (h : IsS46 w0 W g f0 f1 f2) (hk : Kept W W1 S) (hne : ¬ S g) : IsS46 w0 W1 g f0 f1 f2 := by
 obtain ⟨A0, c0, hb, hg, hr0⟩ := h
 exact ⟨A0, c0, blk_kept hb hk hne, hg, hr0⟩
theorem IsS46.below {w0 W : World} {g : Nat} {f0 : List Int} {f1 : Int} {f2 : Int} {W1 : World} (h : IsS46 w0 W g f0 f1 f2) (hw : Below W.heap.size W W1) : IsS46 w0 W1 g f0 f1 f2 := h.grown (grown_of_below hw none) (by simp)
theorem IsS46.alloc {w0 W : World} {g : Nat} {f0 : List Int} {f1 : Int} {f2 : Int} (h : IsS46 w0 W g f0 f1 f2) (o : Obj) : IsS46 w0 (W.alloc o) g f0 f1 f2 := h.below (below_alloc (Below.refl _ _) o)
theorem IsS46.drewN {w0 W : World} {g : Nat} {f0 : List Int} {f1 : Int} {f2 : Int} (h : IsS46 w0 W g f0 f1 f2) (m : Nat) : IsS46 w0 (W.drewN m) g f0 f1 f2 := h
theorem IsS46.drew {w0 W : World} {g : Nat} {f0 : List Int} {f1 : Int} {f2 : Int} (h : IsS46 w0 W g f0 f1 f2) : IsS46 w0 W.drew g f0 f1 f2 := h
theorem IsS46.at_ {w0 W : World} {g : Nat} {f0 : List Int} {f1 : Int} {f2 : Int} {w' : World} {m : Nat} (hq : W.drewN m = w') (h : IsS46 w0 W g f0 f1 f2) : IsS46 w0 w' g f0 f1 f2 := by subst hq; exact IsS46.drewN h m
theorem IsS46.apart {w0 W : World} {g : Nat} {f0 : List Int} {f1 : Int} {f2 : Int} {α : Type} {d : Kd α} {e : Nat} {base : Nat} {ok : Nat → Prop} {v : Value} {xs : List α} (h : IsS46 w0 W g f0 f1 f2) (ho : d.R e W base ok v xs) (ht : ∀ q, q ∈ e :: d.E → q ≠ 46) : d.R e W base (fun k => ok k ∧ k ≠ g) v xs := by
 obtain ⟨A0, c0, hb, hg, hr0⟩ := h
 exact Kd.R_types ho hb ht
theorem IsS46.own_ne {w0 W : World} {g : Nat} {f0 : List Int} {f1 : Int} {f2 : Int} {α : Type} {d : Kd α} {e : Nat} {base : Nat} {ok : Nat → Prop} {v : Value} {xs : List α} (h : IsS46 w0 W g f0 f1 f2) (ho : d.R e W base ok v xs) (ht : e ≠ 46) : some g ≠ v.ownBlock := by
 obtain ⟨A0, c0, hb, hg, hr0⟩ := h
 exact Kd.R_ne ho hb ht
theorem IsS46.apartQ {w0 W : World} {g : Nat} {f0 : List Int} {f1 : Int} {f2 : Int} {α : Type} {d : Kd α} {e : Nat} {base : Nat} {ok : Nat → Prop} {v : Value} {xs : List α} (h : IsS46 w0 W g f0 f1 f2) (ho : d.Q e W base ok v xs) (ht : ∀ q, q ∈ e :: d.E → q ≠ 46) : d.Q e W base (fun k => ok k ∧ k ≠ g) v xs := by
 obtain ⟨A0, c0, hb, hg, hr0⟩ := h
 exact Kd.Q_types ho hb ht
theorem IsS46.own_neQ {w0 W : World} {g : Nat} {f0 : List Int} {f1 : Int} {f2 : Int} {α : Type} {d : Kd α} {e : Nat} {base : Nat} {ok : Nat → Prop} {v : Value} {xs : List α} (h : IsS46 w0 W g f0 f1 f2) (ho : d.Q e W base ok v xs) (ht : e ≠ 46) : some g ≠ v.ownBlock := by
 obtain ⟨A0, c0, hb, hg, hr0⟩ := h
 exact Kd.Q_ne ho hb ht
theorem IsS46.apartS {w0 W : World} {g : Nat} {f0 : List Int} {f1 : Int} {f2 : Int} {α : Type} {d : Kd α} {e : Nat} {base : Nat} {ok : Nat → Prop} {v : Value} {xs : List α} (h : IsS46 w0 W g f0 f1 f2) (ho : d.S e W base ok v xs) (ht : ∀ q, q ∈ e :: d.E → q ≠ 46) : d.S e W base (fun k => ok k ∧ k ≠ g) v xs := by
 obtain ⟨A0, c0, hb, hg, hr0⟩ := h
 exact Kd.S_types ho hb ht
theorem IsS46.own_neS {w0 W : World} {g : Nat} {f0 : List Int} {f1 : Int} {f2 : Int} {α : Type} {d : Kd α} {e : Nat} {base : Nat} {ok : Nat → Prop} {v : Value} {xs : List α} (h : IsS46 w0 W g f0 f1 f2) (ho : d.S e W base ok v xs) (ht : e ≠ 46) : some g ≠ v.ownBlock := by
 obtain ⟨A0, c0, hb, hg, hr0⟩ := h
 exact Kd.S_ne ho hb ht
theorem IsS46.lt {w0 W : World} {g : Nat} {f0 : List Int} {f1 : Int} {f2 : Int} (h : IsS46 w0 W g f0 f1 f2) : g < W.heap.size := by
 obtain ⟨A0, c0, hb, hg, hr0⟩ := h
 exact blk_lt hb
theorem IsS46.ge {w0 W : World} {g : Nat} {f0 : List Int} {f1 : Int} {f2 : Int} (h : IsS46 w0 W g f0 f1 f2) : w0.heap.size ≤ g := by
 obtain ⟨A0, c0, hb, hg, hr0⟩ := h
 exact hg
theorem IsS46.ne_blk {w0 W : World} {g : Nat} {f0 : List Int} {f1 : Int} {f2 : Int} {a : Nat} {cs : Array Value} {t : TypeId} {fr : Nat × Nat} (h : IsS46 w0 W g f0 f1 f2) (hb2 : W.heap[a]? = some (.cells cs t fr)) (ht : t ≠ 46) : g ≠ a := by
 obtain ⟨A0, c0, hb, hg, hr0⟩ := h
 rintro rfl
 rw [hb] at hb2
 injection hb2 with hb2
 injection hb2 with _ ht2
 exact ht ht2.symm
theorem IsS46.far {w0 W : World} {g : Nat} {f0 : List Int} {f1 : Int} {f2 : Int} {p : Addr} (h : IsS46 w0 W g f0 f1 f2) (hne : g ≠ p.block) (u : Value) : IsS46 w0 (W.setCell p u) g f0 f1 f2 := by
 obtain ⟨A0, c0, hb, hg, hr0⟩ := h
 exact ⟨A0, c0, blk_far hb hne u, hg, hr0⟩
theorem cellS46_0 {W : World} {g : Nat} {A0 : Option Addr} {c0 : Nat} {f0 : List Int} {f1 : Int} {f2 : Int} (h : W.heap[g]? = some (.cells #[.slice A0 f0.length c0, .int .i64 f1, .int .u64 f2] 46 (0, 0))) : W.cell? ⟨g, 0, none⟩ = some (.slice A0 f0.length c0) := (blk_cell h 0).trans rfl
theorem cellS46_1 {W : World} {g : Nat} {A0 : Option Addr} {c0 : Nat} {f0 : List Int} {f1 : Int} {f2 : Int} (h : W.heap[g]? = some (.cells #[.slice A0 f0.length c0, .int .i64 f1, .int .u64 f2] 46 (0, 0))) : W.cell? ⟨g, 1, none⟩ = some (.int .i64 f1) := (blk_cell h 1).trans rfl
theorem IsS46.set_1 {w0 W : World} {g : Nat} {f0 : List Int} {f1 : Int} {f2 : Int} (h : IsS46 w0 W g f0 f1 f2) (x : Int) : IsS46 w0 (W.setCell ⟨g, 1, none⟩ (.int .i64 x)) g f0 x f2 := by
 obtain ⟨A0, c0, hb, hg, hr0⟩ := h
 exact ⟨A0, c0, by simpa using blk_set hb 1 (.int .i64 x), hg, hr0⟩
theorem cellS46_2 {W : World} {g : Nat} {A0 : Option Addr} {c0 : Nat} {f0 : List Int} {f1 : Int} {f2 : Int} (h : W.heap[g]? = some (.cells #[.slice A0 f0.length c0, .int .i64 f1, .int .u64 f2] 46 (0, 0))) : W.cell? ⟨g, 2, none⟩ = some (.int .u64 f2) := (blk_cell h 2).trans rfl
theorem IsS46.set_2 {w0 W : World} {g : Nat} {f0 : List Int} {f1 : Int} {f2 : Int} (h : IsS46 w0 W g f0 f1 f2) (x : Int) : IsS46 w0 (W.setCell ⟨g, 2, none⟩ (.int .u64 x)) g f0 f1 x := by
 obtain ⟨A0, c0, hb, hg, hr0⟩ := h
 exact ⟨A0, c0, by simpa using blk_set hb 2 (.int .u64 x), hg, hr0⟩
theorem IsS46.new (w0 W : World) (A0 : Option Addr) (c0 : Nat) (f0 : List Int) (f1 : Int) (f2 : Int) (hB : Below w0.heap.size w0 W) (hr0 : Kd.C (Kd.int .u8) w0 A0 f0.length f0) : IsS46 w0 (W.alloc (.cells #[.slice A0 f0.length c0, .int .i64 f1, .int .u64 f2] 46)) W.heap.size f0 f1 f2 := ⟨A0, c0, by simpa using heap_alloc_new W _, hB.size, hr0⟩

def spec_l1Cur_next.f (s0_0 : List Int) (s0_1 : Int) (s0_2 : Int) : Option (Int × Int × Int) := if s0_1 < (s0_0.length : Int) then (if 0 ≤ s0_1 then (if (wrap64 (s0_1 + 1)) ≤ (s0_0.length : Int) then (some (wrap64 (rd s0_0 s0_1), wrap64 (s0_1 + 1), IntKind.u64.wrap ((IntKind.u64.wrap ((IntKind.u64.wrap (s0_2 * 6364136223846793005)) + (IntKind.u64.wrap (wrap64 (rd s0_0 s0_1))))) + 1442695040888963407))) else (some (wrap64 (Go.bits .and .u64 ((IntKind.u64.wrap ((IntKind.u64.wrap ((IntKind.u64.wrap (s0_2 * 6364136223846793005)) + (IntKind.u64.wrap (wrap64 (rd s0_0 s0_1))))) + 1442695040888963407)) / 1099511627776) 255), wrap64 (s0_1 + 1), IntKind.u64.wrap ((IntKind.u64.wrap ((IntKind.u64.wrap (s0_2 * 6364136223846793005)) + (IntKind.u64.wrap (wrap64 (rd s0_0 s0_1))))) + 1442695040888963407)))) else (none)) else (if (wrap64 (s0_1 + 1)) ≤ (s0_0.length : Int) then (some (0, wrap64 (s0_1 + 1), IntKind.u64.wrap ((IntKind.u64.wrap ((IntKind.u64.wrap (s0_2 * 6364136223846793005)))) + 1442695040888963407))) else (some (wrap64 (Go.bits .and .u64 ((IntKind.u64.wrap ((IntKind.u64.wrap ((IntKind.u64.wrap (s0_2 * 6364136223846793005)))) + 1442695040888963407)) / 1099511627776) 255), wrap64 (s0_1 + 1), IntKind.u64.wrap ((IntKind.u64.wrap ((IntKind.u64.wrap (s0_2 * 6364136223846793005)))) + 1442695040888963407))))
theorem spec_l1Cur_next.calls (g : Nat) (s0_0 : List Int) (s0_1 : Int) (s0_2 : Int) (r1 : Int) (r2 : Int) (r3 : Int) (w0 w : World) (hI : IsS46 w0 w g s0_0 s0_1 s0_2) (hB : Below w0.heap.size w0 w) (h : spec_l1Cur_next.f s0_0 s0_1 s0_2 = some (r1, r2, r3)) :
  Calls Try.prog 33 #[.pointer (some ⟨g, 0, none⟩)] w fun e w' => e = .returned (.int .i64 r1) ∧ IsS46 w0 w' g s0_0 r2 r3 ∧ Below w0.heap.size w0 w' ∧ KeepBut w w' g none := by
 have HI0 := am_ hI
 have HK := am_ (KeepBut.refl w g none)
 have HL := am_ hB.size
 clear hI
 have HW0 := am_ hB.size
 have HB := am_ hB
 clear hB
 have H := h
 clear h
 unfold spec_l1Cur_next.f at H
 by_cases c2 : s0_1 < (s0_0.length : Int)
 ·rw [if_pos c2] at H
  have c2b0 := decide_eq_true c2
  clear c2
  by_cases c3 : 0 ≤ s0_1
  ·rw [if_pos c3] at H
   have c3b0 := decide_eq_true c3
   clear c3
   by_cases c4 : (wrap64 (s0_1 + 1)) ≤ (s0_0.length : Int)
   ·rw [if_pos c4] at H
    have c4b0 := decide_eq_true c4
    clear c4
    simp only [Option.some.injEq, Prod.mk.injEq] at H
    obtain ⟨rfl, rfl, rfl⟩ := H
    obtain ⟨ASz5_0, cSz5_0, HGz5, hgz5, HSz5_0⟩ := HI0.out
    have hcz5_0 := cellS46_0 HGz5
    have hcz5_1 := cellS46_1 HGz5
    have hcz5_2 := cellS46_2 HGz5
    have hfz5_1 := blk_frozen HGz5 1
    have hfz5_2 := blk_frozen HGz5 2
    clear HGz5 hgz5
    have p101 : 0 ≤ (s0_1 : Int) := Sh.od
    have q101 : s0_1 < (s0_0.length : Int) := Sh.od
    obtain ⟨ad101, e101, hx101_0⟩ := Kd.at_int HSz5_0 s0_1 p101 q101
    cases e101
    replace hx101_0 := pw_cell_below HB.out hx101_0
    replace p101 := eq_true p101
    replace q101 := eq_true q101
    go_enter Try.func33, Try.ntmps33
    go_wp2
    repeat (go_quiet (fail); try go_wp2)
    go_ret
    exact ⟨Sh.eR, by repeat (first | (with_reducible first | exact HI0.out | apply IsS46.alloc | apply IsS46.drewN | apply IsS46.drew | apply IsS46.set_1 | apply IsS46.set_2) | exact HI0.out), by repeat (first | (with_reducible first | exact HB.out | apply below_alloc | apply pw_below_drewN | apply below_drew1 | refine below_set ?_ (IsS46.ge HI0.out)) | exact HB.out), by repeat (first | (with_reducible first | exact HK.out | apply KeepBut.set_ | apply keep_drewN | apply keep_drew | apply keep_alloc) | exact HK.out)⟩
   ·rw [if_neg c4] at H
    have c4b0 := decide_eq_false c4
    clear c4
    simp only [Option.some.injEq, Prod.mk.injEq] at H
    obtain ⟨rfl, rfl, rfl⟩ := H
    obtain ⟨ASz6_0, cSz6_0, HGz6, hgz6, HSz6_0⟩ := HI0.out
    have hcz6_0 := cellS46_0 HGz6
    have hcz6_1 := cellS46_1 HGz6
    have hcz6_2 := cellS46_2 HGz6
    have hfz6_1 := blk_frozen HGz6 1
    have hfz6_2 := blk_frozen HGz6 2
    clear HGz6 hgz6
    have p101 : 0 ≤ (s0_1 : Int) := Sh.od
    have q101 : s0_1 < (s0_0.length : Int) := Sh.od
    obtain ⟨ad101, e101, hx101_0⟩ := Kd.at_int HSz6_0 s0_1 p101 q101
    cases e101
    replace hx101_0 := pw_cell_below HB.out hx101_0
    replace p101 := eq_true p101
    replace q101 := eq_true q101
    go_enter Try.func33, Try.ntmps33
    go_wp2
    repeat (go_quiet (fail); try go_wp2)
    go_ret
    exact ⟨Sh.eR, by repeat (first | (with_reducible first | exact HI0.out | apply IsS46.alloc | apply IsS46.drewN | apply IsS46.drew | apply IsS46.set_1 | apply IsS46.set_2) | exact HI0.out), by repeat (first | (with_reducible first | exact HB.out | apply below_alloc | apply pw_below_drewN | apply below_drew1 | refine below_set ?_ (IsS46.ge HI0.out)) | exact HB.out), by repeat (first | (with_reducible first | exact HK.out | apply KeepBut.set_ | apply keep_drewN | apply keep_drew | apply keep_alloc) | exact HK.out)⟩
  ·rw [if_neg c3] at H
   exact absurd H (by simp)
 ·rw [if_neg c2] at H
  have c2b0 := decide_eq_false c2
  clear c2
  by_cases c7 : (wrap64 (s0_1 + 1)) ≤ (s0_0.length : Int)
  ·rw [if_pos c7] at H
   have c7b0 := decide_eq_true c7
   clear c7
   simp only [Option.some.injEq, Prod.mk.injEq] at H
   obtain ⟨rfl, rfl, rfl⟩ := H
   obtain ⟨ASz8_0, cSz8_0, HGz8, hgz8, HSz8_0⟩ := HI0.out
   have hcz8_0 := cellS46_0 HGz8
   have hcz8_1 := cellS46_1 HGz8
   have hcz8_2 := cellS46_2 HGz8
   have hfz8_1 := blk_frozen HGz8 1
   have hfz8_2 := blk_frozen HGz8 2
   clear HGz8 hgz8
   go_enter Try.func33, Try.ntmps33
   go_wp2
   repeat (go_quiet (fail); try go_wp2)
   go_ret
   exact ⟨Sh.eR, by repeat (first | (with_reducible first | exact HI0.out | apply IsS46.alloc | apply IsS46.drewN | apply IsS46.drew | apply IsS46.set_1 | apply IsS46.set_2) | exact HI0.out), by repeat (first | (with_reducible first | exact HB.out | apply below_alloc | apply pw_below_drewN | apply below_drew1 | refine below_set ?_ (IsS46.ge HI0.out)) | exact HB.out), by repeat (first | (with_reducible first | exact HK.out | apply KeepBut.set_ | apply keep_drewN | apply keep_drew | apply keep_alloc) | exact HK.out)⟩
  ·rw [if_neg c7] at H
   have c7b0 := decide_eq_false c7
   clear c7
   simp only [Option.some.injEq, Prod.mk.injEq] at H
   obtain ⟨rfl, rfl, rfl⟩ := H
   obtain ⟨ASz9_0, cSz9_0, HGz9, hgz9, HSz9_0⟩ := HI0.out
   have hcz9_0 := cellS46_0 HGz9
   have hcz9_1 := cellS46_1 HGz9
   have hcz9_2 := cellS46_2 HGz9
   have hfz9_1 := blk_frozen HGz9 1
   have hfz9_2 := blk_frozen HGz9 2
   clear HGz9 hgz9
   go_enter Try.func33, Try.ntmps33
   go_wp2
   repeat (go_quiet (fail); try go_wp2)
   go_ret
   exact ⟨Sh.eR, by repeat (first | (with_reducible first | exact HI0.out | apply IsS46.alloc | apply IsS46.drewN | apply IsS46.drew | apply IsS46.set_1 | apply IsS46.set_2) | exact HI0.out), by repeat (first | (with_reducible first | exact HB.out | apply below_alloc | apply pw_below_drewN | apply below_drew1 | refine below_set ?_ (IsS46.ge HI0.out)) | exact HB.out), by repeat (first | (with_reducible first | exact HK.out | apply KeepBut.set_ | apply keep_drewN | apply keep_drew | apply keep_alloc) | exact HK.out)⟩
def spec_l1Cur_pick.f (s0_0 : List Int) (s0_1 : Int) (s0_2 : Int) (a1 : Int) : Option (Int × Int × Int) := if a1 ≤ 1 then (some (0, s0_1, s0_2)) else ((spec_l1Cur_next.f s0_0 s0_1 s0_2).bind fun bt102 => (if a1 > 200 then ((spec_l1Cur_next.f s0_0 bt102.2.1 bt102.2.2).bind fun bt105 => (if a1 = 0 then (none) else (some (Int.tmod (wrap64 ((wrap64 (bt102.1 * 256)) + bt105.1)) a1, bt105.2.1, bt105.2.2)))) else (if a1 = 0 then (none) else (some (Int.tmod bt102.1 a1, bt102.2.1, bt102.2.2)))))
theorem spec_l1Cur_pick.calls (g : Nat) (s0_0 : List Int) (s0_1 : Int) (s0_2 : Int) (a1 : Int) (r1 : Int) (r2 : Int) (r3 : Int) (w0 w : World) (hI : IsS46 w0 w g s0_0 s0_1 s0_2) (hB : Below w0.heap.size w0 w) (h : spec_l1Cur_pick.f s0_0 s0_1 s0_2 a1 = some (r1, r2, r3)) :
  Calls Try.prog 19 #[.pointer (some ⟨g, 0, none⟩), .int .i64 a1] w fun e w' => e = .returned (.int .i64 r1) ∧ IsS46 w0 w' g s0_0 r2 r3 ∧ Below w0.heap.size w0 w' ∧ KeepBut w w' g none := by
 have HI0 := am_ hI
 have HK := am_ (KeepBut.refl w g none)
 have HL := am_ hB.size
 clear hI
 have HW0 := am_ hB.size
 have HB := am_ hB
 clear hB
 have H := h
 clear h
 unfold spec_l1Cur_pick.f at H
 by_cases c3 : a1 ≤ 1
 ·rw [if_pos c3] at H
  have c3b0 := decide_eq_true c3
  clear c3
  simp only [Option.some.injEq, Prod.mk.injEq] at H
  obtain ⟨rfl, rfl, rfl⟩ := H
  go_enter Try.func19, Try.ntmps19
  go_wp2
  go_ret
  exact ⟨Sh.eR, by repeat (first | (with_reducible first | exact HI0.out | apply IsS46.alloc | apply IsS46.drewN | apply IsS46.drew | apply IsS46.set_1 | apply IsS46.set_2) | exact HI0.out), by repeat (first | (with_reducible first | exact HB.out | apply below_alloc | apply pw_below_drewN | apply below_drew1 | refine below_set ?_ (IsS46.ge HI0.out)) | exact HB.out), by repeat (first | (with_reducible first | exact HK.out | apply KeepBut.set_ | apply keep_drewN | apply keep_drew | apply keep_alloc) | exact HK.out)⟩
 ·rw [if_neg c3] at H
  have c3b0 := decide_eq_false c3
  clear c3
  obtain ⟨⟨t102, t103, t104⟩, A40, H⟩ := Sh.bd H
  have A4 := am_ A40
  clear A40
  by_cases c5 : a1 > 200
  ·rw [if_pos c5] at H
   have c5b0 : decide (200 < a1) = true := decide_eq_true c5
   clear c5
   obtain ⟨⟨t105, t106, t107⟩, A60, H⟩ := Sh.bd H
   have A6 := am_ A60
   clear A60
   by_cases c7 : a1 = 0
   ·rw [if_pos c7] at H
    exact absurd H (by simp)
   ·rw [if_neg c7] at H
    have c7b0 : (a1 == 0) = false := beq_eq_false_iff_ne.mpr c7
    have c7b1 : (a1 != 0) = true := bne_iff_ne.mpr c7
    simp only [Option.some.injEq, Prod.mk.injEq] at H
    obtain ⟨rfl, rfl, rfl⟩ := H
    go_enter Try.func19, Try.ntmps19
    go_wp2_with (first | ((with_reducible refine Sh.k 33 ?_); refine Sh.gL (some 9) Try.func33 #[.pointer (some ⟨g, 0, none⟩)] (h := ?_); (with_reducible refine (spec_l1Cur_next.calls g s0_0 s0_1 s0_2 t102 t103 t104 w0 _ ?side1 ?side2 A4.out).mono ?_); (case side1 => repeat (first | (with_reducible first | exact HI0.out | apply IsS46.alloc | apply IsS46.drewN | apply IsS46.drew | apply IsS46.set_1 | apply IsS46.set_2) | exact HI0.out)); (case side2 => repeat (first | (with_reducible first | exact HB.out | apply below_alloc | apply pw_below_drewN | apply below_drew1 | refine below_set ?_ (IsS46.ge HI0.out)) | exact HB.out)); rintro e w8 ⟨rfl, hi, hb, hk⟩; refine ⟨_, rfl, ?_⟩; replace HK := am_ (KeepBut.trans (by repeat (first | (with_reducible first | exact HK.out | apply KeepBut.set_ | apply keep_drewN | apply keep_drew | apply keep_alloc) | exact HK.out)) hk (.inl rfl)); replace HB := am_ hb; replace HI0 := am_ hi; (try clear hb); (try clear hb2); (try clear hk); (try clear hi)) | ((with_reducible refine Sh.k 33 ?_); refine Sh.gL (some 15) Try.func33 #[.pointer (some ⟨g, 0, none⟩)] (h := ?_); (with_reducible refine (spec_l1Cur_next.calls g s0_0 t103 t104 t105 t106 t107 w0 _ ?side1 ?side2 A6.out).mono ?_); (case side1 => repeat (first | (with_reducible first | exact HI0.out | apply IsS46.alloc | apply IsS46.drewN | apply IsS46.drew | apply IsS46.set_1 | apply IsS46.set_2) | exact HI0.out)); (case side2 => repeat (first | (with_reducible first | exact HB.out | apply below_alloc | apply pw_below_drewN | apply below_drew1 | refine below_set ?_ (IsS46.ge HI0.out)) | exact HB.out)); rintro e w9 ⟨rfl, hi, hb, hk⟩; refine ⟨_, rfl, ?_⟩; replace HK := am_ (KeepBut.trans (by repeat (first | (with_reducible first | exact HK.out | apply KeepBut.set_ | apply keep_drewN | apply keep_drew | apply keep_alloc) | exact HK.out)) hk (.inl rfl)); replace HB := am_ hb; replace HI0 := am_ hi; (try clear hb); (try clear hb2); (try clear hk); (try clear hi)))
    go_ret
    exact ⟨Sh.eR, by repeat (first | (with_reducible first | exact HI0.out | apply IsS46.alloc | apply IsS46.drewN | apply IsS46.drew | apply IsS46.set_1 | apply IsS46.set_2) | exact HI0.out), by repeat (first | (with_reducible first | exact HB.out | apply below_alloc | apply pw_below_drewN | apply below_drew1 | refine below_set ?_ (IsS46.ge HI0.out)) | exact HB.out), by repeat (first | (with_reducible first | exact HK.out | apply KeepBut.set_ | apply keep_drewN | apply keep_drew | apply keep_alloc) | exact HK.out)⟩
  ·rw [if_neg c5] at H
   have c5b0 : decide (200 < a1) = false := decide_eq_false c5
   clear c5
   by_cases c10 : a1 = 0
   ·rw [if_pos c10] at H
    exact absurd H (by simp)
   ·rw [if_neg c10] at H
    have c10b0 : (a1 == 0) = false := beq_eq_false_iff_ne.mpr c10
    have c10b1 : (a1 != 0) = true := bne_iff_ne.mpr c10
    simp only [Option.some.injEq, Prod.mk.injEq] at H
    obtain ⟨rfl, rfl, rfl⟩ := H
    go_enter Try.func19, Try.ntmps19
    go_wp2_with (first | ((with_reducible refine Sh.k 33 ?_); refine Sh.gL (some 9) Try.func33 #[.pointer (some ⟨g, 0, none⟩)] (h := ?_); (with_reducible refine (spec_l1Cur_next.calls g s0_0 s0_1 s0_2 t102 t103 t104 w0 _ ?side1 ?side2 A4.out).mono ?_); (case side1 => repeat (first | (with_reducible first | exact HI0.out | apply IsS46.alloc | apply IsS46.drewN | apply IsS46.drew | apply IsS46.set_1 | apply IsS46.set_2) | exact HI0.out)); (case side2 => repeat (first | (with_reducible first | exact HB.out | apply below_alloc | apply pw_below_drewN | apply below_drew1 | refine below_set ?_ (IsS46.ge HI0.out)) | exact HB.out)); rintro e w11 ⟨rfl, hi, hb, hk⟩; refine ⟨_, rfl, ?_⟩; replace HK := am_ (KeepBut.trans (by repeat (first | (with_reducible first | exact HK.out | apply KeepBut.set_ | apply keep_drewN | apply keep_drew | apply keep_alloc) | exact HK.out)) hk (.inl rfl)); replace HB := am_ hb; replace HI0 := am_ hi; (try clear hb); (try clear hb2); (try clear hk); (try clear hi)))
    go_ret
    exact ⟨Sh.eR, by repeat (first | (with_reducible first | exact HI0.out | apply IsS46.alloc | apply IsS46.drewN | apply IsS46.drew | apply IsS46.set_1 | apply IsS46.set_2) | exact HI0.out), by repeat (first | (with_reducible first | exact HB.out | apply below_alloc | apply pw_below_drewN | apply below_drew1 | refine below_set ?_ (IsS46.ge HI0.out)) | exact HB.out), by repeat (first | (with_reducible first | exact HK.out | apply KeepBut.set_ | apply keep_drewN | apply keep_drew | apply keep_alloc) | exact HK.out)⟩
def spec_l1Cur_one.f (s0_0 : List Int) (s0_1 : Int) (s0_2 : Int) (a1 : Int) : Option (Bool × Int × Int) := (spec_l1Cur_pick.f s0_0 s0_1 s0_2 a1).bind fun bt108 => (some ((bt108.1 == 0), bt108.2.1, bt108.2.2))
theorem spec_l1Cur_one.calls (g : Nat) (s0_0 : List Int) (s0_1 : Int) (s0_2 : Int) (a1 : Int) (r1 : Bool) (r2 : Int) (r3 : Int) (w0 w : World) (hI : IsS46 w0 w g s0_0 s0_1 s0_2) (hB : Below w0.heap.size w0 w) (h : spec_l1Cur_one.f s0_0 s0_1 s0_2 a1 = some (r1, r2, r3)) :
  Calls Try.prog 32 #[.pointer (some ⟨g, 0, none⟩), .int .i64 a1] w fun e w' => e = .returned (.bool r1) ∧ IsS46 w0 w' g s0_0 r2 r3 ∧ Below w0.heap.size w0 w' ∧ KeepBut w w' g none := by
 have HI0 := am_ hI
 have HK := am_ (KeepBut.refl w g none)
 have HL := am_ hB.size
 clear hI
 have HW0 := am_ hB.size
 have HB := am_ hB
 clear hB
 have H := h
 clear h
 unfold spec_l1Cur_one.f at H
 obtain ⟨⟨t108, t109, t110⟩, A30, H⟩ := Sh.bd H
 have A3 := am_ A30
 clear A30
 simp only [Option.some.injEq, Prod.mk.injEq] at H
 obtain ⟨rfl, rfl, rfl⟩ := H
 go_enter Try.func32, Try.ntmps32
 go_wp2_with (first | ((with_reducible refine Sh.k 19 ?_); refine Sh.gL (some 7) Try.func19 #[.pointer (some ⟨g, 0, none⟩), .int .i64 a1] (h := ?_); (with_reducible refine (spec_l1Cur_pick.calls g s0_0 s0_1 s0_2 a1 t108 t109 t110 w0 _ ?side1 ?side2 A3.out).mono ?_); (case side1 => repeat (first | (with_reducible first | exact HI0.out | apply IsS46.alloc | apply IsS46.drewN | apply IsS46.drew | apply IsS46.set_1 | apply IsS46.set_2) | exact HI0.out)); (case side2 => repeat (first | (with_reducible first | exact HB.out | apply below_alloc | apply pw_below_drewN | apply below_drew1 | refine below_set ?_ (IsS46.ge HI0.out)) | exact HB.out)); rintro e w4 ⟨rfl, hi, hb, hk⟩; refine ⟨_, rfl, ?_⟩; replace HK := am_ (KeepBut.trans (by repeat (first | (with_reducible first | exact HK.out | apply KeepBut.set_ | apply keep_drewN | apply keep_drew | apply keep_alloc) | exact HK.out)) hk (.inl rfl)); replace HB := am_ hb; replace HI0 := am_ hi; (try clear hb); (try clear hb2); (try clear hk); (try clear hi)))
 go_ret
 exact ⟨Sh.eR, by repeat (first | (with_reducible first | exact HI0.out | apply IsS46.alloc | apply IsS46.drewN | apply IsS46.drew | apply IsS46.set_1 | apply IsS46.set_2) | exact HI0.out), by repeat (first | (with_reducible first | exact HB.out | apply below_alloc | apply pw_below_drewN | apply below_drew1 | refine below_set ?_ (IsS46.ge HI0.out)) | exact HB.out), by repeat (first | (with_reducible first | exact HK.out | apply KeepBut.set_ | apply keep_drewN | apply keep_drew | apply keep_alloc) | exact HK.out)⟩
def spec_l1Cur_among.f (s0_0 : List Int) (s0_1 : Int) (s0_2 : Int) (l1 : List Int) : Option (Int × Int × Int) := (spec_l1Cur_pick.f s0_0 s0_1 s0_2 (l1.length : Int)).bind fun bt111 => (if 0 ≤ bt111.1 then (if bt111.1 < (l1.length : Int) then (some (rd l1 bt111.1, bt111.2.1, bt111.2.2)) else (none)) else (none))
theorem spec_l1Cur_among.calls (g : Nat) (s0_0 : List Int) (s0_1 : Int) (s0_2 : Int) (A1 : Option Addr) (c1 : Nat) (l1 : List Int) (r1 : Int) (r2 : Int) (r3 : Int) (w0 w : World) (hI : IsS46 w0 w g s0_0 s0_1 s0_2) (hB : Below w0.heap.size w0 w) (hr1 : Kd.C (Kd.int .i64) w A1 l1.length l1) (hc1 : l1.length ≤ c1) (hf1 : ∀ ad, A1 = some ad → 0 < l1.length → ad.block ≠ g) (h : spec_l1Cur_among.f s0_0 s0_1 s0_2 l1 = some (r1, r2, r3)) :
  Calls Try.prog 36 #[.pointer (some ⟨g, 0, none⟩), .slice A1 l1.length c1] w fun e w' => e = .returned (.int .i64 r1) ∧ IsS46 w0 w' g s0_0 r2 r3 ∧ Below w0.heap.size w0 w' ∧ KeepBut w w' g none := by
 have HR1 := am_ hr1
 have HC1 := am_ hc1
 clear hr1 hc1
 have HI0 := am_ hI
 have HK := am_ (KeepBut.refl w g none)
 have HL := am_ hB.size
 clear hI
 have HW0 := am_ hB.size
 have HB := am_ hB
 clear hB
 have H := h
 clear h
 unfold spec_l1Cur_among.f at H
 obtain ⟨⟨t111, t112, t113⟩, A30, H⟩ := Sh.bd H
 have A3 := am_ A30
 clear A30
 by_cases c4 : 0 ≤ t111
 ·rw [if_pos c4] at H
  have c4b0 := decide_eq_true c4
  clear c4
  by_cases c5 : t111 < (l1.length : Int)
  ·rw [if_pos c5] at H
   have c5b0 := decide_eq_true c5
   clear c5
   simp only [Option.some.injEq, Prod.mk.injEq] at H
   obtain ⟨rfl, rfl, rfl⟩ := H
   go_enter Try.func36, Try.ntmps36
   go_wp2_with (first | ((with_reducible refine Sh.k 19 ?_); refine Sh.gL (some 9) Try.func19 #[.pointer (some ⟨g, 0, none⟩), .int .i64 (l1.length : Int)] (h := ?_); (with_reducible refine (spec_l1Cur_pick.calls g s0_0 s0_1 s0_2 (l1.length : Int) t111 t112 t113 w0 _ ?side1 ?side2 A3.out).mono ?_); (case side1 => repeat (first | (with_reducible first | exact HI0.out | apply IsS46.alloc | apply IsS46.drewN | apply IsS46.drew | apply IsS46.set_1 | apply IsS46.set_2) | exact HI0.out)); (case side2 => repeat (first | (with_reducible first | exact HB.out | apply below_alloc | apply pw_below_drewN | apply below_drew1 | refine below_set ?_ (IsS46.ge HI0.out)) | exact HB.out)); rintro e w6 ⟨rfl, hi, hb, hk⟩; refine ⟨_, rfl, ?_⟩; replace HK := am_ (KeepBut.trans (by repeat (first | (with_reducible first | exact HK.out | apply KeepBut.set_ | apply keep_drewN | apply keep_drew | apply keep_alloc) | exact HK.out)) hk (.inl rfl)); replace HB := am_ hb; replace HI0 := am_ hi; (try clear hb); (try clear hb2); (try clear hk); (try clear hi); have p114 : 0 ≤ (t111 : Int) := Sh.od; have q114 : t111 < (l1.length : Int) := Sh.od; obtain ⟨ad114, e114, hx114_0⟩ := Kd.at_int HR1.out t111 p114 q114; cases e114; replace hx114_0 := keep_cell HK.out hx114_0 (by first | (rw [add_block]; exact hf1 _ rfl (by omega)) | exact hf1 _ rfl (by omega) | exact hf1 ad114 rfl (by omega)); replace p114 := eq_true p114; replace q114 := eq_true q114))
   go_ret
   exact ⟨Sh.eR, by repeat (first | (with_reducible first | exact HI0.out | apply IsS46.alloc | apply IsS46.drewN | apply IsS46.drew | apply IsS46.set_1 | apply IsS46.set_2) | exact HI0.out), by repeat (first | (with_reducible first | exact HB.out | apply below_alloc | apply pw_below_drewN | apply below_drew1 | refine below_set ?_ (IsS46.ge HI0.out)) | exact HB.out), by repeat (first | (with_reducible first | exact HK.out | apply KeepBut.set_ | apply keep_drewN | apply keep_drew | apply keep_alloc) | exact HK.out)⟩
  ·rw [if_neg c5] at H
   exact absurd H (by simp)
 ·rw [if_neg c4] at H
  exact absurd H (by simp)
mutual
def spec_l1Cur_formula.j0 : Nat → Int → Bool → List Int → Int → Int → Option ((List (S35)) × Int × Int)
 | 0, _, _, _, _, _ => none
 | k + 1, x1, x11, x1000, x1001, x1002 => if x11 = true then ((spec_l1Cur_one.f x1000 x1001 x1002 12).bind fun bt118 => (if bt118.1 = true then ((spec_l1Cur_pick.f x1000 bt118.2.1 bt118.2.2 2).bind fun bt121 => (some ((([(⟨2, bt121.1⟩ : S35)] : List (S35))), bt121.2.1, bt121.2.2))) else ((spec_l1Cur_pick.f x1000 bt118.2.1 bt118.2.2 3).bind fun bt127 => (some ((([(⟨1, bt127.1⟩ : S35)] : List (S35))), bt127.2.1, bt127.2.2))))) else ((spec_l1Cur_one.f x1000 x1001 x1002 3).bind fun bt133 => (if bt133.1 = true then ((spec_l1Cur_formula.f k x1000 bt133.2.1 bt133.2.2 (wrap64 (x1 - 1))).bind fun bt136 => ((spec_l1Cur_among.f x1000 bt136.2.1 bt136.2.2 (([3, 3, 4] : List Int))).bind fun bt144 => (if bt136.1.length < 8796093022208 then (some ((bt136.1 ++ [(⟨bt144.1, 0⟩ : S35)]), bt144.2.1, bt144.2.2)) else (none)))) else ((spec_l1Cur_among.f x1000 bt133.2.1 bt133.2.2 (([5, 6, 7, 7, 8] : List Int))).bind fun bt153 => ((spec_l1Cur_formula.f k x1000 bt153.2.1 bt153.2.2 (wrap64 (x1 - 1))).bind fun bt156 => ((spec_l1Cur_formula.f k x1000 bt156.2.1 bt156.2.2 (wrap64 (x1 - 1))).bind fun bt161 => (if bt156.1.length + bt161.1.length < 8796093022208 then ((some (bt156.1 ++ bt161.1 : List (S35))).bind fun y166 => (if y166.length < 8796093022208 then (some ((y166 ++ [(⟨bt153.1, 0⟩ : S35)]), bt161.2.1, bt161.2.2)) else (none))) else (none)))))))
def spec_l1Cur_formula.f : Nat → List Int → Int → Int → Int → Option ((List (S35)) × Int × Int)
 | 0, _, _, _, _ => none
 | k + 1, s0_0, s0_1, s0_2, a1 => if a1 = 0 then (spec_l1Cur_formula.j0 k a1 true s0_0 s0_1 s0_2) else ((spec_l1Cur_one.f s0_0 s0_1 s0_2 6).bind fun bt115 => (spec_l1Cur_formula.j0 k a1 bt115.1 s0_0 bt115.2.1 bt115.2.2))
end
theorem spec_l1Cur_formula.mono_l : ∀ k, (∀ y0 y1 y2 y3, LeO (spec_l1Cur_formula.f k y0 y1 y2 y3) (spec_l1Cur_formula.f (k + 1) y0 y1 y2 y3)) ∧ (∀ y0 y1 y2 y3 y4, LeO (spec_l1Cur_formula.j0 k y0 y1 y2 y3 y4) (spec_l1Cur_formula.j0 (k + 1) y0 y1 y2 y3 y4))
 | 0 => ⟨fun _ _ _ _ r h => by simp [spec_l1Cur_formula.f] at h, fun _ _ _ _ _ r h => by simp [spec_l1Cur_formula.j0] at h⟩
 | k + 1 => by
  obtain ⟨ih0, ih1⟩ := spec_l1Cur_formula.mono_l k
  and_intros <;> intros
  all_goals (first | unfold spec_l1Cur_formula.f | unfold spec_l1Cur_formula.j0)
  all_goals repeat' with_reducible first | apply ih0 | apply ih1 | exact LeO.refl _ | exact LeO.none _ | apply LeO.ite | refine LeO.bind ?_ fun _ => ?_
theorem spec_l1Cur_formula.mono : ∀ a0 a1 a2 a3 k, LeO (spec_l1Cur_formula.f k a0 a1 a2 a3) (spec_l1Cur_formula.f (k + 1) a0 a1 a2 a3) := by
 intro a0 a1 a2 a3 k
 obtain ⟨ih0, ih1⟩ := spec_l1Cur_formula.mono_l k
 exact ih0 a0 a1 a2 a3
theorem spec_l1Cur_formula.calls (k : Nat) : ∀ (g : Nat) (s0_0 : List Int) (s0_1 : Int) (s0_2 : Int) (a1 : Int) (r1 : List (S35)) (r2 : Int) (r3 : Int) (w0 w : World) (hI : IsS46 w0 w g s0_0 s0_1 s0_2) (hB : Below w0.heap.size w0 w) (h : spec_l1Cur_formula.f k s0_0 s0_1 s0_2 a1 = some (r1, r2, r3)),
  Calls Try.prog 31 #[.pointer (some ⟨g, 0, none⟩), .int .i64 a1] w fun e w' => ∃ v0_ : Value, e = .returned (v0_) ∧ Kd.R k35 35 w' w.heap.size (fun _ => True) v0_ r1 ∧ IsS46 w0 w' g s0_0 r2 r3 ∧ Below w0.heap.size w0 w' ∧ KeepBut w w' g none := by
 induction k using Nat.strongRecOn with
 | _ k ih =>
 intro g s0_0 s0_1 s0_2 a1 r1 r2 r3 w0 w hI hB h
 cases k with
 | zero => exact absurd h (by simp [spec_l1Cur_formula.f])
 | succ k =>
 simp only [spec_l1Cur_formula.f] at h
 have hu35 := Try.underlying35
 have HI0 := am_ hI
 have HK := am_ (KeepBut.refl w g none)
 have HL := am_ hB.size
 clear hI
 have HW0 := am_ hB.size
 have HB := am_ hB
 clear hB
 have H : (if a1 = 0 then (spec_l1Cur_formula.j0 k a1 true s0_0 s0_1 s0_2) else ((spec_l1Cur_one.f s0_0 s0_1 s0_2 6).bind fun bt115 => (spec_l1Cur_formula.j0 k a1 bt115.1 s0_0 bt115.2.1 bt115.2.2))) = some (r1, r2, r3) := h
 clear h
 have HC3 := am_ H
 clear H
 go_enter Try.func31, Try.ntmps31
 go_upto_region 1 with (fail)
 go_cut [11] (fun v11 wc => ∃ (kq : Nat) (x11_2 : Bool) (x1001_2 : Int) (x1002_2 : Int), v11 = .bool x11_2 ∧ Aside0 (spec_l1Cur_formula.j0 kq a1 x11_2 s0_0 x1001_2 x1002_2 = some (r1, r2, r3)) ∧ Aside0 (kq ≤ k) ∧ Aside0 (IsS46 w0 wc g s0_0 x1001_2 x1002_2) ∧ Aside0 (KeepBut w wc g none) ∧ Aside0 (Below w0.heap.size w0 wc))
 case first =>
  have H := HC3.out
  clear HC3
  by_cases c4 : a1 = 0
  ·rw [if_pos c4] at H
   have c4b0 : (a1 == 0) = true := beq_iff_eq.mpr c4
   have c4b1 : (a1 != 0) = false := bne_eq_false_iff_eq.mpr c4
   clear c4
   first | rw [c4b0] | (simp only [i64_w, i32_w]; rw [c4b0]) | skip
   have H' := am_ H
   clear H
   go_wp2
   go_meet
   case rel => exact ⟨_, (true), (s0_1), (s0_2), (Sh.es), H', ⟨Sh.om⟩, ⟨by repeat (first | (with_reducible first | exact HI0.out | apply IsS46.alloc | apply IsS46.drewN | apply IsS46.drew | apply IsS46.set_1 | apply IsS46.set_2) | exact HI0.out)⟩, ⟨by repeat (first | (with_reducible first | exact HK.out | apply KeepBut.set_ | apply keep_drewN | apply keep_drew | apply keep_alloc) | exact HK.out)⟩, ⟨by repeat (first | (with_reducible first | exact HB.out | apply below_alloc | apply pw_below_drewN | apply below_drew1 | refine below_set ?_ (IsS46.ge HI0.out)) | exact HB.out)⟩⟩
  ·rw [if_neg c4] at H
   have c4b0 : (a1 == 0) = false := beq_eq_false_iff_ne.mpr c4
   have c4b1 : (a1 != 0) = true := bne_iff_ne.mpr c4
   first | rw [c4b0] | (simp only [i64_w, i32_w]; rw [c4b0]) | skip
   obtain ⟨⟨t115, t116, t117⟩, A50, H⟩ := Sh.bd H
   have A5 := am_ A50
   clear A50
   have H' := am_ H
   clear H
   go_wp2_with (first | (go_at_call 32; (with_reducible refine (spec_l1Cur_one.calls g s0_0 s0_1 s0_2 6 t115 t116 t117 w0 _ ?side1 ?side2 A5.out).mono ?_); (case side1 => repeat (first | (with_reducible first | exact HI0.out | apply IsS46.alloc | apply IsS46.drewN | apply IsS46.drew | apply IsS46.set_1 | apply IsS46.set_2) | exact HI0.out)); (case side2 => repeat (first | (with_reducible first | exact HB.out | apply below_alloc | apply pw_below_drewN | apply below_drew1 | refine below_set ?_ (IsS46.ge HI0.out)) | exact HB.out)); rintro e w6 ⟨rfl, hi, hb, hk⟩; replace HK := am_ (KeepBut.trans (by repeat (first | (with_reducible first | exact HK.out | apply KeepBut.set_ | apply keep_drewN | apply keep_drew | apply keep_alloc) | exact HK.out)) hk (.inl rfl)); replace HB := am_ hb; replace HI0 := am_ hi; (try clear hb); (try clear hb2); (try clear hk); (try clear hi)))
   go_meet
   case rel => exact ⟨_, (t115), (t116), (t117), (Sh.es), H', ⟨Sh.om⟩, ⟨by repeat (first | (with_reducible first | exact HI0.out | apply IsS46.alloc | apply IsS46.drewN | apply IsS46.drew | apply IsS46.set_1 | apply IsS46.set_2) | exact HI0.out)⟩, ⟨by repeat (first | (with_reducible first | exact HK.out | apply KeepBut.set_ | apply keep_drewN | apply keep_drew | apply keep_alloc) | exact HK.out)⟩, ⟨by repeat (first | (with_reducible first | exact HB.out | apply below_alloc | apply pw_below_drewN | apply below_drew1 | refine below_set ?_ (IsS46.ge HI0.out)) | exact HB.out)⟩⟩
 case rest =>
  clear HC3
  obtain ⟨kq, x11_2, x1001_2, x1002_2, rfl, HA, HJ2, HI0, HK, HB⟩ := hcut
  cases kq with
  | zero => exact absurd HA.out (by simp [spec_l1Cur_formula.j0])
  | succ kj2 =>
   have H := HA.out
   clear HA
   simp only [spec_l1Cur_formula.j0] at H
   by_cases c7 : x11_2 = true
   ·subst c7
    rw [if_pos rfl] at H
    obtain ⟨⟨t118, t119, t120⟩, A80, H⟩ := Sh.bd H
    have A8 := am_ A80
    clear A80
    by_cases c9 : t118 = true
    ·subst c9
     rw [if_pos rfl] at H
     obtain ⟨⟨t121, t122, t123⟩, A100, H⟩ := Sh.bd H
     have A10 := am_ A100
     clear A100
     obtain ⟨y124, hy124⟩ : ∃ y_ : List (S35), y_ = (([(⟨2, t121⟩ : S35)] : List (S35))) := ⟨_, rfl⟩
     replace H : (some (y124, t122, t123)) = some (r1, r2, r3) := by first | (rw [hy124]; with_reducible exact H) | (have H2_ := (Option.bind_some _ _).symm.trans H; rw [hy124]; with_reducible exact H2_) | (have H2_ := (Option.bind_some _ _).symm.trans H; with_reducible exact H2_) | with_reducible exact H | (rw [hy124]; exact H) | exact H
     have Ny124 := am_ hy124
     clear hy124
     simp only [Option.some.injEq, Prod.mk.injEq] at H
     obtain ⟨rfl, rfl, rfl⟩ := H
     go_wp2_with (first | ((with_reducible refine Sh.k 32 ?_); refine Sh.gL (some 13) Try.func32 #[.pointer (some ⟨g, 0, none⟩), .int .i64 12] (h := ?_); (with_reducible refine (spec_l1Cur_one.calls g s0_0 x1001_2 x1002_2 12 true t119 t120 w0 _ ?side1 ?side2 A8.out).mono ?_); (case side1 => repeat (first | (with_reducible first | exact HI0.out | apply IsS46.alloc | apply IsS46.drewN | apply IsS46.drew | apply IsS46.set_1 | apply IsS46.set_2) | exact HI0.out)); (case side2 => repeat (first | (with_reducible first | exact HB.out | apply below_alloc | apply pw_below_drewN | apply below_drew1 | refine below_set ?_ (IsS46.ge HI0.out)) | exact HB.out)); rintro e w11 ⟨rfl, hi, hb, hk⟩; refine ⟨_, rfl, ?_⟩; replace HK := am_ (KeepBut.trans (by repeat (first | (with_reducible first | exact HK.out | apply KeepBut.set_ | apply keep_drewN | apply keep_drew | apply keep_alloc) | exact HK.out)) hk (.inl rfl)); replace HB := am_ hb; replace HI0 := am_ hi; (try clear hb); (try clear hb2); (try clear hk); (try clear hi)) | ((with_reducible refine Sh.k 19 ?_); refine Sh.gL (some 15) Try.func19 #[.pointer (some ⟨g, 0, none⟩), .int .i64 2] (h := ?_); (with_reducible refine (spec_l1Cur_pick.calls g s0_0 t119 t120 2 t121 t122 t123 w0 _ ?side1 ?side2 A10.out).mono ?_); (case side1 => repeat (first | (with_reducible first | exact HI0.out | apply IsS46.alloc | apply IsS46.drewN | apply IsS46.drew | apply IsS46.set_1 | apply IsS46.set_2) | exact HI0.out)); (case side2 => repeat (first | (with_reducible first | exact HB.out | apply below_alloc | apply pw_below_drewN | apply below_drew1 | refine below_set ?_ (IsS46.ge HI0.out)) | exact HB.out)); rintro e w12 ⟨rfl, hi, hb, hk⟩; refine ⟨_, rfl, ?_⟩; replace HK := am_ (KeepBut.trans (by repeat (first | (with_reducible first | exact HK.out | apply KeepBut.set_ | apply keep_drewN | apply keep_drew | apply keep_alloc) | exact HK.out)) hk (.inl rfl)); replace HB := am_ hb; replace HI0 := am_ hi; (try clear hb); (try clear hb2); (try clear hk); (try clear hi)) | ((with_reducible refine Sh.d 17 ?_); refine Kd.R_lit k35 _ 35 ?hg (N := 17) ?hd (xs := ([(⟨2, t121⟩ : S35)] : List (S35))) (inner := [.int .i64 2, .int .i64 t121]) (ok := fun _ => True) (okp := fun _ => True) ?hr ?hp (fun _ hk => hk) trivial (Below.refl _ _) (Nat.le_refl _) (by simp) ?_; (case hd => rfl); (case hg => rfl); (case hr => first | (go_simp; done) | (go_simp; rfl)); (case hp => exact (Reps.c2 (show Kd.M k35 _ _ _ (⟨2, t121⟩ : S35) [.int .i64 2, .int .i64 t121] from (k35_mkM _ _ _ (⟨2, t121⟩ : S35) )) (Reps.none _ _))); intro v125 w13 ho14 hb hg_ hnew_; clear hg_ hnew_; (first | rw [← Ny124.out] at ho14 | (simp only [Int.reduceToNat] at ho14; rw [← Ny124.out] at ho14)); have HO126 := am_ (Kd.R_lower ho14 (keep_size (w := w) (g := g) (row := none) (by repeat (first | (with_reducible first | exact HK.out | apply KeepBut.set_ | apply keep_drewN | apply keep_drew | apply keep_alloc) | exact HK.out)))); replace HK := am_ (KeepBut.trans (by repeat (first | (with_reducible first | exact HK.out | apply KeepBut.set_ | apply keep_drewN | apply keep_drew | apply keep_alloc) | exact HK.out)) (KeepBut.of_below hb g none) (.inl rfl)); replace HB := am_ (below_step (by repeat (first | (with_reducible first | exact HB.out | apply below_alloc | apply pw_below_drewN | apply below_drew1 | refine below_set ?_ (IsS46.ge HI0.out)) | exact HB.out)) hb); replace HI0 := am_ (IsS46.below (by repeat (first | (with_reducible first | exact HI0.out | apply IsS46.alloc | apply IsS46.drewN | apply IsS46.drew | apply IsS46.set_1 | apply IsS46.set_2) | exact HI0.out)) hb); clear hb ho14))
     go_ret
     exact ⟨_, Sh.eR, Sh.rl HO126.out, by repeat (first | (with_reducible first | exact HI0.out | apply IsS46.alloc | apply IsS46.drewN | apply IsS46.drew | apply IsS46.set_1 | apply IsS46.set_2) | exact HI0.out), by repeat (first | (with_reducible first | exact HB.out | apply below_alloc | apply pw_below_drewN | apply below_drew1 | refine below_set ?_ (IsS46.ge HI0.out)) | exact HB.out), by repeat (first | (with_reducible first | exact HK.out | apply KeepBut.set_ | apply keep_drewN | apply keep_drew | apply keep_alloc) | exact HK.out)⟩
    ·replace c9 := Bool.eq_false_iff.mpr c9
     subst c9
     rw [Sh.nf] at H
     obtain ⟨⟨t127, t128, t129⟩, A150, H⟩ := Sh.bd H
     have A15 := am_ A150
     clear A150
     obtain ⟨y130, hy130⟩ : ∃ y_ : List (S35), y_ = (([(⟨1, t127⟩ : S35)] : List (S35))) := ⟨_, rfl⟩
     replace H : (some (y130, t128, t129)) = some (r1, r2, r3) := by first | (rw [hy130]; with_reducible exact H) | (have H2_ := (Option.bind_some _ _).symm.trans H; rw [hy130]; with_reducible exact H2_) | (have H2_ := (Option.bind_some _ _).symm.trans H; with_reducible exact H2_) | with_reducible exact H | (rw [hy130]; exact H) | exact H
     have Ny130 := am_ hy130
     clear hy130
     simp only [Option.some.injEq, Prod.mk.injEq] at H
     obtain ⟨rfl, rfl, rfl⟩ := H
     go_wp2_with (first | ((with_reducible refine Sh.k 32 ?_); refine Sh.gL (some 13) Try.func32 #[.pointer (some ⟨g, 0, none⟩), .int .i64 12] (h := ?_); (with_reducible refine (spec_l1Cur_one.calls g s0_0 x1001_2 x1002_2 12 false t119 t120 w0 _ ?side1 ?side2 A8.out).mono ?_); (case side1 => repeat (first | (with_reducible first | exact HI0.out | apply IsS46.alloc | apply IsS46.drewN | apply IsS46.drew | apply IsS46.set_1 | apply IsS46.set_2) | exact HI0.out)); (case side2 => repeat (first | (with_reducible first | exact HB.out | apply below_alloc | apply pw_below_drewN | apply below_drew1 | refine below_set ?_ (IsS46.ge HI0.out)) | exact HB.out)); rintro e w16 ⟨rfl, hi, hb, hk⟩; refine ⟨_, rfl, ?_⟩; replace HK := am_ (KeepBut.trans (by repeat (first | (with_reducible first | exact HK.out | apply KeepBut.set_ | apply keep_drewN | apply keep_drew | apply keep_alloc) | exact HK.out)) hk (.inl rfl)); replace HB := am_ hb; replace HI0 := am_ hi; (try clear hb); (try clear hb2); (try clear hk); (try clear hi)) | ((with_reducible refine Sh.k 19 ?_); refine Sh.gL (some 19) Try.func19 #[.pointer (some ⟨g, 0, none⟩), .int .i64 3] (h := ?_); (with_reducible refine (spec_l1Cur_pick.calls g s0_0 t119 t120 3 t127 t128 t129 w0 _ ?side1 ?side2 A15.out).mono ?_); (case side1 => repeat (first | (with_reducible first | exact HI0.out | apply IsS46.alloc | apply IsS46.drewN | apply IsS46.drew | apply IsS46.set_1 | apply IsS46.set_2) | exact HI0.out)); (case side2 => repeat (first | (with_reducible first | exact HB.out | apply below_alloc | apply pw_below_drewN | apply below_drew1 | refine below_set ?_ (IsS46.ge HI0.out)) | exact HB.out)); rintro e w17 ⟨rfl, hi, hb, hk⟩; refine ⟨_, rfl, ?_⟩; replace HK := am_ (KeepBut.trans (by repeat (first | (with_reducible first | exact HK.out | apply KeepBut.set_ | apply keep_drewN | apply keep_drew | apply keep_alloc) | exact HK.out)) hk (.inl rfl)); replace HB := am_ hb; replace HI0 := am_ hi; (try clear hb); (try clear hb2); (try clear hk); (try clear hi)) | ((with_reducible refine Sh.d 21 ?_); refine Kd.R_lit k35 _ 35 ?hg (N := 21) ?hd (xs := ([(⟨1, t127⟩ : S35)] : List (S35))) (inner := [.int .i64 1, .int .i64 t127]) (ok := fun _ => True) (okp := fun _ => True) ?hr ?hp (fun _ hk => hk) trivial (Below.refl _ _) (Nat.le_refl _) (by simp) ?_; (case hd => rfl); (case hg => rfl); (case hr => first | (go_simp; done) | (go_simp; rfl)); (case hp => exact (Reps.c2 (show Kd.M k35 _ _ _ (⟨1, t127⟩ : S35) [.int .i64 1, .int .i64 t127] from (k35_mkM _ _ _ (⟨1, t127⟩ : S35) )) (Reps.none _ _))); intro v131 w18 ho19 hb hg_ hnew_; clear hg_ hnew_; (first | rw [← Ny130.out] at ho19 | (simp only [Int.reduceToNat] at ho19; rw [← Ny130.out] at ho19)); have HO132 := am_ (Kd.R_lower ho19 (keep_size (w := w) (g := g) (row := none) (by repeat (first | (with_reducible first | exact HK.out | apply KeepBut.set_ | apply keep_drewN | apply keep_drew | apply keep_alloc) | exact HK.out)))); replace HK := am_ (KeepBut.trans (by repeat (first | (with_reducible first | exact HK.out | apply KeepBut.set_ | apply keep_drewN | apply keep_drew | apply keep_alloc) | exact HK.out)) (KeepBut.of_below hb g none) (.inl rfl)); replace HB := am_ (below_step (by repeat (first | (with_reducible first | exact HB.out | apply below_alloc | apply pw_below_drewN | apply below_drew1 | refine below_set ?_ (IsS46.ge HI0.out)) | exact HB.out)) hb); replace HI0 := am_ (IsS46.below (by repeat (first | (with_reducible first | exact HI0.out | apply IsS46.alloc | apply IsS46.drewN | apply IsS46.drew | apply IsS46.set_1 | apply IsS46.set_2) | exact HI0.out)) hb); clear hb ho19))
     go_ret
     exact ⟨_, Sh.eR, Sh.rl HO132.out, by repeat (first | (with_reducible first | exact HI0.out | apply IsS46.alloc | apply IsS46.drewN | apply IsS46.drew | apply IsS46.set_1 | apply IsS46.set_2) | exact HI0.out), by repeat (first | (with_reducible first | exact HB.out | apply below_alloc | apply pw_below_drewN | apply below_drew1 | refine below_set ?_ (IsS46.ge HI0.out)) | exact HB.out), by repeat (first | (with_reducible first | exact HK.out | apply KeepBut.set_ | apply keep_drewN | apply keep_drew | apply keep_alloc) | exact HK.out)⟩
   ·replace c7 := Bool.eq_false_iff.mpr c7
    subst c7
    rw [Sh.nf] at H
    obtain ⟨⟨t133, t134, t135⟩, A200, H⟩ := Sh.bd H
    have A20 := am_ A200
    clear A200
    by_cases c21 : t133 = true
    ·subst c21
     rw [if_pos rfl] at H
     obtain ⟨⟨t136, t139, t140⟩, A220, H⟩ := Sh.bd H
     have A22 := am_ A220
     clear A220
     obtain ⟨y141, hy141⟩ : ∃ y_ : List Int, y_ = (([3, 3, 4] : List Int)) := ⟨_, rfl⟩
     replace H : ((spec_l1Cur_among.f s0_0 t139 t140 y141).bind fun bt144 => (if t136.length < 8796093022208 then (some ((t136 ++ [(⟨bt144.1, 0⟩ : S35)]), bt144.2.1, bt144.2.2)) else (none))) = some (r1, r2, r3) := by first | (rw [hy141]; with_reducible exact H) | (have H2_ := (Option.bind_some _ _).symm.trans H; rw [hy141]; with_reducible exact H2_) | (have H2_ := (Option.bind_some _ _).symm.trans H; with_reducible exact H2_) | with_reducible exact H | (rw [hy141]; exact H) | exact H
     have Ny141 := am_ hy141
     clear hy141
     obtain ⟨⟨t144, t145, t146⟩, A230, H⟩ := Sh.bd H
     have A23 := am_ A230
     clear A230
     by_cases c24 : t136.length < 8796093022208
     ·rw [if_pos c24] at H
      have LMc24 := am_ c24
      clear c24
      obtain ⟨y147, hy147⟩ : ∃ y_ : List (S35), y_ = (t136 ++ [(⟨t144, 0⟩ : S35)]) := ⟨_, rfl⟩
      replace H : (some (y147, t145, t146)) = some (r1, r2, r3) := by first | (rw [hy147]; with_reducible exact H) | (have H2_ := (Option.bind_some _ _).symm.trans H; rw [hy147]; with_reducible exact H2_) | (have H2_ := (Option.bind_some _ _).symm.trans H; with_reducible exact H2_) | with_reducible exact H | (rw [hy147]; exact H) | exact H
      have Ny147 := am_ hy147
      clear hy147
      simp only [Option.some.injEq, Prod.mk.injEq] at H
      obtain ⟨rfl, rfl, rfl⟩ := H
      go_wp2_with (first | ((with_reducible refine Sh.k 32 ?_); refine Sh.gL (some 23) Try.func32 #[.pointer (some ⟨g, 0, none⟩), .int .i64 3] (h := ?_); (with_reducible refine (spec_l1Cur_one.calls g s0_0 x1001_2 x1002_2 3 true t134 t135 w0 _ ?side1 ?side2 A20.out).mono ?_); (case side1 => repeat (first | (with_reducible first | exact HI0.out | apply IsS46.alloc | apply IsS46.drewN | apply IsS46.drew | apply IsS46.set_1 | apply IsS46.set_2) | exact HI0.out)); (case side2 => repeat (first | (with_reducible first | exact HB.out | apply below_alloc | apply pw_below_drewN | apply below_drew1 | refine below_set ?_ (IsS46.ge HI0.out)) | exact HB.out)); rintro e w25 ⟨rfl, hi, hb, hk⟩; refine ⟨_, rfl, ?_⟩; replace HK := am_ (KeepBut.trans (by repeat (first | (with_reducible first | exact HK.out | apply KeepBut.set_ | apply keep_drewN | apply keep_drew | apply keep_alloc) | exact HK.out)) hk (.inl rfl)); replace HB := am_ hb; replace HI0 := am_ hi; (try clear hb); (try clear hb2); (try clear hk); (try clear hi)) | ((with_reducible refine Sh.k 31 ?_); refine Sh.gL (some 27) Try.func31 #[.pointer (some ⟨g, 0, none⟩), .int .i64 (wrap64 (a1 - 1))] (h := ?_); (with_reducible refine (ih kj2 (by have := HJ2.out; omega) g s0_0 t134 t135 (wrap64 (a1 - 1)) t136 t139 t140 w0 _ ?side1 ?side2 A22.out).mono ?_); (case side1 => repeat (first | (with_reducible first | exact HI0.out | apply IsS46.alloc | apply IsS46.drewN | apply IsS46.drew | apply IsS46.set_1 | apply IsS46.set_2) | exact HI0.out)); (case side2 => repeat (first | (with_reducible first | exact HB.out | apply below_alloc | apply pw_below_drewN | apply below_drew1 | refine below_set ?_ (IsS46.ge HI0.out)) | exact HB.out)); rintro e w26 ⟨v137, rfl, ho0, hi, hb, hk⟩; refine ⟨_, rfl, ?_⟩; have HO138 := am_ (Kd.R_lower ho0 (keep_size (w := w) (g := g) (row := none) (by repeat (first | (with_reducible first | exact HK.out | apply KeepBut.set_ | apply keep_drewN | apply keep_drew | apply keep_alloc) | exact HK.out)))); replace HK := am_ (KeepBut.trans (by repeat (first | (with_reducible first | exact HK.out | apply KeepBut.set_ | apply keep_drewN | apply keep_drew | apply keep_alloc) | exact HK.out)) hk (.inl rfl)); replace HB := am_ hb; replace HI0 := am_ hi; (try clear hb); (try clear hb2); (try clear hk); (try clear hi); (try clear ho0)) | ((with_reducible refine Sh.d 29 ?_); refine Kd.R_lit (Kd.int .i64) _ 3 ?hg (N := 29) ?hd (xs := ([3, 3, 4] : List Int)) (inner := [.int .i64 3, .int .i64 3, .int .i64 4]) (ok := fun _ => True) (okp := fun _ => True) ?hr ?hp (fun _ hk => hk) trivial (Below.refl _ _) (Nat.le_refl _) (by simp) ?_; (case hd => rfl); (case hg => rfl); (case hr => first | (go_simp; done) | (go_simp; rfl)); (case hp => exact (Reps.one (show Kd.M (Kd.int .i64) _ _ _ 3 [.int .i64 3] from rfl) (Reps.one (show Kd.M (Kd.int .i64) _ _ _ 3 [.int .i64 3] from rfl) (Reps.one (show Kd.M (Kd.int .i64) _ _ _ 4 [.int .i64 4] from rfl) (Reps.none _ _))))); intro v142 w27 ho28 hb hg_ hnew_; clear hg_ hnew_; (first | rw [← Ny141.out] at ho28 | (simp only [Int.reduceToNat] at ho28; rw [← Ny141.out] at ho28)); replace HO138 := am_ (Kd.R_below (Sh.rl HO138.out) hb); have HO143 := am_ (Kd.R_lower ho28 (keep_size (w := w) (g := g) (row := none) (by repeat (first | (with_reducible first | exact HK.out | apply KeepBut.set_ | apply keep_drewN | apply keep_drew | apply keep_alloc) | exact HK.out)))); replace HK := am_ (KeepBut.trans (by repeat (first | (with_reducible first | exact HK.out | apply KeepBut.set_ | apply keep_drewN | apply keep_drew | apply keep_alloc) | exact HK.out)) (KeepBut.of_below hb g none) (.inl rfl)); replace HB := am_ (below_step (by repeat (first | (with_reducible first | exact HB.out | apply below_alloc | apply pw_below_drewN | apply below_drew1 | refine below_set ?_ (IsS46.ge HI0.out)) | exact HB.out)) hb); replace HI0 := am_ (IsS46.below (by repeat (first | (with_reducible first | exact HI0.out | apply IsS46.alloc | apply IsS46.drewN | apply IsS46.drew | apply IsS46.set_1 | apply IsS46.set_2) | exact HI0.out)) hb); clear hb ho28; obtain ⟨Ao29, co29, eo29⟩ := Kd.R_slice HO143.out; subst eo29) | ((with_reducible refine Sh.k 36 ?_); refine Sh.gL (some 30) Try.func36 #[.pointer (some ⟨g, 0, none⟩), .slice Ao29 y141.length co29] (h := ?_); (with_reducible refine (spec_l1Cur_among.calls g s0_0 t139 t140 _ _ y141 t144 t145 t146 w0 _ ?side1 ?side2 ?side3 ?side4 ?side5 A23.out).mono ?_); (case side1 => repeat (first | (with_reducible first | exact HI0.out | apply IsS46.alloc | apply IsS46.drewN | apply IsS46.drew | apply IsS46.set_1 | apply IsS46.set_2) | exact HI0.out)); (case side2 => repeat (first | (with_reducible first | exact HB.out | apply below_alloc | apply pw_below_drewN | apply below_drew1 | refine below_set ?_ (IsS46.ge HI0.out)) | exact HB.out)); (case side3 => repeat (first | exact (Kd.R_reads' HO143.out).2.2 | (with_reducible first | refine Kd.C_alloc ?_ _ | refine Kd.C_drewN ?_ _ | refine Kd.C_drew ?_))); (case side4 => exact (Kd.R_reads' HO143.out).2.1); (case side5 => exact far_slice (IsS46.own_ne HI0.out HO143.out (by decide))); rintro e w30 ⟨rfl, hi, hb, hk⟩; refine ⟨_, rfl, ?_⟩; replace HO138 := am_ (Kd.R_mono (Kd.R_keep (IsS46.apart (show IsS46 w0 _ g s0_0 t139 t140 from by repeat (first | (with_reducible first | exact HI0.out | apply IsS46.alloc | apply IsS46.drewN | apply IsS46.drew | apply IsS46.set_1 | apply IsS46.set_2) | exact HI0.out)) (Sh.rl HO138.out) (by decide)) hk (fun _ h => h.2)) (fun _ h => h.1)); replace HO143 := am_ (Kd.R_mono (Kd.R_keep (IsS46.apart (show IsS46 w0 _ g s0_0 t139 t140 from by repeat (first | (with_reducible first | exact HI0.out | apply IsS46.alloc | apply IsS46.drewN | apply IsS46.drew | apply IsS46.set_1 | apply IsS46.set_2) | exact HI0.out)) (Sh.rl HO143.out) (by decide)) hk (fun _ h => h.2)) (fun _ h => h.1)); replace HK := am_ (KeepBut.trans (by repeat (first | (with_reducible first | exact HK.out | apply KeepBut.set_ | apply keep_drewN | apply keep_drew | apply keep_alloc) | exact HK.out)) hk (.inl rfl)); replace HB := am_ hb; replace HI0 := am_ hi; (try clear hb); (try clear hb2); (try clear hk); (try clear hi)) | ((with_reducible refine gate_builtin (b := .append) (xs := #[.tmp 27, .tmp 32]) rfl ?_); at_builtin; refine Kd.R_append k35 w.heap.size rfl (.tmp 27) (.tmp 32) 24 35 (.agg #[(.int .i64 0), (.int .i64 0)]) 16 rfl Try.underlying24 info35 rfl (by decide) (by omega) v137 t136 (⟨t144, 0⟩ : S35) [.int .i64 t144, .int .i64 0] (fun _ => True) (fun _ => False) rfl rfl ?aP (fun _ hk => hk.elim) ?aF ?aO (Below.refl _ _) ?aS ?aL ?_; (case aP => exact k35_mkM _ _ _ (⟨t144, 0⟩ : S35)); (case aF => exact (fun _ _ => trivial)); (case aO => exact (Sh.rl HO138.out)); (case aS => exact (keep_size (w := w) (g := g) (row := none) (by repeat (first | (with_reducible first | exact HK.out | apply KeepBut.set_ | apply keep_drewN | apply keep_drew | apply keep_alloc) | exact HK.out)))); (case aL => have := LMc24.out; omega); intro v148 w31 ho hb hg hat; rw [← Ny147.out] at ho; have n0_ := am_ (IsS46.grown (by repeat (first | (with_reducible first | exact HI0.out | apply IsS46.alloc | apply IsS46.drewN | apply IsS46.drew | apply IsS46.set_1 | apply IsS46.set_2) | exact HI0.out)) hg (IsS46.own_ne HI0.out HO138.out (by decide))); have n1_ := am_ (Kd.R_over' (Sh.rl HO143.out) (Kd.R_typed (Sh.rl HO138.out)) (by decide) hg); have n2_ := am_ (below_weaken (by repeat (first | (with_reducible first | exact HB.out | apply below_alloc | apply pw_below_drewN | apply below_drew1 | refine below_set ?_ (IsS46.ge HI0.out)) | exact HB.out)) HL.out hb); have n3_ := am_ (KeepBut.trans (by repeat (first | (with_reducible first | exact HK.out | apply KeepBut.set_ | apply keep_drewN | apply keep_drew | apply keep_alloc) | exact HK.out)) (KeepBut.of_grown hg g) (Kd.R_base2 HO138.out)); have n4_ := am_ ho; clear HI0; clear HO143; clear HB; clear HK; clear HO138; have HI0 := n0_; have HO143 := n1_; have HB := n2_; have HK := n3_; have HO149 := n4_; clear n0_ n1_ n2_ n3_ n4_; clear ho hb hg hat))
      go_ret
      exact ⟨_, Sh.eR, Sh.rl HO149.out, by repeat (first | (with_reducible first | exact HI0.out | apply IsS46.alloc | apply IsS46.drewN | apply IsS46.drew | apply IsS46.set_1 | apply IsS46.set_2) | exact HI0.out), by repeat (first | (with_reducible first | exact HB.out | apply below_alloc | apply pw_below_drewN | apply below_drew1 | refine below_set ?_ (IsS46.ge HI0.out)) | exact HB.out), by repeat (first | (with_reducible first | exact HK.out | apply KeepBut.set_ | apply keep_drewN | apply keep_drew | apply keep_alloc) | exact HK.out)⟩
     ·rw [if_neg c24] at H
      exact absurd H (by simp)
    ·replace c21 := Bool.eq_false_iff.mpr c21
     subst c21
     rw [Sh.nf] at H
     obtain ⟨y150, hy150⟩ : ∃ y_ : List Int, y_ = (([5, 6, 7, 7, 8] : List Int)) := ⟨_, rfl⟩
     replace H : ((spec_l1Cur_among.f s0_0 t134 t135 y150).bind fun bt153 => ((spec_l1Cur_formula.f kj2 s0_0 bt153.2.1 bt153.2.2 (wrap64 (a1 - 1))).bind fun bt156 => ((spec_l1Cur_formula.f kj2 s0_0 bt156.2.1 bt156.2.2 (wrap64 (a1 - 1))).bind fun bt161 => (if bt156.1.length + bt161.1.length < 8796093022208 then ((some (bt156.1 ++ bt161.1 : List (S35))).bind fun y166 => (if y166.length < 8796093022208 then (some ((y166 ++ [(⟨bt153.1, 0⟩ : S35)]), bt161.2.1, bt161.2.2)) else (none))) else (none))))) = some (r1, r2, r3) := by first | (rw [hy150]; with_reducible exact H) | (have H2_ := (Option.bind_some _ _).symm.trans H; rw [hy150]; with_reducible exact H2_) | (have H2_ := (Option.bind_some _ _).symm.trans H; with_reducible exact H2_) | with_reducible exact H | (rw [hy150]; exact H) | exact H
     have Ny150 := am_ hy150
     clear hy150
     obtain ⟨⟨t153, t154, t155⟩, A320, H⟩ := Sh.bd H
     have A32 := am_ A320
     clear A320
     obtain ⟨⟨t156, t159, t160⟩, A330, H⟩ := Sh.bd H
     have A33 := am_ A330
     clear A330
     obtain ⟨⟨t161, t164, t165⟩, A340, H⟩ := Sh.bd H
     have A34 := am_ A340
     clear A340
     by_cases c35 : t156.length + t161.length < 8796093022208
     ·rw [if_pos c35] at H
      have LMc35 := am_ c35
      clear c35
      obtain ⟨y166, hy166⟩ : ∃ y_ : List (S35), y_ = (t156 ++ t161) := ⟨_, rfl⟩
      replace H : (if y166.length < 8796093022208 then (some ((y166 ++ [(⟨t153, 0⟩ : S35)]), t164, t165)) else (none)) = some (r1, r2, r3) := by first | (rw [hy166]; with_reducible exact H) | (have H2_ := (Option.bind_some _ _).symm.trans H; rw [hy166]; with_reducible exact H2_) | (have H2_ := (Option.bind_some _ _).symm.trans H; with_reducible exact H2_) | with_reducible exact H | (rw [hy166]; exact H) | exact H
      have Ny166 := am_ hy166
      clear hy166
      by_cases c36 : y166.length < 8796093022208
      ·rw [if_pos c36] at H
       have LMc36 := am_ c36
       clear c36
       obtain ⟨y169, hy169⟩ : ∃ y_ : List (S35), y_ = (y166 ++ [(⟨t153, 0⟩ : S35)]) := ⟨_, rfl⟩
       replace H : (some (y169, t164, t165)) = some (r1, r2, r3) := by first | (rw [hy169]; with_reducible exact H) | (have H2_ := (Option.bind_some _ _).symm.trans H; rw [hy169]; with_reducible exact H2_) | (have H2_ := (Option.bind_some _ _).symm.trans H; with_reducible exact H2_) | with_reducible exact H | (rw [hy169]; exact H) | exact H
       have Ny169 := am_ hy169
       clear hy169
       simp only [Option.some.injEq, Prod.mk.injEq] at H
       obtain ⟨rfl, rfl, rfl⟩ := H
       go_wp2_with (first | ((with_reducible refine Sh.k 32 ?_); refine Sh.gL (some 23) Try.func32 #[.pointer (some ⟨g, 0, none⟩), .int .i64 3] (h := ?_); (with_reducible refine (spec_l1Cur_one.calls g s0_0 x1001_2 x1002_2 3 false t134 t135 w0 _ ?side1 ?side2 A20.out).mono ?_); (case side1 => repeat (first | (with_reducible first | exact HI0.out | apply IsS46.alloc | apply IsS46.drewN | apply IsS46.drew | apply IsS46.set_1 | apply IsS46.set_2) | exact HI0.out)); (case side2 => repeat (first | (with_reducible first | exact HB.out | apply below_alloc | apply pw_below_drewN | apply below_drew1 | refine below_set ?_ (IsS46.ge HI0.out)) | exact HB.out)); rintro e w37 ⟨rfl, hi, hb, hk⟩; refine ⟨_, rfl, ?_⟩; replace HK := am_ (KeepBut.trans (by repeat (first | (with_reducible first | exact HK.out | apply KeepBut.set_ | apply keep_drewN | apply keep_drew | apply keep_alloc) | exact HK.out)) hk (.inl rfl)); replace HB := am_ hb; replace HI0 := am_ hi; (try clear hb); (try clear hb2); (try clear hk); (try clear hi)) | ((with_reducible refine Sh.d 35 ?_); refine Kd.R_lit (Kd.int .i64) _ 3 ?hg (N := 35) ?hd (xs := ([5, 6, 7, 7, 8] : List Int)) (inner := [.int .i64 5, .int .i64 6, .int .i64 7, .int .i64 7, .int .i64 8]) (ok := fun _ => True) (okp := fun _ => True) ?hr ?hp (fun _ hk => hk) trivial (Below.refl _ _) (Nat.le_refl _) (by simp) ?_; (case hd => rfl); (case hg => rfl); (case hr => first | (go_simp; done) | (go_simp; rfl)); (case hp => exact (Reps.one (show Kd.M (Kd.int .i64) _ _ _ 5 [.int .i64 5] from rfl) (Reps.one (show Kd.M (Kd.int .i64) _ _ _ 6 [.int .i64 6] from rfl) (Reps.one (show Kd.M (Kd.int .i64) _ _ _ 7 [.int .i64 7] from rfl) (Reps.one (show Kd.M (Kd.int .i64) _ _ _ 7 [.int .i64 7] from rfl) (Reps.one (show Kd.M (Kd.int .i64) _ _ _ 8 [.int .i64 8] from rfl) (Reps.none _ _))))))); intro v151 w38 ho39 hb hg_ hnew_; clear hg_ hnew_; (first | rw [← Ny150.out] at ho39 | (simp only [Int.reduceToNat] at ho39; rw [← Ny150.out] at ho39)); have HO152 := am_ (Kd.R_lower ho39 (keep_size (w := w) (g := g) (row := none) (by repeat (first | (with_reducible first | exact HK.out | apply KeepBut.set_ | apply keep_drewN | apply keep_drew | apply keep_alloc) | exact HK.out)))); replace HK := am_ (KeepBut.trans (by repeat (first | (with_reducible first | exact HK.out | apply KeepBut.set_ | apply keep_drewN | apply keep_drew | apply keep_alloc) | exact HK.out)) (KeepBut.of_below hb g none) (.inl rfl)); replace HB := am_ (below_step (by repeat (first | (with_reducible first | exact HB.out | apply below_alloc | apply pw_below_drewN | apply below_drew1 | refine below_set ?_ (IsS46.ge HI0.out)) | exact HB.out)) hb); replace HI0 := am_ (IsS46.below (by repeat (first | (with_reducible first | exact HI0.out | apply IsS46.alloc | apply IsS46.drewN | apply IsS46.drew | apply IsS46.set_1 | apply IsS46.set_2) | exact HI0.out)) hb); clear hb ho39; obtain ⟨Ao40, co40, eo40⟩ := Kd.R_slice HO152.out; subst eo40) | ((with_reducible refine Sh.k 36 ?_); refine Sh.gL (some 36) Try.func36 #[.pointer (some ⟨g, 0, none⟩), .slice Ao40 y150.length co40] (h := ?_); (with_reducible refine (spec_l1Cur_among.calls g s0_0 t134 t135 _ _ y150 t153 t154 t155 w0 _ ?side1 ?side2 ?side3 ?side4 ?side5 A32.out).mono ?_); (case side1 => repeat (first | (with_reducible first | exact HI0.out | apply IsS46.alloc | apply IsS46.drewN | apply IsS46.drew | apply IsS46.set_1 | apply IsS46.set_2) | exact HI0.out)); (case side2 => repeat (first | (with_reducible first | exact HB.out | apply below_alloc | apply pw_below_drewN | apply below_drew1 | refine below_set ?_ (IsS46.ge HI0.out)) | exact HB.out)); (case side3 => repeat (first | exact (Kd.R_reads' HO152.out).2.2 | (with_reducible first | refine Kd.C_alloc ?_ _ | refine Kd.C_drewN ?_ _ | refine Kd.C_drew ?_))); (case side4 => exact (Kd.R_reads' HO152.out).2.1); (case side5 => exact far_slice (IsS46.own_ne HI0.out HO152.out (by decide))); rintro e w41 ⟨rfl, hi, hb, hk⟩; refine ⟨_, rfl, ?_⟩; replace HO152 := am_ (Kd.R_mono (Kd.R_keep (IsS46.apart (show IsS46 w0 _ g s0_0 t134 t135 from by repeat (first | (with_reducible first | exact HI0.out | apply IsS46.alloc | apply IsS46.drewN | apply IsS46.drew | apply IsS46.set_1 | apply IsS46.set_2) | exact HI0.out)) (Sh.rl HO152.out) (by decide)) hk (fun _ h => h.2)) (fun _ h => h.1)); replace HK := am_ (KeepBut.trans (by repeat (first | (with_reducible first | exact HK.out | apply KeepBut.set_ | apply keep_drewN | apply keep_drew | apply keep_alloc) | exact HK.out)) hk (.inl rfl)); replace HB := am_ hb; replace HI0 := am_ hi; (try clear hb); (try clear hb2); (try clear hk); (try clear hi)) | ((with_reducible refine Sh.k 31 ?_); refine Sh.gL (some 40) Try.func31 #[.pointer (some ⟨g, 0, none⟩), .int .i64 (wrap64 (a1 - 1))] (h := ?_); (with_reducible refine (ih kj2 (by have := HJ2.out; omega) g s0_0 t154 t155 (wrap64 (a1 - 1)) t156 t159 t160 w0 _ ?side1 ?side2 A33.out).mono ?_); (case side1 => repeat (first | (with_reducible first | exact HI0.out | apply IsS46.alloc | apply IsS46.drewN | apply IsS46.drew | apply IsS46.set_1 | apply IsS46.set_2) | exact HI0.out)); (case side2 => repeat (first | (with_reducible first | exact HB.out | apply below_alloc | apply pw_below_drewN | apply below_drew1 | refine below_set ?_ (IsS46.ge HI0.out)) | exact HB.out)); rintro e w42 ⟨v157, rfl, ho0, hi, hb, hk⟩; refine ⟨_, rfl, ?_⟩; replace HO152 := am_ (Kd.R_mono (Kd.R_keep (IsS46.apart (show IsS46 w0 _ g s0_0 t154 t155 from by repeat (first | (with_reducible first | exact HI0.out | apply IsS46.alloc | apply IsS46.drewN | apply IsS46.drew | apply IsS46.set_1 | apply IsS46.set_2) | exact HI0.out)) (Sh.rl HO152.out) (by decide)) hk (fun _ h => h.2)) (fun _ h => h.1)); have HO158 := am_ (Kd.R_lower ho0 (keep_size (w := w) (g := g) (row := none) (by repeat (first | (with_reducible first | exact HK.out | apply KeepBut.set_ | apply keep_drewN | apply keep_drew | apply keep_alloc) | exact HK.out)))); replace HK := am_ (KeepBut.trans (by repeat (first | (with_reducible first | exact HK.out | apply KeepBut.set_ | apply keep_drewN | apply keep_drew | apply keep_alloc) | exact HK.out)) hk (.inl rfl)); replace HB := am_ hb; replace HI0 := am_ hi; (try clear hb); (try clear hb2); (try clear hk); (try clear hi); (try clear ho0)) | ((with_reducible refine Sh.k 31 ?_); refine Sh.gL (some 44) Try.func31 #[.pointer (some ⟨g, 0, none⟩), .int .i64 (wrap64 (a1 - 1))] (h := ?_); (with_reducible refine (ih kj2 (by have := HJ2.out; omega) g s0_0 t159 t160 (wrap64 (a1 - 1)) t161 t164 t165 w0 _ ?side1 ?side2 A34.out).mono ?_); (case side1 => repeat (first | (with_reducible first | exact HI0.out | apply IsS46.alloc | apply IsS46.drewN | apply IsS46.drew | apply IsS46.set_1 | apply IsS46.set_2) | exact HI0.out)); (case side2 => repeat (first | (with_reducible first | exact HB.out | apply below_alloc | apply pw_below_drewN | apply below_drew1 | refine below_set ?_ (IsS46.ge HI0.out)) | exact HB.out)); rintro e w43 ⟨v162, rfl, ho0, hi, hb, hk⟩; refine ⟨_, rfl, ?_⟩; replace HO152 := am_ (Kd.R_mono (Kd.R_keep (IsS46.apart (show IsS46 w0 _ g s0_0 t159 t160 from by repeat (first | (with_reducible first | exact HI0.out | apply IsS46.alloc | apply IsS46.drewN | apply IsS46.drew | apply IsS46.set_1 | apply IsS46.set_2) | exact HI0.out)) (Sh.rl HO152.out) (by decide)) hk (fun _ h => h.2)) (fun _ h => h.1)); have HO163 := am_ (Kd.R_lower (Kd.R_new' ho0 (Kd.R_lt (Sh.rl HO158.out))) (keep_size (w := w) (g := g) (row := none) (by repeat (first | (with_reducible first | exact HK.out | apply KeepBut.set_ | apply keep_drewN | apply keep_drew | apply keep_alloc) | exact HK.out)))); replace HO158 := am_ (Kd.R_mono (Kd.R_told (Kd.R_oldK (IsS46.apart (show IsS46 w0 _ g s0_0 t159 t160 from by repeat (first | (with_reducible first | exact HI0.out | apply IsS46.alloc | apply IsS46.drewN | apply IsS46.drew | apply IsS46.set_1 | apply IsS46.set_2) | exact HI0.out)) (Sh.rl HO158.out) (by decide)) hk) (Kd.R_base ho0)) (fun _ h_ => h_.1)); replace HK := am_ (KeepBut.trans (by repeat (first | (with_reducible first | exact HK.out | apply KeepBut.set_ | apply keep_drewN | apply keep_drew | apply keep_alloc) | exact HK.out)) hk (.inl rfl)); replace HB := am_ hb; replace HI0 := am_ hi; (try clear hb); (try clear hb2); (try clear hk); (try clear hi); (try clear ho0); obtain ⟨Ao45, co45, eo45⟩ := Kd.R_slice HO163.out; subst eo45) | ((with_reducible refine gate_builtin (b := .append) (xs := #[.tmp 40, .tmp 44]) rfl ?_); at_builtin; refine Kd.R_append_rows k35 w.heap.size rfl (.tmp 40) (.tmp 44) 24 35 (.agg #[(.int .i64 0), (.int .i64 0)]) 16 rfl Try.underlying24 info35 rfl (by decide) (by omega) v157 t156 t161 _ _ _ (fun k_ => some k_ ≠ (.slice Ao45 t161.length co45 : Value).ownBlock) (fun _ => False) rfl rfl ?aO ?aR (fun _ _ h => h) (fun _ h => h.elim) ?aF (Below.refl _ _) ?aS ?aL ?_; (case aR => repeat (first | exact (Kd.R_reads' HO163.out).2.2 | (with_reducible first | refine Kd.C_alloc ?_ _ | refine Kd.C_drewN ?_ _ | refine Kd.C_drew ?_))); (case aF => exact (fun k_ hk => Kd.fresh' (Kd.R_lt (Sh.rl HO163.out)) k_ hk)); (case aO => exact (Sh.rl (Kd.R_mono HO158.out (fun _ hk => hk.2)))); (case aS => exact (keep_size (w := w) (g := g) (row := none) (by repeat (first | (with_reducible first | exact HK.out | apply KeepBut.set_ | apply keep_drewN | apply keep_drew | apply keep_alloc) | exact HK.out)))); (case aL => have := LMc35.out; omega); intro v167 w44 ho hb hg hat; rw [← Ny166.out] at ho; have n0_ := am_ (IsS46.grown (by repeat (first | (with_reducible first | exact HI0.out | apply IsS46.alloc | apply IsS46.drewN | apply IsS46.drew | apply IsS46.set_1 | apply IsS46.set_2) | exact HI0.out)) hg (IsS46.own_ne HI0.out HO158.out (by decide))); have n1_ := am_ (Kd.R_over' (Sh.rl HO152.out) (Kd.R_typed (Sh.rl HO158.out)) (by decide) hg); have n2_ := am_ (Kd.R_after (ok := (fun _ => True)) (Sh.rl HO163.out) hg hat); have n3_ := am_ (below_weaken (by repeat (first | (with_reducible first | exact HB.out | apply below_alloc | apply pw_below_drewN | apply below_drew1 | refine below_set ?_ (IsS46.ge HI0.out)) | exact HB.out)) HL.out hb); have n4_ := am_ (KeepBut.trans (by repeat (first | (with_reducible first | exact HK.out | apply KeepBut.set_ | apply keep_drewN | apply keep_drew | apply keep_alloc) | exact HK.out)) (KeepBut.of_grown hg g) (Kd.R_base2 HO158.out)); have n5_ := am_ ho; clear HI0; clear HO152; clear HO163; clear HB; clear HK; clear HO158; have HI0 := n0_; have HO152 := n1_; have HO163 := n2_; have HB := n3_; have HK := n4_; have HO168 := n5_; clear n0_ n1_ n2_ n3_ n4_ n5_; clear ho hb hg hat) | ((with_reducible refine gate_builtin (b := .append) (xs := #[.tmp 45, .tmp 48]) rfl ?_); at_builtin; refine Kd.R_append k35 w.heap.size rfl (.tmp 45) (.tmp 48) 24 35 (.agg #[(.int .i64 0), (.int .i64 0)]) 16 rfl Try.underlying24 info35 rfl (by decide) (by omega) v167 y166 (⟨t153, 0⟩ : S35) [.int .i64 t153, .int .i64 0] (fun k_ => some k_ ≠ (.slice Ao45 t161.length co45 : Value).ownBlock) (fun _ => False) rfl rfl ?aP (fun _ hk => hk.elim) ?aF ?aO (Below.refl _ _) ?aS ?aL ?_; (case aP => exact k35_mkM _ _ _ (⟨t153, 0⟩ : S35)); (case aF => exact (fun k_ hk => Kd.fresh' (Kd.R_lt (Sh.rl HO163.out)) k_ hk)); (case aO => exact (Sh.rl HO168.out)); (case aS => exact (keep_size (w := w) (g := g) (row := none) (by repeat (first | (with_reducible first | exact HK.out | apply KeepBut.set_ | apply keep_drewN | apply keep_drew | apply keep_alloc) | exact HK.out)))); (case aL => have := LMc36.out; omega); intro v170 w46 ho hb hg hat; rw [← Ny169.out] at ho; have n0_ := am_ (IsS46.grown (by repeat (first | (with_reducible first | exact HI0.out | apply IsS46.alloc | apply IsS46.drewN | apply IsS46.drew | apply IsS46.set_1 | apply IsS46.set_2) | exact HI0.out)) hg (IsS46.own_ne HI0.out HO168.out (by decide))); have n1_ := am_ (Kd.R_over' (Sh.rl HO152.out) (Kd.R_typed (Sh.rl HO168.out)) (by decide) hg); have n2_ := am_ (Kd.R_after (ok := (fun _ => True)) (Sh.rl HO163.out) hg hat); have n3_ := am_ (below_weaken (by repeat (first | (with_reducible first | exact HB.out | apply below_alloc | apply pw_below_drewN | apply below_drew1 | refine below_set ?_ (IsS46.ge HI0.out)) | exact HB.out)) HL.out hb); have n4_ := am_ (KeepBut.trans (by repeat (first | (with_reducible first | exact HK.out | apply KeepBut.set_ | apply keep_drewN | apply keep_drew | apply keep_alloc) | exact HK.out)) (KeepBut.of_grown hg g) (Kd.R_base2 HO168.out)); have n5_ := am_ ho; clear HI0; clear HO152; clear HO163; clear HB; clear HK; clear HO168; have HI0 := n0_; have HO152 := n1_; have HO163 := n2_; have HB := n3_; have HK := n4_; have HO171 := n5_; clear n0_ n1_ n2_ n3_ n4_ n5_; clear ho hb hg hat))
       go_ret
       exact ⟨_, Sh.eR, Sh.rl (Kd.R_mono HO171.out (fun _ hk => trivial)), by repeat (first | (with_reducible first | exact HI0.out | apply IsS46.alloc | apply IsS46.drewN | apply IsS46.drew | apply IsS46.set_1 | apply IsS46.set_2) | exact HI0.out), by repeat (first | (with_reducible first | exact HB.out | apply below_alloc | apply pw_below_drewN | apply below_drew1 | refine below_set ?_ (IsS46.ge HI0.out)) | exact HB.out), by repeat (first | (with_reducible first | exact HK.out | apply KeepBut.set_ | apply keep_drewN | apply keep_drew | apply keep_alloc) | exact HK.out)⟩
      ·rw [if_neg c36] at H
       exact absurd H (by simp)
     ·rw [if_neg c35] at H
      exact absurd H (by simp)
mutual
def spec_l1Cur_said.j0 : Nat → List (S35) → Bool → List Int → Int → Int → Option ((List (S35)) × Int × Int)
 | 0, _, _, _, _, _ => none
 | k + 1, x3, x16, x1000, x1001, x1002 => if x16 = true then ((spec_l1Cur_formula.f k x1000 x1001 x1002 2).bind fun bt183 => (spec_l1Cur_said.j1 k bt183.1 x1000 bt183.2.1 bt183.2.2)) else (spec_l1Cur_said.j1 k x3 x1000 x1001 x1002)
def spec_l1Cur_said.j1 : Nat → List (S35) → List Int → Int → Int → Option ((List (S35)) × Int × Int)
 | 0, _, _, _, _ => none
 | k + 1, x3, x1000, x1001, x1002 => (spec_l1Cur_pick.f x1000 x1001 x1002 40).bind fun bt188 => (if bt188.1 = 0 then (if 1 ≤ (x3.length : Int) then (some ((x3.drop (1 : Int).toNat), bt188.2.1, bt188.2.2)) else (none)) else (if bt188.1 = 1 then (if 0 < (x3.length : Int) then (some ((x3.set (0 : Int).toNat (⟨(rd_T35 x3 0).f0, 3⟩ : S35)), bt188.2.1, bt188.2.2)) else (none)) else (if bt188.1 = 2 then ((spec_l1Cur_pick.f x1000 bt188.2.1 bt188.2.2 10).bind fun bt195 => (if 0 ≤ (wrap64 ((x3.length : Int) - 1)) then (if (wrap64 ((x3.length : Int) - 1)) < (x3.length : Int) then (some ((x3.set ((wrap64 ((x3.length : Int) - 1)) : Int).toNat (⟨bt195.1, (rd_T35 x3 (wrap64 ((x3.length : Int) - 1))).f1⟩ : S35)), bt195.2.1, bt195.2.2)) else (none)) else (none))) else (some (x3, bt188.2.1, bt188.2.2)))))
end
def spec_l1Cur_said.f (k : Nat) (s0_0 : List Int) (s0_1 : Int) (s0_2 : Int) : Option ((List (S35)) × Int × Int) := (spec_l1Cur_pick.f s0_0 s0_1 s0_2 2).bind fun bt172 => ((spec_l1Cur_formula.f k s0_0 bt172.2.1 bt172.2.2 (wrap64 (2 + bt172.1))).bind fun bt175 => (if (bt175.1.length : Int) > 16 then ((spec_l1Cur_one.f s0_0 bt175.2.1 bt175.2.2 10).bind fun bt180 => (spec_l1Cur_said.j0 k bt175.1 (!bt180.1) s0_0 bt180.2.1 bt180.2.2)) else (spec_l1Cur_said.j0 k bt175.1 false s0_0 bt175.2.1 bt175.2.2)))
theorem spec_l1Cur_said.mono_l : ∀ k, (∀ y0 y1 y2 y3 y4, LeO (spec_l1Cur_said.j0 k y0 y1 y2 y3 y4) (spec_l1Cur_said.j0 (k + 1) y0 y1 y2 y3 y4)) ∧ (∀ y0 y1 y2 y3, LeO (spec_l1Cur_said.j1 k y0 y1 y2 y3) (spec_l1Cur_said.j1 (k + 1) y0 y1 y2 y3))
 | 0 => ⟨fun _ _ _ _ _ r h => by simp [spec_l1Cur_said.j0] at h, fun _ _ _ _ r h => by simp [spec_l1Cur_said.j1] at h⟩
 | k + 1 => by
  obtain ⟨ih0, ih1⟩ := spec_l1Cur_said.mono_l k
  and_intros <;> intros
  all_goals (first | unfold spec_l1Cur_said.j0 | unfold spec_l1Cur_said.j1)
  all_goals repeat' with_reducible first | apply ih0 | apply ih1 | apply spec_l1Cur_formula.mono | exact LeO.refl _ | exact LeO.none _ | apply LeO.ite | refine LeO.bind ?_ fun _ => ?_
theorem spec_l1Cur_said.mono : ∀ a0 a1 a2 k, LeO (spec_l1Cur_said.f k a0 a1 a2) (spec_l1Cur_said.f (k + 1) a0 a1 a2) := by
 intro a0 a1 a2 k
 obtain ⟨ih0, ih1⟩ := spec_l1Cur_said.mono_l k
 unfold spec_l1Cur_said.f
 repeat' with_reducible first | apply ih0 | apply ih1 | apply spec_l1Cur_formula.mono | exact LeO.refl _ | exact LeO.none _ | apply LeO.ite | refine LeO.bind ?_ fun _ => ?_
theorem spec_l1Cur_said.calls (k : Nat) (g : Nat) (s0_0 : List Int) (s0_1 : Int) (s0_2 : Int) (r1 : List (S35)) (r2 : Int) (r3 : Int) (w0 w : World) (hI : IsS46 w0 w g s0_0 s0_1 s0_2) (hB : Below w0.heap.size w0 w) (h : spec_l1Cur_said.f k s0_0 s0_1 s0_2 = some (r1, r2, r3)) :
  Calls Try.prog 18 #[.pointer (some ⟨g, 0, none⟩)] w fun e w' => ∃ v0_ : Value, e = .returned (v0_) ∧ Kd.Q k35 35 w' w.heap.size (fun _ => True) v0_ r1 ∧ IsS46 w0 w' g s0_0 r2 r3 ∧ Below w0.heap.size w0 w' ∧ KeepBut w w' g none := by
 have HI0 := am_ hI
 have HK := am_ (KeepBut.refl w g none)
 have HL := am_ hB.size
 clear hI
 have HW0 := am_ hB.size
 have HB := am_ hB
 clear hB
 have H := h
 clear h
 unfold spec_l1Cur_said.f at H
 obtain ⟨⟨t172, t173, t174⟩, A20, H⟩ := Sh.bd H
 have A2 := am_ A20
 clear A20
 obtain ⟨⟨t175, t178, t179⟩, A30, H⟩ := Sh.bd H
 have A3 := am_ A30
 clear A30
 have HC4 := am_ H
 clear H
 go_enter Try.func18, Try.ntmps18
 go_upto_region 2 with (first | ((with_reducible refine Sh.k 19 ?_); refine Sh.gL (some 6) Try.func19 #[.pointer (some ⟨g, 0, none⟩), .int .i64 2] (h := ?_); (with_reducible refine (spec_l1Cur_pick.calls g s0_0 s0_1 s0_2 2 t172 t173 t174 w0 _ ?side1 ?side2 A2.out).mono ?_); (case side1 => repeat (first | (with_reducible first | exact HI0.out | apply IsS46.alloc | apply IsS46.drewN | apply IsS46.drew | apply IsS46.set_1 | apply IsS46.set_2) | exact HI0.out)); (case side2 => repeat (first | (with_reducible first | exact HB.out | apply below_alloc | apply pw_below_drewN | apply below_drew1 | refine below_set ?_ (IsS46.ge HI0.out)) | exact HB.out)); rintro e w5 ⟨rfl, hi, hb, hk⟩; refine ⟨_, rfl, ?_⟩; replace HK := am_ (KeepBut.trans (by repeat (first | (with_reducible first | exact HK.out | apply KeepBut.set_ | apply keep_drewN | apply keep_drew | apply keep_alloc) | exact HK.out)) hk (.inl rfl)); replace HB := am_ hb; replace HI0 := am_ hi; (try clear hb); (try clear hb2); (try clear hk); (try clear hi)) | ((with_reducible refine Sh.k 31 ?_); refine Sh.gL (some 8) Try.func31 #[.pointer (some ⟨g, 0, none⟩), .int .i64 (wrap64 (2 + t172))] (h := ?_); (with_reducible refine (spec_l1Cur_formula.calls k g s0_0 t173 t174 (wrap64 (2 + t172)) t175 t178 t179 w0 _ ?side1 ?side2 A3.out).mono ?_); (case side1 => repeat (first | (with_reducible first | exact HI0.out | apply IsS46.alloc | apply IsS46.drewN | apply IsS46.drew | apply IsS46.set_1 | apply IsS46.set_2) | exact HI0.out)); (case side2 => repeat (first | (with_reducible first | exact HB.out | apply below_alloc | apply pw_below_drewN | apply below_drew1 | refine below_set ?_ (IsS46.ge HI0.out)) | exact HB.out)); rintro e w6 ⟨v176, rfl, ho0, hi, hb, hk⟩; refine ⟨_, rfl, ?_⟩; have HO177 := am_ (Kd.R_lower ho0 (keep_size (w := w) (g := g) (row := none) (by repeat (first | (with_reducible first | exact HK.out | apply KeepBut.set_ | apply keep_drewN | apply keep_drew | apply keep_alloc) | exact HK.out)))); replace HK := am_ (KeepBut.trans (by repeat (first | (with_reducible first | exact HK.out | apply KeepBut.set_ | apply keep_drewN | apply keep_drew | apply keep_alloc) | exact HK.out)) hk (.inl rfl)); replace HB := am_ hb; replace HI0 := am_ hi; (try clear hb); (try clear hb2); (try clear hk); (try clear hi); (try clear ho0)))
 (try simp only [Act.put, List.setIfInBounds_toArray, List.set_cons_zero, List.set_cons_succ])
 go_cut [16] (fun v16 wc => ∃ (kq : Nat) (x16_3 : Bool) (x1001_3 : Int) (x1002_3 : Int), v16 = .bool x16_3 ∧ Aside0 (spec_l1Cur_said.j0 kq t175 x16_3 s0_0 x1001_3 x1002_3 = some (r1, r2, r3)) ∧ Aside0 (kq ≤ k) ∧ Aside0 (Kd.Q k35 35 wc w.heap.size (fun _ => True) v176 t175) ∧ Aside0 (IsS46 w0 wc g s0_0 x1001_3 x1002_3) ∧ Aside0 (KeepBut w wc g none) ∧ Aside0 (Below w0.heap.size w0 wc))
 case first =>
  have H := HC4.out
  clear HC4
  by_cases c7 : (t175.length : Int) > 16
  ·rw [if_pos c7] at H
   have c7b0 : decide (16 < (t175.length : Int)) = true := decide_eq_true c7
   have c7b1 : decide (16 < t175.length) = true := decide_eq_true (by omega)
   clear c7
   first | rw [c7b0] | (simp only [i64_w, i32_w]; rw [c7b0]) | skip
   obtain ⟨⟨t180, t181, t182⟩, A80, H⟩ := Sh.bd H
   have A8 := am_ A80
   clear A80
   have H' := am_ H
   clear H
   obtain ⟨Ao9, co9, eo9⟩ := Kd.R_slice HO177.out
   subst eo9
   go_wp2_with (first | (go_at_call 32; (with_reducible refine (spec_l1Cur_one.calls g s0_0 t178 t179 10 t180 t181 t182 w0 _ ?side1 ?side2 A8.out).mono ?_); (case side1 => repeat (first | (with_reducible first | exact HI0.out | apply IsS46.alloc | apply IsS46.drewN | apply IsS46.drew | apply IsS46.set_1 | apply IsS46.set_2) | exact HI0.out)); (case side2 => repeat (first | (with_reducible first | exact HB.out | apply below_alloc | apply pw_below_drewN | apply below_drew1 | refine below_set ?_ (IsS46.ge HI0.out)) | exact HB.out)); rintro e w10 ⟨rfl, hi, hb, hk⟩; replace HO177 := am_ (Kd.R_mono (Kd.R_keep (IsS46.apart (show IsS46 w0 _ g s0_0 t178 t179 from by repeat (first | (with_reducible first | exact HI0.out | apply IsS46.alloc | apply IsS46.drewN | apply IsS46.drew | apply IsS46.set_1 | apply IsS46.set_2) | exact HI0.out)) (Sh.rl HO177.out) (by decide)) hk (fun _ h => h.2)) (fun _ h => h.1)); replace HK := am_ (KeepBut.trans (by repeat (first | (with_reducible first | exact HK.out | apply KeepBut.set_ | apply keep_drewN | apply keep_drew | apply keep_alloc) | exact HK.out)) hk (.inl rfl)); replace HB := am_ hb; replace HI0 := am_ hi; (try clear hb); (try clear hb2); (try clear hk); (try clear hi)))
   go_meet
   case rel => exact ⟨_, (!t180), (t181), (t182), (Sh.es), H', ⟨Sh.om⟩, ⟨Kd.Q_of_R (Sh.rl HO177.out)⟩, ⟨by repeat (first | (with_reducible first | exact HI0.out | apply IsS46.alloc | apply IsS46.drewN | apply IsS46.drew | apply IsS46.set_1 | apply IsS46.set_2) | exact HI0.out)⟩, ⟨by repeat (first | (with_reducible first | exact HK.out | apply KeepBut.set_ | apply keep_drewN | apply keep_drew | apply keep_alloc) | exact HK.out)⟩, ⟨by repeat (first | (with_reducible first | exact HB.out | apply below_alloc | apply pw_below_drewN | apply below_drew1 | refine below_set ?_ (IsS46.ge HI0.out)) | exact HB.out)⟩⟩
  ·rw [if_neg c7] at H
   have c7b0 : decide (16 < (t175.length : Int)) = false := decide_eq_false c7
   have c7b1 : decide (16 < t175.length) = false := decide_eq_false (by omega)
   clear c7
   first | rw [c7b0] | (simp only [i64_w, i32_w]; rw [c7b0]) | skip
   have H' := am_ H
   clear H
   obtain ⟨Ao11, co11, eo11⟩ := Kd.R_slice HO177.out
   subst eo11
   go_wp2
   go_meet
   case rel => exact ⟨_, (false), (t178), (t179), (Sh.es), H', ⟨Sh.om⟩, ⟨Kd.Q_of_R (Sh.rl HO177.out)⟩, ⟨by repeat (first | (with_reducible first | exact HI0.out | apply IsS46.alloc | apply IsS46.drewN | apply IsS46.drew | apply IsS46.set_1 | apply IsS46.set_2) | exact HI0.out)⟩, ⟨by repeat (first | (with_reducible first | exact HK.out | apply KeepBut.set_ | apply keep_drewN | apply keep_drew | apply keep_alloc) | exact HK.out)⟩, ⟨by repeat (first | (with_reducible first | exact HB.out | apply below_alloc | apply pw_below_drewN | apply below_drew1 | refine below_set ?_ (IsS46.ge HI0.out)) | exact HB.out)⟩⟩
 case rest =>
  clear HC4
  obtain ⟨kq, x16_3, x1001_3, x1002_3, rfl, HA, HJ3, HO_3, HI0, HK, HB⟩ := hcut
  cases kq with
  | zero => exact absurd HA.out (by simp [spec_l1Cur_said.j0])
  | succ kj3 =>
   have H := HA.out
   clear HA
   simp only [spec_l1Cur_said.j0] at H
   have HC12 := am_ H
   clear H
   go_upto_if 16 with (fail)
   go_cut [3] (fun v3 wc => ∃ (kq : Nat) (x3_11 : List (S35)) (x1001_11 : Int) (x1002_11 : Int), Aside0 (spec_l1Cur_said.j1 kq x3_11 s0_0 x1001_11 x1002_11 = some (r1, r2, r3)) ∧ Aside0 (kq ≤ kj3) ∧ Aside0 (Kd.Q k35 35 wc w.heap.size (fun _ => True) v3 x3_11) ∧ Aside0 (IsS46 w0 wc g s0_0 x1001_11 x1002_11) ∧ Aside0 (KeepBut w wc g none) ∧ Aside0 (Below w0.heap.size w0 wc))
   case first =>
    have H := HC12.out
    clear HC12
    by_cases c13 : x16_3 = true
    ·subst c13
     rw [if_pos rfl] at H
     obtain ⟨⟨t183, t186, t187⟩, A140, H⟩ := Sh.bd H
     have A14 := am_ A140
     clear A140
     have H' := am_ H
     clear H
     go_wp2_with (first | ((with_reducible refine Sh.k 31 ?_); refine Sh.gL (some 18) Try.func31 #[.pointer (some ⟨g, 0, none⟩), .int .i64 2] (h := ?_); (with_reducible refine (spec_l1Cur_formula.calls kj3 g s0_0 x1001_3 x1002_3 2 t183 t186 t187 w0 _ ?side1 ?side2 A14.out).mono ?_); (case side1 => repeat (first | (with_reducible first | exact HI0.out | apply IsS46.alloc | apply IsS46.drewN | apply IsS46.drew | apply IsS46.set_1 | apply IsS46.set_2) | exact HI0.out)); (case side2 => repeat (first | (with_reducible first | exact HB.out | apply below_alloc | apply pw_below_drewN | apply below_drew1 | refine below_set ?_ (IsS46.ge HI0.out)) | exact HB.out)); rintro e w15 ⟨v184, rfl, ho0, hi, hb, hk⟩; refine ⟨_, rfl, ?_⟩; have HO185 := am_ (Kd.R_lower (Kd.R_new' ho0 (Kd.Q_lt (by (with_reducible repeat (first | apply Kd.Q_alloc | apply Kd.Q_drewN | apply Kd.Q_drew)); exact HO_3.out))) (keep_size (w := w) (g := g) (row := none) (by repeat (first | (with_reducible first | exact HK.out | apply KeepBut.set_ | apply keep_drewN | apply keep_drew | apply keep_alloc) | exact HK.out)))); replace HO_3 := am_ (Kd.Q_mono (Kd.Q_told (Kd.Q_oldK (IsS46.apartQ (show IsS46 w0 _ g s0_0 x1001_3 x1002_3 from by repeat (first | (with_reducible first | exact HI0.out | apply IsS46.alloc | apply IsS46.drewN | apply IsS46.drew | apply IsS46.set_1 | apply IsS46.set_2) | exact HI0.out)) (by (with_reducible repeat (first | apply Kd.Q_alloc | apply Kd.Q_drewN | apply Kd.Q_drew)); exact HO_3.out) (by decide)) hk) (Kd.R_base ho0)) (fun _ h_ => h_.1)); replace HK := am_ (KeepBut.trans (by repeat (first | (with_reducible first | exact HK.out | apply KeepBut.set_ | apply keep_drewN | apply keep_drew | apply keep_alloc) | exact HK.out)) hk (.inl rfl)); replace HB := am_ hb; replace HI0 := am_ hi; (try clear hb); (try clear hb2); (try clear hk); (try clear hi); (try clear ho0)))
     go_meet
     case rel => exact ⟨_, (t183), (t186), (t187), H', ⟨by have := HJ3.out; first | omega | exact Nat.le_refl _⟩, ⟨Kd.Q_of_R (Sh.rl (Kd.R_mono HO185.out (fun _ hk => trivial)))⟩, ⟨by repeat (first | (with_reducible first | exact HI0.out | apply IsS46.alloc | apply IsS46.drewN | apply IsS46.drew | apply IsS46.set_1 | apply IsS46.set_2) | exact HI0.out)⟩, ⟨by repeat (first | (with_reducible first | exact HK.out | apply KeepBut.set_ | apply keep_drewN | apply keep_drew | apply keep_alloc) | exact HK.out)⟩, ⟨by repeat (first | (with_reducible first | exact HB.out | apply below_alloc | apply pw_below_drewN | apply below_drew1 | refine below_set ?_ (IsS46.ge HI0.out)) | exact HB.out)⟩⟩
    ·replace c13 := Bool.eq_false_iff.mpr c13
     subst c13
     rw [Sh.nf] at H
     have H' := am_ H
     clear H
     go_wp2
     go_meet
     case rel => exact ⟨_, (t175), (x1001_3), (x1002_3), H', ⟨by have := HJ3.out; first | omega | exact Nat.le_refl _⟩, ⟨by (with_reducible repeat (first | apply Kd.Q_alloc | apply Kd.Q_drewN | apply Kd.Q_drew)); exact HO_3.out⟩, ⟨by repeat (first | (with_reducible first | exact HI0.out | apply IsS46.alloc | apply IsS46.drewN | apply IsS46.drew | apply IsS46.set_1 | apply IsS46.set_2) | exact HI0.out)⟩, ⟨by repeat (first | (with_reducible first | exact HK.out | apply KeepBut.set_ | apply keep_drewN | apply keep_drew | apply keep_alloc) | exact HK.out)⟩, ⟨by repeat (first | (with_reducible first | exact HB.out | apply below_alloc | apply pw_below_drewN | apply below_drew1 | refine below_set ?_ (IsS46.ge HI0.out)) | exact HB.out)⟩⟩
   case rest =>
    clear HC12
    obtain ⟨kq, x3_11, x1001_11, x1002_11, HA, HJ11, HO_3, HI0, HK, HB⟩ := hcut
    cases kq with
    | zero => exact absurd HA.out (by simp [spec_l1Cur_said.j1])
    | succ kj11 =>
     have H := HA.out
     clear HA
     simp only [spec_l1Cur_said.j1] at H
     obtain ⟨⟨t188, t189, t190⟩, A160, H⟩ := Sh.bd H
     have A16 := am_ A160
     clear A160
     by_cases c17 : t188 = 0
     ·rw [if_pos c17] at H
      have c17b0 : (t188 == 0) = true := beq_iff_eq.mpr c17
      have c17b1 : (t188 != 0) = false := bne_eq_false_iff_eq.mpr c17
      clear c17
      by_cases c18 : 1 ≤ (x3_11.length : Int)
      ·rw [if_pos c18] at H
       have c18b0 := eq_true c18
       have c18b1 := decide_eq_true c18
       clear c18
       obtain ⟨y191, hy191⟩ : ∃ y_ : List (S35), y_ = (x3_11.drop (1 : Int).toNat) := ⟨_, rfl⟩
       replace H : (some (y191, t189, t190)) = some (r1, r2, r3) := by first | (rw [hy191]; with_reducible exact H) | (have H2_ := (Option.bind_some _ _).symm.trans H; rw [hy191]; with_reducible exact H2_) | (have H2_ := (Option.bind_some _ _).symm.trans H; with_reducible exact H2_) | with_reducible exact H | (rw [hy191]; exact H) | exact H
       have Ny191 := am_ hy191
       clear hy191
       simp only [Option.some.injEq, Prod.mk.injEq] at H
       obtain ⟨rfl, rfl, rfl⟩ := H
       go_wp2_with (first | ((with_reducible refine Sh.k 19 ?_); refine Sh.gL (some 20) Try.func19 #[.pointer (some ⟨g, 0, none⟩), .int .i64 40] (h := ?_); (with_reducible refine (spec_l1Cur_pick.calls g s0_0 x1001_11 x1002_11 40 t188 t189 t190 w0 _ ?side1 ?side2 A16.out).mono ?_); (case side1 => repeat (first | (with_reducible first | exact HI0.out | apply IsS46.alloc | apply IsS46.drewN | apply IsS46.drew | apply IsS46.set_1 | apply IsS46.set_2) | exact HI0.out)); (case side2 => repeat (first | (with_reducible first | exact HB.out | apply below_alloc | apply pw_below_drewN | apply below_drew1 | refine below_set ?_ (IsS46.ge HI0.out)) | exact HB.out)); rintro e w19 ⟨rfl, hi, hb, hk⟩; refine ⟨_, rfl, ?_⟩; replace HO_3 := am_ (Kd.Q_mono (Kd.Q_keep (IsS46.apartQ (show IsS46 w0 _ g s0_0 x1001_11 x1002_11 from by repeat (first | (with_reducible first | exact HI0.out | apply IsS46.alloc | apply IsS46.drewN | apply IsS46.drew | apply IsS46.set_1 | apply IsS46.set_2) | exact HI0.out)) (by (with_reducible repeat (first | apply Kd.Q_alloc | apply Kd.Q_drewN | apply Kd.Q_drew)); exact HO_3.out) (by decide)) hk (fun _ h => h.2)) (fun _ h => h.1)); replace HK := am_ (KeepBut.trans (by repeat (first | (with_reducible first | exact HK.out | apply KeepBut.set_ | apply keep_drewN | apply keep_drew | apply keep_alloc) | exact HK.out)) hk (.inl rfl)); replace HB := am_ hb; replace HI0 := am_ hi; (try clear hb); (try clear hb2); (try clear hk); (try clear hi); obtain ⟨Ao20, co20, eo20, _⟩ := Kd.Q_slice HO_3.out; subst eo20; have q21 : (1 : Int) ≤ ((x3_11.length : Int) : Int) := Sh.od; obtain ⟨i021, hi021, _, hsz21, _⟩ := info_parts info35; have hcut21 := cut_from (P := Try.prog) 24 35 .i64 Try.underlying24 hi021 2 hsz21 Ao20 x3_11.length co20 1 (by omega) q21; have hr21 := Kd.Q_drop (k := (1 : Int).toNat) HO_3.out (by omega); obtain ⟨A21, hA21⟩ : ∃ A1, A1 = (if co20 = (1 : Int).toNat then Ao20 else (Ao20 : Option Addr).map (·.add ((1 : Int).toNat * 2))) := ⟨_, rfl⟩; obtain ⟨c21, hc21⟩ : ∃ c1, c1 = co20 - (1 : Int).toNat := ⟨_, rfl⟩; have hy21 : y191.length = x3_11.length - (1 : Int).toNat := (by rw [Ny191.out, List.length_drop]); rw [← Ny191.out] at hr21; rw [← hy21, ← hA21, ← hc21] at hcut21; replace hr21 : Kd.Q k35 35 w19 w.heap.size (fun _ => True) (.slice A21 y191.length c21) y191 := (by rw [hA21, hc21, hy21]; exact hr21); have HE21 : Aside0 ((Value.slice A21 y191.length c21).ownBlock = (.slice Ao20 x3_11.length co20 : Value).ownBlock) := ⟨by rw [hA21]; split <;> (cases (Ao20 : Option Addr) <;> rfl)⟩; clear hy21 hi021 hsz21 HO_3 hA21 hc21; have HO193 := am_ hr21; clear hr21; replace q21 := eq_true q21))
       go_ret
       exact ⟨_, Sh.eR, by (with_reducible repeat (first | apply Kd.Q_alloc | apply Kd.Q_drewN | apply Kd.Q_drew)); exact HO193.out, by repeat (first | (with_reducible first | exact HI0.out | apply IsS46.alloc | apply IsS46.drewN | apply IsS46.drew | apply IsS46.set_1 | apply IsS46.set_2) | exact HI0.out), by repeat (first | (with_reducible first | exact HB.out | apply below_alloc | apply pw_below_drewN | apply below_drew1 | refine below_set ?_ (IsS46.ge HI0.out)) | exact HB.out), by repeat (first | (with_reducible first | exact HK.out | apply KeepBut.set_ | apply keep_drewN | apply keep_drew | apply keep_alloc) | exact HK.out)⟩
      ·rw [if_neg c18] at H
       exact absurd H (by simp)
     ·rw [if_neg c17] at H
      have c17b0 : (t188 == 0) = false := beq_eq_false_iff_ne.mpr c17
      have c17b1 : (t188 != 0) = true := bne_iff_ne.mpr c17
      by_cases c22 : t188 = 1
      ·rw [if_pos c22] at H
       have c22b0 : (t188 == 1) = true := beq_iff_eq.mpr c22
       have c22b1 : (t188 != 1) = false := bne_eq_false_iff_eq.mpr c22
       clear c22
       by_cases c23 : 0 < (x3_11.length : Int)
       ·rw [if_pos c23] at H
        have c23b0 := decide_eq_true c23
        have c23b1 : decide (0 < x3_11.length) = true := decide_eq_true (by omega)
        clear c23
        obtain ⟨y194, hy194⟩ : ∃ y_ : List (S35), y_ = (x3_11.set (0 : Int).toNat (⟨(rd_T35 x3_11 0).f0, 3⟩ : S35)) := ⟨_, rfl⟩
        replace H : (some (y194, t189, t190)) = some (r1, r2, r3) := by first | (rw [hy194]; with_reducible exact H) | (have H2_ := (Option.bind_some _ _).symm.trans H; rw [hy194]; with_reducible exact H2_) | (have H2_ := (Option.bind_some _ _).symm.trans H; with_reducible exact H2_) | with_reducible exact H | (rw [hy194]; exact H) | exact H
        have Ny194 := am_ hy194
        clear hy194
        simp only [Option.some.injEq, Prod.mk.injEq] at H
        obtain ⟨rfl, rfl, rfl⟩ := H
        go_wp2_with (first | ((with_reducible refine Sh.k 19 ?_); refine Sh.gL (some 20) Try.func19 #[.pointer (some ⟨g, 0, none⟩), .int .i64 40] (h := ?_); (with_reducible refine (spec_l1Cur_pick.calls g s0_0 x1001_11 x1002_11 40 t188 t189 t190 w0 _ ?side1 ?side2 A16.out).mono ?_); (case side1 => repeat (first | (with_reducible first | exact HI0.out | apply IsS46.alloc | apply IsS46.drewN | apply IsS46.drew | apply IsS46.set_1 | apply IsS46.set_2) | exact HI0.out)); (case side2 => repeat (first | (with_reducible first | exact HB.out | apply below_alloc | apply pw_below_drewN | apply below_drew1 | refine below_set ?_ (IsS46.ge HI0.out)) | exact HB.out)); rintro e w25 ⟨rfl, hi, hb, hk⟩; refine ⟨_, rfl, ?_⟩; replace HO_3 := am_ (Kd.Q_mono (Kd.Q_keep (IsS46.apartQ (show IsS46 w0 _ g s0_0 x1001_11 x1002_11 from by repeat (first | (with_reducible first | exact HI0.out | apply IsS46.alloc | apply IsS46.drewN | apply IsS46.drew | apply IsS46.set_1 | apply IsS46.set_2) | exact HI0.out)) (by (with_reducible repeat (first | apply Kd.Q_alloc | apply Kd.Q_drewN | apply Kd.Q_drew)); exact HO_3.out) (by decide)) hk (fun _ h => h.2)) (fun _ h => h.1)); replace HK := am_ (KeepBut.trans (by repeat (first | (with_reducible first | exact HK.out | apply KeepBut.set_ | apply keep_drewN | apply keep_drew | apply keep_alloc) | exact HK.out)) hk (.inl rfl)); replace HB := am_ hb; replace HI0 := am_ hi; (try clear hb); (try clear hb2); (try clear hk); (try clear hi); have p24 : 0 ≤ (0 : Int) := (by omega); have q24 : (0 : Int) < ((x3_11.length : Int) : Int) := Sh.od; have qi24 : (0 < x3_11.length) = True := eq_true (by omega); obtain ⟨go24, oo24, co24, eo24, gb24, gl24, cl24, HG24⟩ := Kd.Q_form HO_3.out (by omega); (first | cases eo24 | (injection eo24 with ea_ en_ ec_; (first | subst ea_ | (injection ea_ with ea_; subst ea_)); subst ec_; clear en_)); have GB24 := am_ gb24; have GG24 := am_ HG24; clear gb24 gl24 HG24; obtain ⟨ce24, hcl24, hM24, hcc24, hfr24⟩ := Kd.Q_elem HO_3.out z35 (0 : Int) p24 q24; obtain rfl := k35_openM hM24; have hx24_0 : w25.cell? ⟨go24, oo24 + (0 : Int).toNat * 2, none⟩ = some (.int .i64 ((rd_T35 x3_11 0).f0)) := hcc24 0 _ rfl; have hx24_1 : w25.cell? ⟨go24, oo24 + (0 : Int).toNat * 2 + 1, none⟩ = some (.int .i64 ((rd_T35 x3_11 0).f1)) := hcc24 1 _ rfl; have hf24_0 : w25.frozen? ⟨go24, oo24 + (0 : Int).toNat * 2, none⟩ = false := hfr24 0; have hf24_1 : w25.frozen? ⟨go24, oo24 + (0 : Int).toNat * 2 + 1, none⟩ = false := hfr24 1; clear hcl24 hcc24 hfr24; (try clear hM24); (try rw [show ((0 : Int)).toNat = 0 from rfl] at hx24_0); (try simp only [Nat.reduceMul, Nat.zero_mul, Nat.zero_add, Nat.reduceAdd] at hx24_0); (try rw [show ((0 : Int)).toNat = 0 from rfl] at hf24_0); (try simp only [Nat.reduceMul, Nat.zero_mul, Nat.zero_add, Nat.reduceAdd] at hf24_0); (try rw [show ((0 : Int)).toNat = 0 from rfl] at hx24_1); (try simp only [Nat.reduceMul, Nat.zero_mul, Nat.zero_add, Nat.reduceAdd] at hx24_1); (try rw [show ((0 : Int)).toNat = 0 from rfl] at hf24_1); (try simp only [Nat.reduceMul, Nat.zero_mul, Nat.zero_add, Nat.reduceAdd] at hf24_1); replace p24 := eq_true p24; replace q24 := eq_true q24; have HX26 := am_ (show Kd.Q k35 35 w25 w.heap.size (fun _ => True) (.slice (some ⟨go24, oo24, none⟩) x3_11.length co24) x3_11 from (by (with_reducible repeat (first | apply Kd.Q_alloc | apply Kd.Q_drewN | apply Kd.Q_drew)); exact HO_3.out)); obtain ⟨ce26, hcl26, hM26, hcc26, hfr26⟩ := Kd.Q_elem HX26.out z35 (0 : Int) (by omega) (by have h_ : (0 : Int) < ((x3_11.length : Int) : Int) := Sh.od; first | exact h_ | (have e_ := (Kd.Q_reads' HO_3.out).1; omega) | simpa using h_); obtain rfl := k35_openM hM26; have HP26 := Kd.Q_seg HX26.out (0 : Int) (by omega) (by have h_ : (0 : Int) < ((x3_11.length : Int) : Int) := Sh.od; first | exact h_ | (have e_ := (Kd.Q_reads' HO_3.out).1; omega) | simpa using h_) (seg := [.int .i64 3]) (j := 1) hcl26 hcc26 (show 2 ≤ 2 from by decide) (x' := (⟨(rd_T35 x3_11 0).f0, 3⟩ : S35)) (k35_mkM _ _ _ (⟨(rd_T35 x3_11 0).f0, 3⟩ : S35) ) (fun _ hk => hk); have hx26_1 := hcc26 1 _ rfl; (try simp only [show (k35).sz = 2 from rfl, Nat.mul_one, Nat.add_zero] at hx26_1); (try rw [show ((0 : Int)).toNat = 0 from rfl] at hx26_1); (try simp only [Nat.reduceMul, Nat.zero_mul, Nat.zero_add, Nat.reduceAdd] at hx26_1); have hf26_1 := hfr26 1; (try simp only [show (k35).sz = 2 from rfl, Nat.mul_one, Nat.add_zero] at hf26_1); (try rw [show ((0 : Int)).toNat = 0 from rfl] at hf26_1); (try simp only [Nat.reduceMul, Nat.zero_mul, Nat.zero_add, Nat.reduceAdd] at hf26_1); clear hcl26 hcc26 hfr26; (try clear hM26)) | ((with_reducible refine gate_store (t := 3) (p := 29) rfl ?_); refine store_event (t := 3) (p := 29) (v := ?vo_w27) (w1 := (w25.setCell ⟨go24, oo24 + 1, none⟩ (.int .i64 3))) ?hg ?ho ?hn ?hr ?_; (case ho => rfl); (case hg => rfl); (case hn => rfl); (case hr => first | (go_simp; done) | (go_simp; rfl)); intro w27 hw; have hg : w25.grownBy w27 (some go24) := (by rw [hw]; exact HP26.2); have hp_ : Kd.Q k35 35 w27 w.heap.size (fun _ => True) (.slice (some ⟨go24, oo24, none⟩) x3_11.length co24) y194 := (by rw [hw, Ny194.out]; exact HP26.1); clear HP26; replace HI0 := am_ (IsS46.grown (by repeat (first | (with_reducible first | exact HI0.out | apply IsS46.alloc | apply IsS46.drewN | apply IsS46.drew | apply IsS46.set_1 | apply IsS46.set_2) | exact HI0.out)) hg (IsS46.own_neQ HI0.out HO_3.out (by decide))); replace HB := am_ ((by rw [hw]; exact below_set (HB.out) (Nat.le_trans HL.out GB24.out) : Below w0.heap.size w0 w27)); replace HK := am_ (KeepBut.trans (by repeat (first | (with_reducible first | exact HK.out | apply KeepBut.set_ | apply keep_drewN | apply keep_drew | apply keep_alloc) | exact HK.out)) (KeepBut.of_grown hg g) (Kd.Q_base2 HO_3.out)); replace HO_3 := am_ hp_; clear hg hw hp_))
        go_ret
        exact ⟨_, Sh.eR, by (with_reducible repeat (first | apply Kd.Q_alloc | apply Kd.Q_drewN | apply Kd.Q_drew)); exact HO_3.out, by repeat (first | (with_reducible first | exact HI0.out | apply IsS46.alloc | apply IsS46.drewN | apply IsS46.drew | apply IsS46.set_1 | apply IsS46.set_2) | exact HI0.out), by repeat (first | (with_reducible first | exact HB.out | apply below_alloc | apply pw_below_drewN | apply below_drew1 | refine below_set ?_ (IsS46.ge HI0.out)) | exact HB.out), by repeat (first | (with_reducible first | exact HK.out | apply KeepBut.set_ | apply keep_drewN | apply keep_drew | apply keep_alloc) | exact HK.out)⟩
       ·rw [if_neg c23] at H
        exact absurd H (by simp)
      ·rw [if_neg c22] at H
       have c22b0 : (t188 == 1) = false := beq_eq_false_iff_ne.mpr c22
       have c22b1 : (t188 != 1) = true := bne_iff_ne.mpr c22
       by_cases c28 : t188 = 2
       ·rw [if_pos c28] at H
        have c28b0 : (t188 == 2) = true := beq_iff_eq.mpr c28
        have c28b1 : (t188 != 2) = false := bne_eq_false_iff_eq.mpr c28
        clear c28
        obtain ⟨⟨t195, t196, t197⟩, A290, H⟩ := Sh.bd H
        have A29 := am_ A290
        clear A290
        obtain ⟨ji30, hj1⟩ : ∃ j_ : Int, (wrap64 ((x3_11.length : Int) - 1)) = j_ := ⟨_, rfl⟩
        replace H : (if 0 ≤ (ji30) then (if (ji30) < (x3_11.length : Int) then (some ((x3_11.set ((ji30) : Int).toNat (⟨t195, (rd_T35 x3_11 (ji30)).f1⟩ : S35)), t196, t197)) else (none)) else (none)) = some (r1, r2, r3) := by first | (rw [hj1] at H; exact H) | (simp only [hj1] at H ⊢; exact H)
        (try rw [hj1] at A16)
        (try rw [hj1] at A29)
        have hji30w : (IntKind.i64.wrap ((x3_11.length : Int) - 1)) = ji30 := (i64_w _).trans hj1
        by_cases c31 : 0 ≤ (ji30)
        ·rw [if_pos c31] at H
         have c31b0 := decide_eq_true c31
         clear c31
         by_cases c32 : (ji30) < (x3_11.length : Int)
         ·rw [if_pos c32] at H
          have c32b0 := decide_eq_true c32
          clear c32
          obtain ⟨y198, hy198⟩ : ∃ y_ : List (S35), y_ = (x3_11.set ((ji30) : Int).toNat (⟨t195, (rd_T35 x3_11 (ji30)).f1⟩ : S35)) := ⟨_, rfl⟩
          replace H : (some (y198, t196, t197)) = some (r1, r2, r3) := by first | (rw [hy198]; with_reducible exact H) | (have H2_ := (Option.bind_some _ _).symm.trans H; rw [hy198]; with_reducible exact H2_) | (have H2_ := (Option.bind_some _ _).symm.trans H; with_reducible exact H2_) | with_reducible exact H | (rw [hy198]; exact H) | exact H
          have Ny198 := am_ hy198
          clear hy198
          simp only [Option.some.injEq, Prod.mk.injEq] at H
          obtain ⟨rfl, rfl, rfl⟩ := H
          go_wp2_with (first | ((with_reducible refine Sh.k 19 ?_); refine Sh.gL (some 20) Try.func19 #[.pointer (some ⟨g, 0, none⟩), .int .i64 40] (h := ?_); (with_reducible refine (spec_l1Cur_pick.calls g s0_0 x1001_11 x1002_11 40 t188 t189 t190 w0 _ ?side1 ?side2 A16.out).mono ?_); (case side1 => repeat (first | (with_reducible first | exact HI0.out | apply IsS46.alloc | apply IsS46.drewN | apply IsS46.drew | apply IsS46.set_1 | apply IsS46.set_2) | exact HI0.out)); (case side2 => repeat (first | (with_reducible first | exact HB.out | apply below_alloc | apply pw_below_drewN | apply below_drew1 | refine below_set ?_ (IsS46.ge HI0.out)) | exact HB.out)); rintro e w34 ⟨rfl, hi, hb, hk⟩; refine ⟨_, rfl, ?_⟩; replace HO_3 := am_ (Kd.Q_mono (Kd.Q_keep (IsS46.apartQ (show IsS46 w0 _ g s0_0 x1001_11 x1002_11 from by repeat (first | (with_reducible first | exact HI0.out | apply IsS46.alloc | apply IsS46.drewN | apply IsS46.drew | apply IsS46.set_1 | apply IsS46.set_2) | exact HI0.out)) (by (with_reducible repeat (first | apply Kd.Q_alloc | apply Kd.Q_drewN | apply Kd.Q_drew)); exact HO_3.out) (by decide)) hk (fun _ h => h.2)) (fun _ h => h.1)); replace HK := am_ (KeepBut.trans (by repeat (first | (with_reducible first | exact HK.out | apply KeepBut.set_ | apply keep_drewN | apply keep_drew | apply keep_alloc) | exact HK.out)) hk (.inl rfl)); replace HB := am_ hb; replace HI0 := am_ hi; (try clear hb); (try clear hb2); (try clear hk); (try clear hi); obtain ⟨Ao35, co35, eo35, _⟩ := Kd.Q_slice HO_3.out; subst eo35) | ((with_reducible refine Sh.k 19 ?_); refine Sh.gL (some 37) Try.func19 #[.pointer (some ⟨g, 0, none⟩), .int .i64 10] (h := ?_); (with_reducible refine (spec_l1Cur_pick.calls g s0_0 t189 t190 10 t195 t196 t197 w0 _ ?side1 ?side2 A29.out).mono ?_); (case side1 => repeat (first | (with_reducible first | exact HI0.out | apply IsS46.alloc | apply IsS46.drewN | apply IsS46.drew | apply IsS46.set_1 | apply IsS46.set_2) | exact HI0.out)); (case side2 => repeat (first | (with_reducible first | exact HB.out | apply below_alloc | apply pw_below_drewN | apply below_drew1 | refine below_set ?_ (IsS46.ge HI0.out)) | exact HB.out)); rintro e w36 ⟨rfl, hi, hb, hk⟩; refine ⟨_, rfl, ?_⟩; replace HO_3 := am_ (Kd.Q_mono (Kd.Q_keep (IsS46.apartQ (show IsS46 w0 _ g s0_0 t189 t190 from by repeat (first | (with_reducible first | exact HI0.out | apply IsS46.alloc | apply IsS46.drewN | apply IsS46.drew | apply IsS46.set_1 | apply IsS46.set_2) | exact HI0.out)) (by (with_reducible repeat (first | apply Kd.Q_alloc | apply Kd.Q_drewN | apply Kd.Q_drew)); exact HO_3.out) (by decide)) hk (fun _ h => h.2)) (fun _ h => h.1)); replace HK := am_ (KeepBut.trans (by repeat (first | (with_reducible first | exact HK.out | apply KeepBut.set_ | apply keep_drewN | apply keep_drew | apply keep_alloc) | exact HK.out)) hk (.inl rfl)); replace HB := am_ hb; replace HI0 := am_ hi; (try clear hb); (try clear hb2); (try clear hk); (try clear hi); have p33 : 0 ≤ ((ji30) : Int) := Sh.od; have q33 : ((ji30) : Int) < ((x3_11.length : Int) : Int) := Sh.od; obtain ⟨go33, oo33, co33, eo33, gb33, gl33, cl33, HG33⟩ := Kd.Q_form HO_3.out (by omega); (first | cases eo33 | (injection eo33 with ea_ en_ ec_; (first | subst ea_ | (injection ea_ with ea_; subst ea_)); subst ec_; clear en_)); have GB33 := am_ gb33; have GG33 := am_ HG33; clear gb33 gl33 HG33; obtain ⟨ce33, hcl33, hM33, hcc33, hfr33⟩ := Kd.Q_elem HO_3.out z35 ((ji30) : Int) p33 q33; obtain rfl := k35_openM hM33; have hx33_0 : w36.cell? ⟨go33, oo33 + ((ji30) : Int).toNat * 2, none⟩ = some (.int .i64 ((rd_T35 x3_11 (ji30)).f0)) := hcc33 0 _ rfl; have hx33_1 : w36.cell? ⟨go33, oo33 + ((ji30) : Int).toNat * 2 + 1, none⟩ = some (.int .i64 ((rd_T35 x3_11 (ji30)).f1)) := hcc33 1 _ rfl; have hf33_0 : w36.frozen? ⟨go33, oo33 + ((ji30) : Int).toNat * 2, none⟩ = false := hfr33 0; have hf33_1 : w36.frozen? ⟨go33, oo33 + ((ji30) : Int).toNat * 2 + 1, none⟩ = false := hfr33 1; clear hcl33 hcc33 hfr33; (try clear hM33); replace p33 := eq_true p33; replace q33 := eq_true q33; have HX37 := am_ (show Kd.Q k35 35 w36 w.heap.size (fun _ => True) (.slice (some ⟨go33, oo33, none⟩) x3_11.length co35) x3_11 from (by (with_reducible repeat (first | apply Kd.Q_alloc | apply Kd.Q_drewN | apply Kd.Q_drew)); exact HO_3.out)); obtain ⟨ce37, hcl37, hM37, hcc37, hfr37⟩ := Kd.Q_elem HX37.out z35 ((ji30) : Int) (of_decide_eq_true (by first | (with_reducible assumption) | assumption)) (by have h_ : ((ji30) : Int) < ((x3_11.length : Int) : Int) := Sh.od; first | exact h_ | (have e_ := (Kd.Q_reads' HO_3.out).1; omega) | simpa using h_); obtain rfl := k35_openM hM37; have HP37 := Kd.Q_seg HX37.out ((ji30) : Int) (of_decide_eq_true (by first | (with_reducible assumption) | assumption)) (by have h_ : ((ji30) : Int) < ((x3_11.length : Int) : Int) := Sh.od; first | exact h_ | (have e_ := (Kd.Q_reads' HO_3.out).1; omega) | simpa using h_) (seg := [.int .i64 t195]) (j := 0) hcl37 hcc37 (show 1 ≤ 2 from by decide) (x' := (⟨t195, (rd_T35 x3_11 (ji30)).f1⟩ : S35)) (k35_mkM _ _ _ (⟨t195, (rd_T35 x3_11 (ji30)).f1⟩ : S35) ) (fun _ hk => hk); have hx37_0 := hcc37 0 _ rfl; (try simp only [show (k35).sz = 2 from rfl, Nat.mul_one, Nat.add_zero] at hx37_0); have hf37_0 := hfr37 0; (try simp only [show (k35).sz = 2 from rfl, Nat.mul_one, Nat.add_zero] at hf37_0); clear hcl37 hcc37 hfr37; (try clear hM37)) | ((with_reducible refine gate_store (t := 3) (p := 39) rfl ?_); refine store_event (t := 3) (p := 39) (v := ?vo_w38) (w1 := (w36.setCell ⟨go33, oo33 + ((ji30) : Int).toNat * 2, none⟩ (.int .i64 t195))) ?hg ?ho ?hn ?hr ?_; (case ho => rfl); (case hg => rfl); (case hn => rfl); (case hr => first | (go_simp; done) | (go_simp; rfl)); intro w38 hw; have hg : w36.grownBy w38 (some go33) := (by rw [hw]; exact HP37.2); have hp_ : Kd.Q k35 35 w38 w.heap.size (fun _ => True) (.slice (some ⟨go33, oo33, none⟩) x3_11.length co35) y198 := (by rw [hw, Ny198.out]; exact HP37.1); clear HP37; replace HI0 := am_ (IsS46.grown (by repeat (first | (with_reducible first | exact HI0.out | apply IsS46.alloc | apply IsS46.drewN | apply IsS46.drew | apply IsS46.set_1 | apply IsS46.set_2) | exact HI0.out)) hg (IsS46.own_neQ HI0.out HO_3.out (by decide))); replace HB := am_ ((by rw [hw]; exact below_set (HB.out) (Nat.le_trans HL.out GB33.out) : Below w0.heap.size w0 w38)); replace HK := am_ (KeepBut.trans (by repeat (first | (with_reducible first | exact HK.out | apply KeepBut.set_ | apply keep_drewN | apply keep_drew | apply keep_alloc) | exact HK.out)) (KeepBut.of_grown hg g) (Kd.Q_base2 HO_3.out)); replace HO_3 := am_ hp_; clear hg hw hp_))
          go_ret
          exact ⟨_, by first | rfl | (simp [errW_none, errW_some] <;> rfl) | (simp only [← hj1]; first | rfl | (simp [errW_none, errW_some] <;> rfl)) | (simp [*, errW_none, errW_some] <;> rfl), by (with_reducible repeat (first | apply Kd.Q_alloc | apply Kd.Q_drewN | apply Kd.Q_drew)); exact HO_3.out, by repeat (first | (with_reducible first | exact HI0.out | apply IsS46.alloc | apply IsS46.drewN | apply IsS46.drew | apply IsS46.set_1 | apply IsS46.set_2) | exact HI0.out), by repeat (first | (with_reducible first | exact HB.out | apply below_alloc | apply pw_below_drewN | apply below_drew1 | refine below_set ?_ (IsS46.ge HI0.out)) | exact HB.out), by repeat (first | (with_reducible first | exact HK.out | apply KeepBut.set_ | apply keep_drewN | apply keep_drew | apply keep_alloc) | exact HK.out)⟩
         ·rw [if_neg c32] at H
          exact absurd H (by simp)
        ·rw [if_neg c31] at H
         exact absurd H (by simp)
       ·rw [if_neg c28] at H
        have c28b0 : (t188 == 2) = false := beq_eq_false_iff_ne.mpr c28
        have c28b1 : (t188 != 2) = true := bne_iff_ne.mpr c28
        simp only [Option.some.injEq, Prod.mk.injEq] at H
        obtain ⟨rfl, rfl, rfl⟩ := H
        go_wp2_with (first | ((with_reducible refine Sh.k 19 ?_); refine Sh.gL (some 20) Try.func19 #[.pointer (some ⟨g, 0, none⟩), .int .i64 40] (h := ?_); (with_reducible refine (spec_l1Cur_pick.calls g s0_0 x1001_11 x1002_11 40 t188 t189 t190 w0 _ ?side1 ?side2 A16.out).mono ?_); (case side1 => repeat (first | (with_reducible first | exact HI0.out | apply IsS46.alloc | apply IsS46.drewN | apply IsS46.drew | apply IsS46.set_1 | apply IsS46.set_2) | exact HI0.out)); (case side2 => repeat (first | (with_reducible first | exact HB.out | apply below_alloc | apply pw_below_drewN | apply below_drew1 | refine below_set ?_ (IsS46.ge HI0.out)) | exact HB.out)); rintro e w39 ⟨rfl, hi, hb, hk⟩; refine ⟨_, rfl, ?_⟩; replace HO_3 := am_ (Kd.Q_mono (Kd.Q_keep (IsS46.apartQ (show IsS46 w0 _ g s0_0 x1001_11 x1002_11 from by repeat (first | (with_reducible first | exact HI0.out | apply IsS46.alloc | apply IsS46.drewN | apply IsS46.drew | apply IsS46.set_1 | apply IsS46.set_2) | exact HI0.out)) (by (with_reducible repeat (first | apply Kd.Q_alloc | apply Kd.Q_drewN | apply Kd.Q_drew)); exact HO_3.out) (by decide)) hk (fun _ h => h.2)) (fun _ h => h.1)); replace HK := am_ (KeepBut.trans (by repeat (first | (with_reducible first | exact HK.out | apply KeepBut.set_ | apply keep_drewN | apply keep_drew | apply keep_alloc) | exact HK.out)) hk (.inl rfl)); replace HB := am_ hb; replace HI0 := am_ hi; (try clear hb); (try clear hb2); (try clear hk); (try clear hi)))
        go_ret
        exact ⟨_, Sh.eR, by (with_reducible repeat (first | apply Kd.Q_alloc | apply Kd.Q_drewN | apply Kd.Q_drew)); exact HO_3.out, by repeat (first | (with_reducible first | exact HI0.out | apply IsS46.alloc | apply IsS46.drewN | apply IsS46.drew | apply IsS46.set_1 | apply IsS46.set_2) | exact HI0.out), by repeat (first | (with_reducible first | exact HB.out | apply below_alloc | apply pw_below_drewN | apply below_drew1 | refine below_set ?_ (IsS46.ge HI0.out)) | exact HB.out), by repeat (first | (with_reducible first | exact HK.out | apply KeepBut.set_ | apply keep_drewN | apply keep_drew | apply keep_alloc) | exact HK.out)⟩
def spec_DrawGoodSaid.f (k : Nat) (l0 : List Int) : Option ((List (S35))) := (spec_l1Cur_said.f k l0 0 0).bind fun bt200 => (some bt200.1)
theorem spec_DrawGoodSaid.mono : ∀ a0 k, LeO (spec_DrawGoodSaid.f k a0) (spec_DrawGoodSaid.f (k + 1) a0) := by
 intro a0 k
 unfold spec_DrawGoodSaid.f
 repeat' with_reducible first | apply spec_l1Cur_said.mono | exact LeO.refl _ | exact LeO.none _ | apply LeO.ite | refine LeO.bind ?_ fun _ => ?_
theorem spec_DrawGoodSaid.calls (k : Nat) (A0 : Option Addr) (c0 : Nat) (l0 : List Int) (r : List (S35)) (w : World) (hr0 : Kd.C (Kd.int .u8) w A0 l0.length l0) (hc0 : l0.length ≤ c0) (h : spec_DrawGoodSaid.f k l0 = some r) :
  Calls Try.prog 12 #[.slice A0 l0.length c0] w fun e w' => ∃ v0_ : Value, e = .returned (v0_) ∧ Kd.Q k35 35 w' w.heap.size (fun _ => True) v0_ r ∧ Below w.heap.size w w' := by
 have hu46 := Try.underlying46
 have HR0 := am_ hr0
 have HC0 := am_ hc0
 clear hr0 hc0
 have HB := am_ (Below.refl w.heap.size w)
 have H := h
 clear h
 unfold spec_DrawGoodSaid.f at H
 obtain ⟨⟨t200, t203, t204⟩, A20, H⟩ := Sh.bd H
 have A2 := am_ A20
 clear A20
 obtain rfl := Option.some.inj H
 go_enter Try.func12, Try.ntmps12
 go_wp2_with (first | ((with_reducible refine Sh.d 6 ?_); refine Sh.bz w (N := 6) (cs := #[.slice A0 l0.length c0, .int .i64 0, .int .u64 0]) (t := 46) (h := ?_); clear HB; intro gb199 w3 BK199 GE199 HB; have HI199 := am_ (show IsS46 w w3 gb199 l0 0 0 from ⟨_, _, BK199.out, GE199.out, HR0.out⟩)) | ((with_reducible refine Sh.k 18 ?_); refine Sh.gL (some 8) Try.func18 #[.pointer (some ⟨gb199, 0, none⟩)] (h := ?_); (with_reducible refine (spec_l1Cur_said.calls k gb199 l0 0 0 t200 t203 t204 w _ ?side1 ?side2 A2.out).mono ?_); (case side1 => repeat (first | (with_reducible first | exact HI199.out | apply IsS46.alloc | apply IsS46.drewN | apply IsS46.drew | apply IsS46.set_1 | apply IsS46.set_2) | exact HI199.out)); (case side2 => repeat (first | (with_reducible first | exact HB.out | apply below_alloc | apply pw_below_drewN | apply below_drew1 | refine below_set ?_ (IsS46.ge HI199.out)) | exact HB.out)); rintro e w4 ⟨v201, rfl, ho0, hi, hb, hk⟩; refine ⟨_, rfl, ?_⟩; have HO202 := am_ (Kd.Q_lower ho0 (below_size (by repeat (first | (with_reducible first | exact HB.out | apply below_alloc | apply pw_below_drewN | apply below_drew1 | refine below_set ?_ (IsS46.ge HI199.out)) | exact HB.out)))); replace HB := am_ hb; replace HI199 := am_ hi; (try clear hb); (try clear hb2); (try clear hk); (try clear hi); (try clear ho0)))
 go_ret
 exact ⟨_, Sh.eR, by (with_reducible repeat (first | apply Kd.Q_alloc | apply Kd.Q_drewN | apply Kd.Q_drew)); exact HO202.out, by repeat (first | (with_reducible first | exact HB.out | apply below_alloc | apply pw_below_drewN | apply below_drew1 | refine below_set ?_ (IsS46.ge HI199.out)) | exact HB.out)⟩
def spec_DrawSaidText.f (k : Nat) (l0 : List Int) : Option ((List (S35))) := (spec_DrawGoodSaid.f k l0).bind fun t205 => (some t205)
theorem spec_DrawSaidText.mono : ∀ a0 k, LeO (spec_DrawSaidText.f k a0) (spec_DrawSaidText.f (k + 1) a0) := by
 intro a0 k
 unfold spec_DrawSaidText.f
 repeat' with_reducible first | apply spec_DrawGoodSaid.mono | exact LeO.refl _ | exact LeO.none _ | apply LeO.ite | refine LeO.bind ?_ fun _ => ?_
theorem spec_DrawSaidText.calls (k : Nat) (A0 : Option Addr) (c0 : Nat) (l0 : List Int) (r : List (S35)) (w : World) (hr0 : Kd.C (Kd.int .u8) w A0 l0.length l0) (hc0 : l0.length ≤ c0) (h : spec_DrawSaidText.f k l0 = some r) :
  Calls Try.prog 5 #[.slice A0 l0.length c0] w fun e w' => ∃ v0_ : Value, e = .returned (v0_) ∧ Kd.Q k35 35 w' w.heap.size (fun _ => True) v0_ r ∧ Below w.heap.size w w' := by
 have HR0 := am_ hr0
 have HC0 := am_ hc0
 clear hr0 hc0
 have HB := am_ (Below.refl w.heap.size w)
 have H := h
 clear h
 unfold spec_DrawSaidText.f at H
 obtain ⟨t205, A2, H⟩ := Sh.ba H
 obtain rfl := Option.some.inj H
 go_enter Try.func5, Try.ntmps5
 go_wp2_with (first | ((with_reducible refine Sh.k 12 ?_); refine Sh.gL (some 4) Try.func12 #[.slice A0 l0.length c0] (h := ?_); (with_reducible refine (spec_DrawGoodSaid.calls k _ _ l0 t205 _ ?side1 ?side2 A2.out).mono ?_); (case side1 => repeat (first | exact HR0.out | (with_reducible first | refine Kd.C_alloc ?_ _ | refine Kd.C_drewN ?_ _ | refine Kd.C_drew ?_))); (case side2 => exact HC0.out); rintro e w3 ⟨v206, rfl, ho0, hb⟩; refine ⟨_, rfl, ?_⟩; have HO207 := am_ (Kd.Q_lower ho0 (below_size Sh.bw)); replace HB := Sh.hb hb; (try clear hb); (try clear hb2); (try clear hk); (try clear hi); (try clear ho0)))
 go_ret
 exact ⟨_, Sh.eR, by (with_reducible repeat (first | apply Kd.Q_alloc | apply Kd.Q_drewN | apply Kd.Q_drew)); exact HO207.out, Sh.bw⟩
mutual
def impl_operandsOfSaid.j0 : Nat → Int → Bool → Option (Int)
 | 0, _, _ => none
 | k + 1, x3, x4 => if x4 = true then (some 0) else (if x3 = 3 then (impl_operandsOfSaid.j1 k x3 (x3 == 3)) else (impl_operandsOfSaid.j1 k x3 (x3 == 4)))
def impl_operandsOfSaid.j1 : Nat → Int → Bool → Option (Int)
 | 0, _, _ => none
 | k + 1, x3, x7 => if x7 = true then (some 1) else (if x3 = 5 then (some 2) else (if x3 = 6 then (some 2) else (if x3 = 7 then (some 2) else (if x3 = 8 then (some 2) else (some (-1))))))
end
def impl_operandsOfSaid.f (k : Nat) (a0 : Int) : Option (Int) := if a0 = 1 then (impl_operandsOfSaid.j0 k a0 (a0 == 1)) else (impl_operandsOfSaid.j0 k a0 (a0 == 2))
theorem impl_operandsOfSaid.mono_l : ∀ k, (∀ y0 y1, LeO (impl_operandsOfSaid.j0 k y0 y1) (impl_operandsOfSaid.j0 (k + 1) y0 y1)) ∧ (∀ y0 y1, LeO (impl_operandsOfSaid.j1 k y0 y1) (impl_operandsOfSaid.j1 (k + 1) y0 y1))
 | 0 => ⟨fun _ _ r h => by simp [impl_operandsOfSaid.j0] at h, fun _ _ r h => by simp [impl_operandsOfSaid.j1] at h⟩
 | k + 1 => by
  obtain ⟨ih0, ih1⟩ := impl_operandsOfSaid.mono_l k
  and_intros <;> intros
  all_goals (first | unfold impl_operandsOfSaid.j0 | unfold impl_operandsOfSaid.j1)
  all_goals repeat' with_reducible first | apply ih0 | apply ih1 | exact LeO.refl _ | exact LeO.none _ | apply LeO.ite | refine LeO.bind ?_ fun _ => ?_
theorem impl_operandsOfSaid.mono : ∀ a0 k, LeO (impl_operandsOfSaid.f k a0) (impl_operandsOfSaid.f (k + 1) a0) := by
 intro a0 k
 obtain ⟨ih0, ih1⟩ := impl_operandsOfSaid.mono_l k
 unfold impl_operandsOfSaid.f
 repeat' with_reducible first | apply ih0 | apply ih1 | exact LeO.refl _ | exact LeO.none _ | apply LeO.ite | refine LeO.bind ?_ fun _ => ?_
theorem impl_operandsOfSaid.calls (k : Nat) (a0 : Int) (r : Int) (w : World) (h : impl_operandsOfSaid.f k a0 = some r) :
  Calls Try.prog 14 #[.int .i64 a0] w fun e w' => e = .returned (.int .i64 r) ∧ Drawn0 w w' := by
 have H := h
 clear h
 unfold impl_operandsOfSaid.f at H
 have HC2 := am_ H
 clear H
 go_enter Try.func14, Try.ntmps14
 go_upto_if 4 with (fail)
 go_cut [4] (fun v4 wc => ∃ (kq : Nat) (x4_1 : Bool), v4 = .bool x4_1 ∧ Aside0 (impl_operandsOfSaid.j0 kq a0 x4_1 = some r) ∧ Aside0 (kq ≤ k) ∧ Drawn0 w wc)
 case first =>
  have H := HC2.out
  clear HC2
  by_cases c3 : a0 = 1
  ·rw [if_pos c3] at H
   have c3b0 : (a0 == 1) = true := beq_iff_eq.mpr c3
   have c3b1 : (a0 != 1) = false := bne_eq_false_iff_eq.mpr c3
   clear c3
   first | rw [c3b0] | (simp only [i64_w, i32_w]; rw [c3b0]) | skip
   have H' := am_ H
   clear H
   go_wp2
   go_meet
   case rel => exact ⟨_, ((a0 == 1)), (Sh.es), H', ⟨Sh.om⟩, Sh.dr⟩
  ·rw [if_neg c3] at H
   have c3b0 : (a0 == 1) = false := beq_eq_false_iff_ne.mpr c3
   have c3b1 : (a0 != 1) = true := bne_iff_ne.mpr c3
   first | rw [c3b0] | (simp only [i64_w, i32_w]; rw [c3b0]) | skip
   have H' := am_ H
   clear H
   go_wp2
   go_meet
   case rel => exact ⟨_, ((a0 == 2)), (Sh.es), H', ⟨Sh.om⟩, Sh.dr⟩
 case rest =>
  clear HC2
  obtain ⟨kq, x4_1, rfl, HA, HJ1, ⟨mc1, rfl⟩⟩ := hcut
  cases kq with
  | zero => exact absurd HA.out (by simp [impl_operandsOfSaid.j0])
  | succ kj1 =>
   have H := HA.out
   clear HA
   simp only [impl_operandsOfSaid.j0] at H
   by_cases c4 : x4_1 = true
   ·subst c4
    rw [if_pos rfl] at H
    obtain rfl := Option.some.inj H
    go_wp2
    go_ret
    exact ⟨Sh.es, Sh.dr⟩
   ·replace c4 := Bool.eq_false_iff.mpr c4
    subst c4
    rw [Sh.nf] at H
    have HC5 := am_ H
    clear H
    go_upto_if 7 with (fail)
    go_cut [7] (fun v7 wc => ∃ (kq : Nat) (x7_4 : Bool), v7 = .bool x7_4 ∧ Aside0 (impl_operandsOfSaid.j1 kq a0 x7_4 = some r) ∧ Aside0 (kq ≤ kj1) ∧ Drawn0 w wc)
    case first =>
     have H := HC5.out
     clear HC5
     by_cases c6 : a0 = 3
     ·rw [if_pos c6] at H
      have c6b0 : (a0 == 3) = true := beq_iff_eq.mpr c6
      have c6b1 : (a0 != 3) = false := bne_eq_false_iff_eq.mpr c6
      clear c6
      first | rw [c6b0] | (simp only [i64_w, i32_w]; rw [c6b0]) | skip
      have H' := am_ H
      clear H
      go_wp2
      go_meet
      case rel => exact ⟨_, ((a0 == 3)), (Sh.es), H', ⟨by have := HJ1.out; first | omega | exact Nat.le_refl _⟩, Sh.dr⟩
     ·rw [if_neg c6] at H
      have c6b0 : (a0 == 3) = false := beq_eq_false_iff_ne.mpr c6
      have c6b1 : (a0 != 3) = true := bne_iff_ne.mpr c6
      first | rw [c6b0] | (simp only [i64_w, i32_w]; rw [c6b0]) | skip
      have H' := am_ H
      clear H
      go_wp2
      go_meet
      case rel => exact ⟨_, ((a0 == 4)), (Sh.es), H', ⟨by have := HJ1.out; first | omega | exact Nat.le_refl _⟩, Sh.dr⟩
    case rest =>
     clear HC5
     obtain ⟨kq, x7_4, rfl, HA, HJ4, ⟨mc4, rfl⟩⟩ := hcut
     cases kq with
     | zero => exact absurd HA.out (by simp [impl_operandsOfSaid.j1])
     | succ kj4 =>
      have H := HA.out
      clear HA
      simp only [impl_operandsOfSaid.j1] at H
      by_cases c7 : x7_4 = true
      ·subst c7
       rw [if_pos rfl] at H
       obtain rfl := Option.some.inj H
       go_wp2
       go_ret
       exact ⟨Sh.es, Sh.dr⟩
      ·replace c7 := Bool.eq_false_iff.mpr c7
       subst c7
       rw [Sh.nf] at H
       by_cases c8 : a0 = 5
       ·rw [if_pos c8] at H
        have c8b0 : (a0 == 5) = true := beq_iff_eq.mpr c8
        have c8b1 : (a0 != 5) = false := bne_eq_false_iff_eq.mpr c8
        clear c8
        obtain rfl := Option.some.inj H
        go_wp2
        go_ret
        exact ⟨Sh.es, Sh.dr⟩
       ·rw [if_neg c8] at H
        have c8b0 : (a0 == 5) = false := beq_eq_false_iff_ne.mpr c8
        have c8b1 : (a0 != 5) = true := bne_iff_ne.mpr c8
        by_cases c9 : a0 = 6
        ·rw [if_pos c9] at H
         have c9b0 : (a0 == 6) = true := beq_iff_eq.mpr c9
         have c9b1 : (a0 != 6) = false := bne_eq_false_iff_eq.mpr c9
         clear c9
         obtain rfl := Option.some.inj H
         go_wp2
         go_ret
         exact ⟨Sh.es, Sh.dr⟩
        ·rw [if_neg c9] at H
         have c9b0 : (a0 == 6) = false := beq_eq_false_iff_ne.mpr c9
         have c9b1 : (a0 != 6) = true := bne_iff_ne.mpr c9
         by_cases c10 : a0 = 7
         ·rw [if_pos c10] at H
          have c10b0 : (a0 == 7) = true := beq_iff_eq.mpr c10
          have c10b1 : (a0 != 7) = false := bne_eq_false_iff_eq.mpr c10
          clear c10
          obtain rfl := Option.some.inj H
          go_wp2
          go_ret
          exact ⟨Sh.es, Sh.dr⟩
         ·rw [if_neg c10] at H
          have c10b0 : (a0 == 7) = false := beq_eq_false_iff_ne.mpr c10
          have c10b1 : (a0 != 7) = true := bne_iff_ne.mpr c10
          by_cases c11 : a0 = 8
          ·rw [if_pos c11] at H
           have c11b0 : (a0 == 8) = true := beq_iff_eq.mpr c11
           have c11b1 : (a0 != 8) = false := bne_eq_false_iff_eq.mpr c11
           clear c11
           obtain rfl := Option.some.inj H
           go_wp2
           go_ret
           exact ⟨Sh.es, Sh.dr⟩
          ·rw [if_neg c11] at H
           have c11b0 : (a0 == 8) = false := beq_eq_false_iff_ne.mpr c11
           have c11b1 : (a0 != 8) = true := bne_iff_ne.mpr c11
           obtain rfl := Option.some.inj H
           go_wp2
           go_ret
           exact ⟨Sh.es, Sh.dr⟩
def impl_isSaid.f (k : Nat) (a0_0 : Int) (a0_1 : Int) : Option (Bool) := if a0_0 = 1 then (if a0_1 ≥ 0 then (some (decide (a0_1 < 3))) else (some false)) else (if a0_0 = 2 then (if a0_1 = 0 then (some true) else (some (a0_1 == 1))) else ((impl_operandsOfSaid.f k a0_0).bind fun t209 => (if t209 > 0 then (some (a0_1 == 0)) else (some false))))
theorem impl_isSaid.mono : ∀ a0 a1 k, LeO (impl_isSaid.f k a0 a1) (impl_isSaid.f (k + 1) a0 a1) := by
 intro a0 a1 k
 unfold impl_isSaid.f
 repeat' with_reducible first | apply impl_operandsOfSaid.mono | exact LeO.refl _ | exact LeO.none _ | apply LeO.ite | refine LeO.bind ?_ fun _ => ?_
theorem impl_isSaid.calls (k : Nat) (a0_0 : Int) (a0_1 : Int) (r : Bool) (w : World) (h : impl_isSaid.f k a0_0 a0_1 = some r) :
  Calls Try.prog 23 #[.agg #[.int .i64 a0_0, .int .i64 a0_1]] w fun e w' => e = .returned (.bool r) ∧ Below w.heap.size w w' := by
 have hu35 := Try.underlying35
 have HB := am_ (Below.refl w.heap.size w)
 have H := h
 clear h
 unfold impl_isSaid.f at H
 by_cases c2 : a0_0 = 1
 ·rw [if_pos c2] at H
  have c2b0 : (a0_0 == 1) = true := beq_iff_eq.mpr c2
  have c2b1 : (a0_0 != 1) = false := bne_eq_false_iff_eq.mpr c2
  clear c2
  by_cases c3 : a0_1 ≥ 0
  ·rw [if_pos c3] at H
   have c3b0 : decide (0 ≤ a0_1) = true := decide_eq_true c3
   clear c3
   obtain rfl := Option.some.inj H
   go_enter Try.func23, Try.ntmps23
   go_wp2_with (first | ((with_reducible refine Sh.d 1 ?_); refine Sh.bz w (N := 1) (cs := #[.int .i64 a0_0, .int .i64 a0_1]) (t := 35) (h := ?_); clear HB; intro gb208 w4 BK208 GE208 HB; obtain ⟨hcz5_0, hcz5_1, hfz5_0, hfz5_1⟩ := Sh.b2 BK208.out))
   go_ret
   exact ⟨Sh.eR, Sh.bw⟩
  ·rw [if_neg c3] at H
   have c3b0 : decide (0 ≤ a0_1) = false := decide_eq_false c3
   clear c3
   obtain rfl := Option.some.inj H
   go_enter Try.func23, Try.ntmps23
   go_wp2_with (first | ((with_reducible refine Sh.d 1 ?_); refine Sh.bz w (N := 1) (cs := #[.int .i64 a0_0, .int .i64 a0_1]) (t := 35) (h := ?_); clear HB; intro gb208 w6 BK208 GE208 HB; obtain ⟨hcz7_0, hcz7_1, hfz7_0, hfz7_1⟩ := Sh.b2 BK208.out))
   go_ret
   exact ⟨Sh.eR, Sh.bw⟩
 ·rw [if_neg c2] at H
  have c2b0 : (a0_0 == 1) = false := beq_eq_false_iff_ne.mpr c2
  have c2b1 : (a0_0 != 1) = true := bne_iff_ne.mpr c2
  by_cases c8 : a0_0 = 2
  ·rw [if_pos c8] at H
   have c8b0 : (a0_0 == 2) = true := beq_iff_eq.mpr c8
   have c8b1 : (a0_0 != 2) = false := bne_eq_false_iff_eq.mpr c8
   clear c8
   by_cases c9 : a0_1 = 0
   ·rw [if_pos c9] at H
    have c9b0 : (a0_1 == 0) = true := beq_iff_eq.mpr c9
    have c9b1 : (a0_1 != 0) = false := bne_eq_false_iff_eq.mpr c9
    clear c9
    obtain rfl := Option.some.inj H
    go_enter Try.func23, Try.ntmps23
    go_wp2_with (first | ((with_reducible refine Sh.d 1 ?_); refine Sh.bz w (N := 1) (cs := #[.int .i64 a0_0, .int .i64 a0_1]) (t := 35) (h := ?_); clear HB; intro gb208 w10 BK208 GE208 HB; obtain ⟨hcz11_0, hcz11_1, hfz11_0, hfz11_1⟩ := Sh.b2 BK208.out))
    go_ret
    exact ⟨Sh.eR, Sh.bw⟩
   ·rw [if_neg c9] at H
    have c9b0 : (a0_1 == 0) = false := beq_eq_false_iff_ne.mpr c9
    have c9b1 : (a0_1 != 0) = true := bne_iff_ne.mpr c9
    obtain rfl := Option.some.inj H
    go_enter Try.func23, Try.ntmps23
    go_wp2_with (first | ((with_reducible refine Sh.d 1 ?_); refine Sh.bz w (N := 1) (cs := #[.int .i64 a0_0, .int .i64 a0_1]) (t := 35) (h := ?_); clear HB; intro gb208 w12 BK208 GE208 HB; obtain ⟨hcz13_0, hcz13_1, hfz13_0, hfz13_1⟩ := Sh.b2 BK208.out))
    go_ret
    exact ⟨Sh.eR, Sh.bw⟩
  ·rw [if_neg c8] at H
   have c8b0 : (a0_0 == 2) = false := beq_eq_false_iff_ne.mpr c8
   have c8b1 : (a0_0 != 2) = true := bne_iff_ne.mpr c8
   obtain ⟨t209, A14, H⟩ := Sh.ba H
   by_cases c15 : t209 > 0
   ·rw [if_pos c15] at H
    have c15b0 : decide (0 < t209) = true := decide_eq_true c15
    clear c15
    obtain rfl := Option.some.inj H
    go_enter Try.func23, Try.ntmps23
    go_wp2_with (first | ((with_reducible refine Sh.d 1 ?_); refine Sh.bz w (N := 1) (cs := #[.int .i64 a0_0, .int .i64 a0_1]) (t := 35) (h := ?_); clear HB; intro gb208 w16 BK208 GE208 HB; obtain ⟨hcz17_0, hcz17_1, hfz17_0, hfz17_1⟩ := Sh.b2 BK208.out) | ((with_reducible refine Sh.k 14 ?_); refine Sh.gD (some 27) Try.func14 #[.int .i64 a0_0] (impl_operandsOfSaid.calls k a0_0 t209 _ A14.out) fun nd => ?_))
    go_ret
    exact ⟨Sh.eR, Sh.bw⟩
   ·rw [if_neg c15] at H
    have c15b0 : decide (0 < t209) = false := decide_eq_false c15
    clear c15
    obtain rfl := Option.some.inj H
    go_enter Try.func23, Try.ntmps23
    go_wp2_with (first | ((with_reducible refine Sh.d 1 ?_); refine Sh.bz w (N := 1) (cs := #[.int .i64 a0_0, .int .i64 a0_1]) (t := 35) (h := ?_); clear HB; intro gb208 w18 BK208 GE208 HB; obtain ⟨hcz19_0, hcz19_1, hfz19_0, hfz19_1⟩ := Sh.b2 BK208.out) | ((with_reducible refine Sh.k 14 ?_); refine Sh.gD (some 27) Try.func14 #[.int .i64 a0_0] (impl_operandsOfSaid.calls k a0_0 t209 _ A14.out) fun nd => ?_))
    go_ret
    exact ⟨Sh.eR, Sh.bw⟩
mutual
def impl_GoodSaid.j0 : Nat → List (S35) → Bool → Option (Bool)
 | 0, _, _ => none
 | k + 1, x0, x14 => if x14 = true then (some false) else (impl_GoodSaid.l0 k 0 x0 (x0.length : Int) 0)
def impl_GoodSaid.l0 : Nat → Int → List (S35) → Int → Int → Option (Bool)
 | 0, _, _, _, _ => none
 | k + 1, x3, x15, x16, x17 => if x17 < x16 then (if 0 ≤ x17 then (if x17 < (x15.length : Int) then ((impl_operandsOfSaid.f k ((rd_T35 x15 x17).f0)).bind fun t212 => ((impl_isSaid.f k ((rd_T35 x15 x17).f0) ((rd_T35 x15 x17).f1)).bind fun t213 => (if t213 = true then (if x3 < t212 then (some false) else (impl_GoodSaid.l0 k (wrap64 (x3 + (wrap64 (1 - t212)))) x15 x16 (wrap64 (x17 + 1)))) else (some false)))) else (none)) else (none)) else (some (x3 == 1))
end
def impl_GoodSaid.f (k : Nat) (l0 : List (S35)) : Option (Bool) := if (l0.length : Int) < 1 then (impl_GoodSaid.j0 k l0 true) else (impl_GoodSaid.j0 k l0 (decide ((l0.length : Int) > 16)))
theorem impl_GoodSaid.mono_l : ∀ k, (∀ y0 y1, LeO (impl_GoodSaid.j0 k y0 y1) (impl_GoodSaid.j0 (k + 1) y0 y1)) ∧ (∀ y0 y1 y2 y3, LeO (impl_GoodSaid.l0 k y0 y1 y2 y3) (impl_GoodSaid.l0 (k + 1) y0 y1 y2 y3))
 | 0 => ⟨fun _ _ r h => by simp [impl_GoodSaid.j0] at h, fun _ _ _ _ r h => by simp [impl_GoodSaid.l0] at h⟩
 | k + 1 => by
  obtain ⟨ih0, ih1⟩ := impl_GoodSaid.mono_l k
  and_intros <;> intros
  all_goals (first | unfold impl_GoodSaid.j0 | unfold impl_GoodSaid.l0)
  all_goals repeat' with_reducible first | apply ih0 | apply ih1 | apply impl_isSaid.mono | apply impl_operandsOfSaid.mono | exact LeO.refl _ | exact LeO.none _ | apply LeO.ite | refine LeO.bind ?_ fun _ => ?_
theorem impl_GoodSaid.mono : ∀ a0 k, LeO (impl_GoodSaid.f k a0) (impl_GoodSaid.f (k + 1) a0) := by
 intro a0 k
 obtain ⟨ih0, ih1⟩ := impl_GoodSaid.mono_l k
 unfold impl_GoodSaid.f
 repeat' with_reducible first | apply ih0 | apply ih1 | apply impl_isSaid.mono | apply impl_operandsOfSaid.mono | exact LeO.refl _ | exact LeO.none _ | apply LeO.ite | refine LeO.bind ?_ fun _ => ?_
theorem impl_GoodSaid.calls (k : Nat) (A0 : Option Addr) (c0 : Nat) (l0 : List (S35)) (r : Bool) (w : World) (hr0 : Kd.C k35 w A0 l0.length l0) (hc0 : l0.length ≤ c0) (h : impl_GoodSaid.f k l0 = some r) :
  Calls Try.prog 13 #[.slice A0 l0.length c0] w fun e w' => e = .returned (.bool r) ∧ Below w.heap.size w w' := by
 have hu35 := Try.underlying35
 have HR0 := am_ hr0
 have HC0 := am_ hc0
 clear hr0 hc0
 have HB := am_ (Below.refl w.heap.size w)
 have H := h
 clear h
 unfold impl_GoodSaid.f at H
 have HC2 := am_ H
 clear H
 go_enter Try.func13, Try.ntmps13
 go_upto_region 1 with (fail)
 go_cut [14] (fun v14 wc => ∃ (kq : Nat) (x14_1 : Bool), v14 = .bool x14_1 ∧ Aside0 (impl_GoodSaid.j0 kq l0 x14_1 = some r) ∧ Aside0 (kq ≤ k) ∧ Aside0 (Below w.heap.size w wc))
 case first =>
  have H := HC2.out
  clear HC2
  by_cases c3 : (l0.length : Int) < 1
  ·rw [if_pos c3] at H
   have c3b0 := decide_eq_true c3
   have c3b1 : decide (l0.length < 1) = true := decide_eq_true (by omega)
   clear c3
   first | rw [c3b0] | (simp only [i64_w, i32_w]; rw [c3b0]) | skip
   have H' := am_ H
   clear H
   go_wp2
   go_meet
   case rel => exact ⟨_, (true), (Sh.es), H', ⟨Sh.om⟩, ⟨Sh.bw⟩⟩
  ·rw [if_neg c3] at H
   have c3b0 := decide_eq_false c3
   have c3b1 : decide (l0.length < 1) = false := decide_eq_false (by omega)
   clear c3
   first | rw [c3b0] | (simp only [i64_w, i32_w]; rw [c3b0]) | skip
   have H' := am_ H
   clear H
   go_wp2
   go_meet
   case rel => exact ⟨_, (decide ((l0.length : Int) > 16)), (Sh.es), H', ⟨Sh.om⟩, ⟨Sh.bw⟩⟩
 case rest =>
  clear HC2
  obtain ⟨kq, x14_1, rfl, HA, HJ1, HB⟩ := hcut
  cases kq with
  | zero => exact absurd HA.out (by simp [impl_GoodSaid.j0])
  | succ kj1 =>
   have H := HA.out
   clear HA
   simp only [impl_GoodSaid.j0] at H
   by_cases c4 : x14_1 = true
   ·subst c4
    rw [if_pos rfl] at H
    obtain rfl := Option.some.inj H
    go_wp2
    go_ret
    exact ⟨Sh.eR, Sh.bw⟩
   ·replace c4 := Bool.eq_false_iff.mpr c4
    subst c4
    rw [Sh.nf] at H
    have H' := am_ H
    clear H
    go_wp2
    go_loopg [3, 17] kj1 (fun kq v3 v17 w' => ∃ (x3_2 : Int) (x17_2 : Int), v3 = .int .i64 x3_2 ∧ v17 = .int .i64 x17_2 ∧ Aside0 (impl_GoodSaid.l0 kq x3_2 l0 (l0.length : Int) x17_2 = some r) ∧ Aside0 (kq ≤ kj1) ∧ Aside0 (Below w.heap.size w w'))
    case atStart => exact ⟨(0), (0), (Sh.es), (Sh.es), H', ⟨Nat.le_refl _⟩, ⟨Sh.bw⟩⟩
    case round =>
     clear H'
     obtain ⟨x3_2, x17_2, rfl, rfl, HA, HK2, HB⟩ := hrel
     cases gk with
     | zero => exact absurd HA.out (by simp [impl_GoodSaid.l0])
     | succ k2 =>
      have H := HA.out
      clear HA
      simp only [impl_GoodSaid.l0] at H
      by_cases c5 : x17_2 < (l0.length : Int)
      ·rw [if_pos c5] at H
       have c5b0 := decide_eq_true c5
       clear c5
       by_cases c6 : 0 ≤ x17_2
       ·rw [if_pos c6] at H
        have c6b0 := decide_eq_true c6
        clear c6
        by_cases c7 : x17_2 < (l0.length : Int)
        ·rw [if_pos c7] at H
         have c7b0 := decide_eq_true c7
         clear c7
         obtain ⟨t212, A8, H⟩ := Sh.ba H
         obtain ⟨t213, A9, H⟩ := Sh.ba H
         by_cases c10 : t213 = true
         ·subst c10
          rw [if_pos rfl] at H
          by_cases c11 : x3_2 < t212
          ·rw [if_pos c11] at H
           have c11b0 := decide_eq_true c11
           clear c11
           obtain rfl := Option.some.inj H
           have p210 : 0 ≤ (x17_2 : Int) := Sh.od
           have q210 : x17_2 < (l0.length : Int) := Sh.od
           obtain ⟨ad210, e210, hx210_0, hx210_1⟩ := at_T35 HR0.out x17_2 p210 q210
           cases e210
           try replace hx210_0 := Sh.cw hx210_0
           try replace hx210_1 := Sh.cw hx210_1
           replace p210 := eq_true p210
           replace q210 := eq_true q210
           go_wp2_with (first | ((with_reducible refine Sh.d 5 ?_); (try (refine gate_guard (by rfl) ?_; dsimp only)); refine Sh.bz w (N := 5) (cs := #[.int .i64 0, .int .i64 0]) (t := 35) (h := ?_); clear HB; intro gb211 w12 BK211 GE211 HB; obtain ⟨hcz13_0, hcz13_1, hfz13_0, hfz13_1⟩ := Sh.b2 BK211.out) | ((with_reducible refine Sh.k 14 ?_); refine Sh.gD (some 23) Try.func14 #[.int .i64 ((rd_T35 l0 x17_2).f0)] (impl_operandsOfSaid.calls k2 ((rd_T35 l0 x17_2).f0) t212 _ A8.out) fun nd => ?_) | ((with_reducible refine Sh.k 23 ?_); refine Sh.gB (some 25) Try.func23 #[.agg #[.int .i64 ((rd_T35 l0 x17_2).f0), .int .i64 ((rd_T35 l0 x17_2).f1)]] (impl_isSaid.calls k2 ((rd_T35 l0 x17_2).f0) ((rd_T35 l0 x17_2).f1) true _ A9.out) fun w14 hb => ?_; replace BK211 := am_ (blk_below (g := gb211) (o := .cells #[.int .i64 ((rd_T35 l0 x17_2).f0), .int .i64 ((rd_T35 l0 x17_2).f1)] 35 (0, 0)) (by refine Sh.pl ?_; refine blk_put (cs := #[.int .i64 ((rd_T35 l0 x17_2).f0), .int .i64 0]) ?_ 1 _ rfl; refine Sh.pl ?_; refine blk_put (cs := #[.int .i64 0, .int .i64 0]) ?_ 0 _ rfl; refine Sh.pl ?_; exact BK211.out) hb); replace HB := Sh.hb hb; (try clear hb); (try clear hb2); (try clear hk); (try clear hi)))
           go_ret
           exact ⟨Sh.eR, Sh.bw⟩
          ·rw [if_neg c11] at H
           have c11b0 := decide_eq_false c11
           clear c11
           have H' := am_ H
           clear H
           have p210 : 0 ≤ (x17_2 : Int) := Sh.od
           have q210 : x17_2 < (l0.length : Int) := Sh.od
           obtain ⟨ad210, e210, hx210_0, hx210_1⟩ := at_T35 HR0.out x17_2 p210 q210
           cases e210
           try replace hx210_0 := Sh.cw hx210_0
           try replace hx210_1 := Sh.cw hx210_1
           replace p210 := eq_true p210
           replace q210 := eq_true q210
           go_wp2_with (first | ((with_reducible refine Sh.d 5 ?_); (try (refine gate_guard (by rfl) ?_; dsimp only)); refine Sh.bz w (N := 5) (cs := #[.int .i64 0, .int .i64 0]) (t := 35) (h := ?_); clear HB; intro gb211 w15 BK211 GE211 HB; obtain ⟨hcz16_0, hcz16_1, hfz16_0, hfz16_1⟩ := Sh.b2 BK211.out) | ((with_reducible refine Sh.k 14 ?_); refine Sh.gD (some 23) Try.func14 #[.int .i64 ((rd_T35 l0 x17_2).f0)] (impl_operandsOfSaid.calls k2 ((rd_T35 l0 x17_2).f0) t212 _ A8.out) fun nd => ?_) | ((with_reducible refine Sh.k 23 ?_); refine Sh.gB (some 25) Try.func23 #[.agg #[.int .i64 ((rd_T35 l0 x17_2).f0), .int .i64 ((rd_T35 l0 x17_2).f1)]] (impl_isSaid.calls k2 ((rd_T35 l0 x17_2).f0) ((rd_T35 l0 x17_2).f1) true _ A9.out) fun w17 hb => ?_; replace BK211 := am_ (blk_below (g := gb211) (o := .cells #[.int .i64 ((rd_T35 l0 x17_2).f0), .int .i64 ((rd_T35 l0 x17_2).f1)] 35 (0, 0)) (by refine Sh.pl ?_; refine blk_put (cs := #[.int .i64 ((rd_T35 l0 x17_2).f0), .int .i64 0]) ?_ 1 _ rfl; refine Sh.pl ?_; refine blk_put (cs := #[.int .i64 0, .int .i64 0]) ?_ 0 _ rfl; refine Sh.pl ?_; exact BK211.out) hb); replace HB := Sh.hb hb; (try clear hb); (try clear hb2); (try clear hk); (try clear hi)))
           go_roundg k2
           case measure => have := HJ1.out; have := HK2.out; omega
           case rel => exact ⟨(wrap64 (x3_2 + (wrap64 (1 - t212)))), (wrap64 (x17_2 + 1)), (Sh.es), (Sh.es), H', ⟨by have := HJ1.out; have := HK2.out; omega⟩, ⟨Sh.bw⟩⟩
         ·replace c10 := Bool.eq_false_iff.mpr c10
          subst c10
          rw [Sh.nf] at H
          obtain rfl := Option.some.inj H
          have p210 : 0 ≤ (x17_2 : Int) := Sh.od
          have q210 : x17_2 < (l0.length : Int) := Sh.od
          obtain ⟨ad210, e210, hx210_0, hx210_1⟩ := at_T35 HR0.out x17_2 p210 q210
          cases e210
          try replace hx210_0 := Sh.cw hx210_0
          try replace hx210_1 := Sh.cw hx210_1
          replace p210 := eq_true p210
          replace q210 := eq_true q210
          go_wp2_with (first | ((with_reducible refine Sh.d 5 ?_); (try (refine gate_guard (by rfl) ?_; dsimp only)); refine Sh.bz w (N := 5) (cs := #[.int .i64 0, .int .i64 0]) (t := 35) (h := ?_); clear HB; intro gb211 w18 BK211 GE211 HB; obtain ⟨hcz19_0, hcz19_1, hfz19_0, hfz19_1⟩ := Sh.b2 BK211.out) | ((with_reducible refine Sh.k 14 ?_); refine Sh.gD (some 23) Try.func14 #[.int .i64 ((rd_T35 l0 x17_2).f0)] (impl_operandsOfSaid.calls k2 ((rd_T35 l0 x17_2).f0) t212 _ A8.out) fun nd => ?_) | ((with_reducible refine Sh.k 23 ?_); refine Sh.gB (some 25) Try.func23 #[.agg #[.int .i64 ((rd_T35 l0 x17_2).f0), .int .i64 ((rd_T35 l0 x17_2).f1)]] (impl_isSaid.calls k2 ((rd_T35 l0 x17_2).f0) ((rd_T35 l0 x17_2).f1) false _ A9.out) fun w20 hb => ?_; replace BK211 := am_ (blk_below (g := gb211) (o := .cells #[.int .i64 ((rd_T35 l0 x17_2).f0), .int .i64 ((rd_T35 l0 x17_2).f1)] 35 (0, 0)) (by refine Sh.pl ?_; refine blk_put (cs := #[.int .i64 ((rd_T35 l0 x17_2).f0), .int .i64 0]) ?_ 1 _ rfl; refine Sh.pl ?_; refine blk_put (cs := #[.int .i64 0, .int .i64 0]) ?_ 0 _ rfl; refine Sh.pl ?_; exact BK211.out) hb); replace HB := Sh.hb hb; (try clear hb); (try clear hb2); (try clear hk); (try clear hi)))
          go_ret
          exact ⟨Sh.eR, Sh.bw⟩
        ·rw [if_neg c7] at H
         exact absurd H (by simp)
       ·rw [if_neg c6] at H
        exact absurd H (by simp)
      ·rw [if_neg c5] at H
       have c5b0 := decide_eq_false c5
       clear c5
       obtain rfl := Option.some.inj H
       go_wp2
       go_ret
       exact ⟨Sh.eR, Sh.bw⟩
def impl_SaidText.l0 : Nat → List ByteArray → List (S35) → Int → Int → Option (ByteArray × Bool)
 | 0, _, _, _, _ => none
 | k + 1, x4, x13, x14, x15 => if x15 < x14 then (if 0 ≤ x15 then (if x15 < (x13.length : Int) then (if 0 ≤ ((rd_T35 x13 x15).f0) then (if ((rd_T35 x13 x15).f0) ≤ (wrap64 (((rd_T35 x13 x15).f0) + 1)) then (if (wrap64 (((rd_T35 x13 x15).f0) + 1)) ≤ 9 then ((impl_operandsOfSaid.f k ((rd_T35 x13 x15).f0)).bind fun t221 => (if t221 = 0 then ((mapAt.f ((rd_T35 x13 x15).f0)).bind fun t222 => (if 0 ≤ ((rd_T35 x13 x15).f1) then (if ((rd_T35 x13 x15).f1) ≤ (wrap64 (((rd_T35 x13 x15).f1) + 1)) then (if (wrap64 (((rd_T35 x13 x15).f1) + 1)) ≤ (t222.size : Int) then (if x4.length < 8796093022208 then (impl_SaidText.l0 k (x4 ++ [t222.extract (((rd_T35 x13 x15).f1) : Int).toNat ((wrap64 (((rd_T35 x13 x15).f1) + 1)) : Int).toNat]) x13 x14 (wrap64 (x15 + 1))) else (none)) else (none)) else (none)) else (none))) else (if t221 = 1 then (if 0 ≤ (wrap64 ((x4.length : Int) - 1)) then (if (wrap64 ((x4.length : Int) - 1)) < (x4.length : Int) then (if ((⟨#[32, 32, 32, 33, 88, 38, 124, 85, 82]⟩ : ByteArray).extract (((rd_T35 x13 x15).f0) : Int).toNat ((wrap64 (((rd_T35 x13 x15).f0) + 1)) : Int).toNat).size + (rdOf ByteArray.empty x4 (wrap64 ((x4.length : Int) - 1))).size ≤ 9223372036854775807 then (impl_SaidText.l0 k (x4.set ((wrap64 ((x4.length : Int) - 1)) : Int).toNat (((⟨#[32, 32, 32, 33, 88, 38, 124, 85, 82]⟩ : ByteArray).extract (((rd_T35 x13 x15).f0) : Int).toNat ((wrap64 (((rd_T35 x13 x15).f0) + 1)) : Int).toNat) ++ (rdOf ByteArray.empty x4 (wrap64 ((x4.length : Int) - 1))))) x13 x14 (wrap64 (x15 + 1))) else (none)) else (none)) else (none)) else (if 0 ≤ (wrap64 ((wrap64 ((x4.length : Int) - 1)) - 1)) then (if (wrap64 ((wrap64 ((x4.length : Int) - 1)) - 1)) < (x4.length : Int) then (if 1 + (rdOf ByteArray.empty x4 (wrap64 ((wrap64 ((x4.length : Int) - 1)) - 1))).size ≤ 9223372036854775807 then (if ((⟨#[40]⟩ : ByteArray) ++ (rdOf ByteArray.empty x4 (wrap64 ((wrap64 ((x4.length : Int) - 1)) - 1)))).size + ((⟨#[32, 32, 32, 33, 88, 38, 124, 85, 82]⟩ : ByteArray).extract (((rd_T35 x13 x15).f0) : Int).toNat ((wrap64 (((rd_T35 x13 x15).f0) + 1)) : Int).toNat).size ≤ 9223372036854775807 then (if 0 ≤ (wrap64 ((x4.length : Int) - 1)) then (if (wrap64 ((x4.length : Int) - 1)) < (x4.length : Int) then (if (wrap64 ((wrap64 ((x4.length : Int) - 1)) - 1)) ≤ (x4.length : Int) then ((some (x4.take ((wrap64 ((wrap64 ((x4.length : Int) - 1)) - 1)) : Int).toNat : List ByteArray)).bind fun y230 => (if (((⟨#[40]⟩ : ByteArray) ++ (rdOf ByteArray.empty x4 (wrap64 ((wrap64 ((x4.length : Int) - 1)) - 1)))) ++ ((⟨#[32, 32, 32, 33, 88, 38, 124, 85, 82]⟩ : ByteArray).extract (((rd_T35 x13 x15).f0) : Int).toNat ((wrap64 (((rd_T35 x13 x15).f0) + 1)) : Int).toNat)).size + (rdOf ByteArray.empty x4 (wrap64 ((x4.length : Int) - 1))).size ≤ 9223372036854775807 then (if ((((⟨#[40]⟩ : ByteArray) ++ (rdOf ByteArray.empty x4 (wrap64 ((wrap64 ((x4.length : Int) - 1)) - 1)))) ++ ((⟨#[32, 32, 32, 33, 88, 38, 124, 85, 82]⟩ : ByteArray).extract (((rd_T35 x13 x15).f0) : Int).toNat ((wrap64 (((rd_T35 x13 x15).f0) + 1)) : Int).toNat)) ++ (rdOf ByteArray.empty x4 (wrap64 ((x4.length : Int) - 1)))).size + 1 ≤ 9223372036854775807 then (if y230.length < 8796093022208 then (impl_SaidText.l0 k (y230 ++ [((((⟨#[40]⟩ : ByteArray) ++ (rdOf ByteArray.empty x4 (wrap64 ((wrap64 ((x4.length : Int) - 1)) - 1)))) ++ ((⟨#[32, 32, 32, 33, 88, 38, 124, 85, 82]⟩ : ByteArray).extract (((rd_T35 x13 x15).f0) : Int).toNat ((wrap64 (((rd_T35 x13 x15).f0) + 1)) : Int).toNat)) ++ (rdOf ByteArray.empty x4 (wrap64 ((x4.length : Int) - 1)))) ++ (⟨#[41]⟩ : ByteArray)]) x13 x14 (wrap64 (x15 + 1))) else (none)) else (none)) else (none))) else (none)) else (none)) else (none)) else (none)) else (none)) else (none)) else (none))))) else (none)) else (none)) else (none)) else (none)) else (none)) else (if 0 < (x4.length : Int) then (some (rdOf ByteArray.empty x4 0, true)) else (none))
def impl_SaidText.f (k : Nat) (l0 : List (S35)) : Option (ByteArray × Bool) := (impl_GoodSaid.f k l0).bind fun t214 => (if t214 = true then (impl_SaidText.l0 k (([] : List ByteArray)) l0 (l0.length : Int) 0) else (some ((⟨#[]⟩ : ByteArray), false)))
theorem impl_SaidText.mono_l : ∀ k, (∀ y0 y1 y2 y3, LeO (impl_SaidText.l0 k y0 y1 y2 y3) (impl_SaidText.l0 (k + 1) y0 y1 y2 y3))
 | 0 => fun _ _ _ _ r h => by simp [impl_SaidText.l0] at h
 | k + 1 => by
  have ih0 := impl_SaidText.mono_l k
  ·intro y0 y1 y2 y3
   unfold impl_SaidText.l0
   repeat' with_reducible first | apply ih0 | apply impl_GoodSaid.mono | apply impl_operandsOfSaid.mono | exact LeO.refl _ | exact LeO.none _ | apply LeO.ite | refine LeO.bind ?_ fun _ => ?_
theorem impl_SaidText.mono : ∀ a0 k, LeO (impl_SaidText.f k a0) (impl_SaidText.f (k + 1) a0) := by
 intro a0 k
 have ih0 := impl_SaidText.mono_l k
 unfold impl_SaidText.f
 repeat' with_reducible first | apply ih0 | apply impl_GoodSaid.mono | apply impl_operandsOfSaid.mono | exact LeO.refl _ | exact LeO.none _ | apply LeO.ite | refine LeO.bind ?_ fun _ => ?_
def impl_SaidText.T7 : Bool × List (List Nat × List Nat) := (true, [([], []), ([0], [0]), ([1], [1]), ([], []), ([3], [3]), ([], []), ([5], [5]), ([6], [6]), ([4, 7], [4, 7]), ([2, 0, 1, 2], [2]), ([8, 9, 0, 1, 2, 3, 4, 5, 6, 7, 8, 9], [8])])
def impl_SaidText.B7 : List Nat := [0, 1, 3, 0, 8, 0, 32, 96, 248, 7, 1023]
theorem impl_SaidText.tab7 : rtab .any (opsOf Try.f6 7) = impl_SaidText.T7 := by kernel_rfl
theorem impl_SaidText.bits7 : waitsOk impl_SaidText.T7.2 impl_SaidText.B7 = true := by kernel_rfl
def impl_SaidText.T9 : Bool × List (List Nat × List Nat) := (true, [([], []), ([], []), ([1], [1]), ([0, 2], [0, 2]), ([], []), ([], []), ([5], [5]), ([4, 6], [4, 6]), ([7], [7]), ([8], [8]), ([], []), ([9, 10], [9, 10]), ([], []), ([], []), ([12, 13], [12, 13]), ([14], [14]), ([11, 15], [11, 15]), ([16], [16]), ([17], [17]), ([3, 18], [3, 18]), ([19, 19, 0, 1, 2, 3, 4, 5, 6, 7, 8, 9, 10, 11, 12, 13, 14, 15, 16, 17, 18, 19], [0, 4, 12, 19])])
def impl_SaidText.B9 : List Nat := [0, 0, 2, 7, 0, 0, 32, 112, 240, 496, 0, 2032, 0, 0, 12288, 28672, 65520, 131056, 262128, 524287, 1048575]
theorem impl_SaidText.tab9 : rtab .any (opsOf Try.f6 9) = impl_SaidText.T9 := by kernel_rfl
theorem impl_SaidText.bits9 : waitsOk impl_SaidText.T9.2 impl_SaidText.B9 = true := by kernel_rfl
theorem impl_SaidText.calls (k : Nat) (A0 : Option Addr) (c0 : Nat) (l0 : List (S35)) (r1 : ByteArray) (r2 : Bool) (w : World) (hr0 : Kd.C k35 w A0 l0.length l0) (hc0 : l0.length ≤ c0) (h : impl_SaidText.f k l0 = some (r1, r2)) :
  Calls Try.prog 6 #[.slice A0 l0.length c0] w fun e w' => e = .returned (.tuple #[.string r1, .bool r2]) ∧ Below w.heap.size w w' := by
 have hu35 := Try.underlying35
 have HR0 := am_ hr0
 have HC0 := am_ hc0
 clear hr0 hc0
 have HB := am_ (Below.refl w.heap.size w)
 have H := h
 clear h
 unfold impl_SaidText.f at H
 obtain ⟨t214, A2, H⟩ := Sh.ba H
 by_cases c3 : t214 = true
 ·subst c3
  rw [if_pos rfl] at H
  obtain ⟨y215, hy215⟩ : ∃ y_ : List ByteArray, y_ = (([] : List ByteArray)) := ⟨_, rfl⟩
  replace H : (impl_SaidText.l0 k y215 l0 (l0.length : Int) 0) = some (r1, r2) := by first | (rw [hy215]; with_reducible exact H) | (have H2_ := (Option.bind_some _ _).symm.trans H; rw [hy215]; with_reducible exact H2_) | (have H2_ := (Option.bind_some _ _).symm.trans H; with_reducible exact H2_) | with_reducible exact H | (rw [hy215]; exact H) | exact H
  have Ny215 := am_ hy215
  clear hy215
  have H' := am_ H
  clear H
  go_enter Try.func6, Try.ntmps6
  go_wp2_with (first | ((with_reducible refine Sh.k 13 ?_); refine Sh.gL (some 10) Try.func13 #[.slice A0 l0.length c0] (h := ?_); (with_reducible refine (impl_GoodSaid.calls k _ _ l0 true _ ?side1 ?side2 A2.out).mono ?_); (case side1 => repeat (first | exact HR0.out | (with_reducible first | refine Kd.C_alloc ?_ _ | refine Kd.C_drewN ?_ _ | refine Kd.C_drew ?_))); (case side2 => exact HC0.out); rintro e w4 ⟨rfl, hb⟩; refine ⟨_, rfl, ?_⟩; replace HB := Sh.hb hb; (try clear hb); (try clear hb2); (try clear hk); (try clear hi)) | ((with_reducible refine Sh.d 12 ?_); refine Kd.R_lit Kd.string _ 9 ?hg (N := 12) ?hd (xs := ([] : List ByteArray)) (inner := []) (ok := fun _ => True) (okp := fun _ => True) ?hr ?hp (fun _ hk => hk) trivial (Below.refl _ _) (Nat.le_refl _) (by simp) ?_; (case hd => rfl); (case hg => rfl); (case hr => first | (go_simp; done) | (go_simp; rfl)); (case hp => exact (Reps.none _ _)); intro v216 w5 ho6 hb hg_ hnew_; clear hg_ hnew_; (first | rw [← Ny215.out] at ho6 | (simp only [Int.reduceToNat] at ho6; rw [← Ny215.out] at ho6)); have HO217 := am_ (Kd.R_lower ho6 (below_size Sh.bw)); replace HB := Sh.hb hb; clear hb ho6))
  go_loopg [4, 15] k (fun kq v4 v15 w' => ∃ (x4_1 : List ByteArray) (x15_1 : Int), v15 = .int .i64 x15_1 ∧ Aside0 (impl_SaidText.l0 kq x4_1 l0 (l0.length : Int) x15_1 = some (r1, r2)) ∧ Aside0 (kq ≤ k) ∧ Aside0 (Kd.R Kd.string 9 w' w.heap.size (fun _ => True) v4 x4_1) ∧ Aside0 (Below w.heap.size w w'))
  case atStart => exact ⟨(y215), (0), (Sh.es), H', ⟨Nat.le_refl _⟩, ⟨Sh.rl HO217.out⟩, ⟨Sh.bw⟩⟩
  case round =>
   clear H'
   obtain ⟨x4_1, x15_1, rfl, HA, HK1, HO_4, HB⟩ := hrel
   cases gk with
   | zero => exact absurd HA.out (by simp [impl_SaidText.l0])
   | succ k1 =>
    have H := HA.out
    clear HA
    simp only [impl_SaidText.l0] at H
    by_cases c7 : x15_1 < (l0.length : Int)
    ·rw [if_pos c7] at H
     have c7b0 := decide_eq_true c7
     clear c7
     by_cases c8 : 0 ≤ x15_1
     ·rw [if_pos c8] at H
      have c8b0 := decide_eq_true c8
      clear c8
      by_cases c9 : x15_1 < (l0.length : Int)
      ·rw [if_pos c9] at H
       have c9b0 := decide_eq_true c9
       clear c9
       by_cases c10 : 0 ≤ ((rd_T35 l0 x15_1).f0)
       ·rw [if_pos c10] at H
        have c10b0 := eq_true c10
        have c10b1 := decide_eq_true c10
        clear c10
        by_cases c11 : ((rd_T35 l0 x15_1).f0) ≤ (wrap64 (((rd_T35 l0 x15_1).f0) + 1))
        ·rw [if_pos c11] at H
         have c11b0 := eq_true c11
         have c11b1 := decide_eq_true c11
         by_cases c12 : (wrap64 (((rd_T35 l0 x15_1).f0) + 1)) ≤ 9
         ·rw [if_pos c12] at H
          have c12b0 := eq_true c12
          have c12b1 := decide_eq_true c12
          obtain ⟨t221, A13, H⟩ := Sh.ba H
          by_cases c14 : t221 = 0
          ·rw [if_pos c14] at H
           have c14b0 : (t221 == 0) = true := beq_iff_eq.mpr c14
           have c14b1 : (t221 != 0) = false := bne_eq_false_iff_eq.mpr c14
           clear c14
           obtain ⟨t222, A15, H⟩ := Sh.ba H
           by_cases c16 : 0 ≤ ((rd_T35 l0 x15_1).f1)
           ·rw [if_pos c16] at H
            have c16b0 := eq_true c16
            have c16b1 := decide_eq_true c16
            clear c16
            by_cases c17 : ((rd_T35 l0 x15_1).f1) ≤ (wrap64 (((rd_T35 l0 x15_1).f1) + 1))
            ·rw [if_pos c17] at H
             have c17b0 := eq_true c17
             have c17b1 := decide_eq_true c17
             by_cases c18 : (wrap64 (((rd_T35 l0 x15_1).f1) + 1)) ≤ (t222.size : Int)
             ·rw [if_pos c18] at H
              have c18b0 := eq_true c18
              have c18b1 := decide_eq_true c18
              by_cases c19 : x4_1.length < 8796093022208
              ·rw [if_pos c19] at H
               have LMc19 := am_ c19
               clear c19
               obtain ⟨y223, hy223⟩ : ∃ y_ : List ByteArray, y_ = (x4_1 ++ [t222.extract (((rd_T35 l0 x15_1).f1) : Int).toNat ((wrap64 (((rd_T35 l0 x15_1).f1) + 1)) : Int).toNat]) := ⟨_, rfl⟩
               replace H : (impl_SaidText.l0 k1 y223 l0 (l0.length : Int) (wrap64 (x15_1 + 1))) = some (r1, r2) := by first | (rw [hy223]; with_reducible exact H) | (have H2_ := (Option.bind_some _ _).symm.trans H; rw [hy223]; with_reducible exact H2_) | (have H2_ := (Option.bind_some _ _).symm.trans H; with_reducible exact H2_) | with_reducible exact H | (rw [hy223]; exact H) | exact H
               have Ny223 := am_ hy223
               clear hy223
               have H' := am_ H
               clear H
               have p219 : 0 ≤ (x15_1 : Int) := Sh.od
               have q219 : x15_1 < (l0.length : Int) := Sh.od
               obtain ⟨ad219, e219, hx219_0, hx219_1⟩ := at_T35 HR0.out x15_1 p219 q219
               cases e219
               try replace hx219_0 := Sh.cw hx219_0
               try replace hx219_1 := Sh.cw hx219_1
               replace p219 := eq_true p219
               replace q219 := eq_true q219
               try go_wp2_with (first | ((with_reducible refine Sh.d 6 ?_); refine Sh.bx (N := 6) (cs := #[.int .i64 0, .int .i64 0]) (t := 35) (h := ?_); intro gb220 hg w20 hbox hb; replace HO_4 := am_ (Kd.R_below (Sh.rl HO_4.out) hb); have BK220 := am_ hbox; have GE220 := Sh.ag w hg; replace HB := Sh.hb hb; clear hb hbox hg; obtain ⟨hcz21_0, hcz21_1, hfz21_0, hfz21_1⟩ := Sh.b2 BK220.out))
               have n0_ : Aside0 (Kd.R Kd.string 9 ((w20.setCell ⟨gb220, 0, none⟩ (.int .i64 ((rd_T35 l0 x15_1).f0))).setCell ⟨gb220, 1, none⟩ (.int .i64 ((rd_T35 l0 x15_1).f1))) w.heap.size (fun _ => True) u4 x4_1) := ⟨Sh.rl (Kd.R_mono (Kd.R_far (p := ⟨gb220, 1, none⟩) (Kd.R_far (p := ⟨gb220, 0, none⟩) (Kd.R_types HO_4.out BK220.out (by decide)) (fun _ hk => hk.2) (.int .i64 ((rd_T35 l0 x15_1).f0))) (fun _ hk => hk.2) (.int .i64 ((rd_T35 l0 x15_1).f1))) (fun _ hk => trivial))⟩
               have n1_ : Aside0 (((w20.setCell ⟨gb220, 0, none⟩ (.int .i64 ((rd_T35 l0 x15_1).f0))).setCell ⟨gb220, 1, none⟩ (.int .i64 ((rd_T35 l0 x15_1).f1))).heap[gb220]? = some (.cells #[.int .i64 ((rd_T35 l0 x15_1).f0), .int .i64 ((rd_T35 l0 x15_1).f1)] 35 (0, 0))) := ⟨by refine Sh.pl ?_; refine blk_put (cs := #[.int .i64 ((rd_T35 l0 x15_1).f0), .int .i64 0]) ?_ 1 _ rfl; refine Sh.pl ?_; refine blk_put (cs := #[.int .i64 0, .int .i64 0]) ?_ 0 _ rfl; refine Sh.pl ?_; exact BK220.out⟩
               have n2_ : Aside0 (Below w.heap.size w ((w20.setCell ⟨gb220, 0, none⟩ (.int .i64 ((rd_T35 l0 x15_1).f0))).setCell ⟨gb220, 1, none⟩ (.int .i64 ((rd_T35 l0 x15_1).f1)))) := ⟨Sh.bw⟩
               (try clear HO_4)
               (try clear BK220)
               (try clear HB)
               generalize ((w20.setCell ⟨gb220, 0, none⟩ (.int .i64 ((rd_T35 l0 x15_1).f0))).setCell ⟨gb220, 1, none⟩ (.int .i64 ((rd_T35 l0 x15_1).f1))) = w22 at n0_ n1_ n2_ ⊢
               have HO_4 := n0_
               have BK220 := n1_
               have HB := n2_
               clear n0_ n1_ n2_
               replace HO_4 := am_ (Kd.R_drew HO_4.out)
               replace BK220 := am_ (blk_drew BK220.out)
               replace HB := am_ (below_drew1 HB.out)
               obtain ⟨Ao24, co24, eo24⟩ := Kd.R_slice HO_4.out
               (first | subst eo24 | (injection eo24 with f1_ f2_ f3_; have f4_ := f1_.symm; have f5_ := f3_.symm; clear f1_ f2_ f3_; subst f4_; subst f5_))
               refine start_ (n := 11) (S := fun w' => w'.cell? ⟨gb220, 0, none⟩ = some (.int .i64 ((rd_T35 l0 x15_1).f0)) ∧ w'.cell? ⟨gb220, 1, none⟩ = some (.int .i64 ((rd_T35 l0 x15_1).f1))) (ds := []) (Sh.nm 11 0) (by kernel_rfl) rfl rfl Sh.cs (fun hHeld => ?_); refine with_tabW impl_SaidText.tab7 impl_SaidText.bits7 (fun HT_ HW_ => ?_)
               generalize w22.drew = w23 at HO_4 BK220 HB hHeld ⊢
               refine Sh.qA 0 ?_; refine Sh.qA 1 ?_; refine Sh.qA 2 ?_; refine Sh.qA 3 ?_; refine Sh.qA 5 ?_; refine Sh.qA 9 ?_; refine Sh.qT 4 hHeld ?_; refine Sh.qT 6 hHeld ?_; refine Sh.qA 7 ?_; refine Sh.qA 8 ?_; refine Sh.qA 10 ?_
               refine done_ (done_of HT_.out (by kernel_rfl)) ?_
               have hcz25_0 := Sh.bc BK220.out 0
               have hcz25_1 := Sh.bc BK220.out 1
               have hfz25_0 := blk_frozen BK220.out 0
               have hfz25_1 := blk_frozen BK220.out 1
               try go_wp2_with (first | ((with_reducible refine Sh.k 14 ?_); refine Sh.gD (some 30) Try.func14 #[.int .i64 ((rd_T35 l0 x15_1).f0)] (impl_operandsOfSaid.calls k1 ((rd_T35 l0 x15_1).f0) t221 _ A13.out) fun nd => ?_) | ((with_reducible refine gmk 37 ?_); refine mapAt.made 54 Try.underlying37 Try.underlying3 (fun mg_ mw_ hb hm_ => ?_); replace HO_4 := am_ (Kd.R_below (Sh.rl HO_4.out) hb); replace BK220 := Sh.ab BK220 hb; replace HB := Sh.hb hb; clear hb; have hczm_0 := Sh.bc BK220.out 0; have hczm_1 := Sh.bc BK220.out 1; have hfzm_0 := blk_frozen BK220.out 0; have hfzm_1 := blk_frozen BK220.out 1) | ((with_reducible refine glk 37 ?_); refine mapAt.look 58 Try.underlying37 Try.underlying3 hm_ A15.out ?_) | ((with_reducible refine gate_builtin (b := .append) (xs := #[.tmp 53, .tmp 65]) rfl ?_); at_builtin; refine Kd.R_append Kd.string (w0 := w) w.heap.size rfl (.tmp 53) (.tmp 65) 33 9 (.string ⟨#[]⟩) 16 rfl Try.underlying33 info9 rfl (by decide) (by omega) (.slice Ao24 x4_1.length co24) x4_1 (t222.extract (((rd_T35 l0 x15_1).f1) : Int).toNat ((wrap64 (((rd_T35 l0 x15_1).f1) + 1)) : Int).toNat) [.string (t222.extract (((rd_T35 l0 x15_1).f1) : Int).toNat ((wrap64 (((rd_T35 l0 x15_1).f1) + 1)) : Int).toNat)] (fun _ => True) (fun _ => False) rfl rfl ?aP (fun _ hk => hk.elim) ?aF ?aO ?aB ?aS ?aL ?_; (case aP => exact rfl); (case aB => exact Sh.bw); (case aF => exact (fun _ _ => trivial)); (case aO => exact (Sh.rl HO_4.out)); (case aS => exact (below_size Sh.bw)); (case aL => have := LMc19.out; omega); intro v224 w26 ho hb hg hat; rw [← Ny223.out] at ho; have n0_ := am_ (blk_grown (g := gb220) (o := .cells #[.int .i64 ((rd_T35 l0 x15_1).f0), .int .i64 ((rd_T35 l0 x15_1).f1)] 35 (0, 0)) (Sh.pl BK220.out) hg (Kd.R_ne HO_4.out BK220.out (by decide))); have n1_ := am_ hb; have n2_ := am_ ho; clear BK220; clear HB; clear HO_4; have BK220 := n0_; have HB := n1_; have HO225 := n2_; clear n0_ n1_ n2_; clear ho hb hg hat))
               go_roundg k1
               case measure => have := HK1.out; omega
               case rel => exact ⟨(y223), (wrap64 (x15_1 + 1)), (Sh.es), H', ⟨by have := HK1.out; omega⟩, ⟨Sh.rl HO225.out⟩, ⟨Sh.bw⟩⟩
              ·rw [if_neg c19] at H
               exact absurd H (by simp)
             ·rw [if_neg c18] at H
              exact absurd H (by simp)
            ·rw [if_neg c17] at H
             exact absurd H (by simp)
           ·rw [if_neg c16] at H
            exact absurd H (by simp)
          ·rw [if_neg c14] at H
           have c14b0 : (t221 == 0) = false := beq_eq_false_iff_ne.mpr c14
           have c14b1 : (t221 != 0) = true := bne_iff_ne.mpr c14
           by_cases c27 : t221 = 1
           ·rw [if_pos c27] at H
            have c27b0 : (t221 == 1) = true := beq_iff_eq.mpr c27
            have c27b1 : (t221 != 1) = false := bne_eq_false_iff_eq.mpr c27
            clear c27
            obtain ⟨ji28, hj1⟩ : ∃ j_ : Int, (wrap64 ((x4_1.length : Int) - 1)) = j_ := ⟨_, rfl⟩
            replace H : (if 0 ≤ (ji28) then (if (ji28) < (x4_1.length : Int) then (if ((⟨#[32, 32, 32, 33, 88, 38, 124, 85, 82]⟩ : ByteArray).extract (((rd_T35 l0 x15_1).f0) : Int).toNat ((wrap64 (((rd_T35 l0 x15_1).f0) + 1)) : Int).toNat).size + (rdOf ByteArray.empty x4_1 (ji28)).size ≤ 9223372036854775807 then (impl_SaidText.l0 k1 (x4_1.set ((ji28) : Int).toNat (((⟨#[32, 32, 32, 33, 88, 38, 124, 85, 82]⟩ : ByteArray).extract (((rd_T35 l0 x15_1).f0) : Int).toNat ((wrap64 (((rd_T35 l0 x15_1).f0) + 1)) : Int).toNat) ++ (rdOf ByteArray.empty x4_1 (ji28)))) l0 (l0.length : Int) (wrap64 (x15_1 + 1))) else (none)) else (none)) else (none)) = some (r1, r2) := by first | (rw [hj1] at H; exact H) | (simp only [hj1] at H ⊢; exact H)
            (try rw [hj1] at A13)
            have hji28w : (IntKind.i64.wrap ((x4_1.length : Int) - 1)) = ji28 := (i64_w _).trans hj1
            by_cases c29 : 0 ≤ (ji28)
            ·rw [if_pos c29] at H
             have c29b0 := decide_eq_true c29
             clear c29
             by_cases c30 : (ji28) < (x4_1.length : Int)
             ·rw [if_pos c30] at H
              have c30b0 := decide_eq_true c30
              clear c30
              by_cases c31 : ((⟨#[32, 32, 32, 33, 88, 38, 124, 85, 82]⟩ : ByteArray).extract (((rd_T35 l0 x15_1).f0) : Int).toNat ((wrap64 (((rd_T35 l0 x15_1).f0) + 1)) : Int).toNat).size + (rdOf ByteArray.empty x4_1 (ji28)).size ≤ 9223372036854775807
              ·rw [if_pos c31] at H
               have c31b0 := eq_true c31
               have c31b1 := decide_eq_true c31
               try have c31b2 : (9223372036854775807 < ((⟨#[32, 32, 32, 33, 88, 38, 124, 85, 82]⟩ : ByteArray).extract (((rd_T35 l0 x15_1).f0) : Int).toNat ((wrap64 (((rd_T35 l0 x15_1).f0) + 1)) : Int).toNat).size + (rdOf ByteArray.empty x4_1 (ji28)).size) = False := eq_false (Nat.not_lt.2 c31)
               have c31x : ((⟨#[32, 32, 32, 33, 88, 38, 124, 85, 82]⟩ : ByteArray).extract (((rd_T35 l0 x15_1).f0) : Int).toNat ((wrap64 (((rd_T35 l0 x15_1).f0) + 1)) : Int).toNat).size = ((wrap64 (((rd_T35 l0 x15_1).f0) + 1)).toNat - ((rd_T35 l0 x15_1).f0).toNat) := by rw [ByteArray.size_extract]; show min _ 9 - _ = _; rw [Nat.min_eq_left (by have h_ : (wrap64 (((rd_T35 l0 x15_1).f0) + 1)) ≤ 9 := Sh.od; omega)]
               have c31b3 : (9223372036854775807 < ((wrap64 (((rd_T35 l0 x15_1).f0) + 1)).toNat - ((rd_T35 l0 x15_1).f0).toNat) + (rdOf ByteArray.empty x4_1 (ji28)).size) = False := eq_false (Nat.not_lt.2 (by have h_ := c31; simp only [ByteArray.size_append, c31x] at h_; exact h_))
               obtain ⟨y227, hy227⟩ : ∃ y_ : List ByteArray, y_ = (x4_1.set ((ji28) : Int).toNat (((⟨#[32, 32, 32, 33, 88, 38, 124, 85, 82]⟩ : ByteArray).extract (((rd_T35 l0 x15_1).f0) : Int).toNat ((wrap64 (((rd_T35 l0 x15_1).f0) + 1)) : Int).toNat) ++ (rdOf ByteArray.empty x4_1 (ji28)))) := ⟨_, rfl⟩
               replace H : (impl_SaidText.l0 k1 y227 l0 (l0.length : Int) (wrap64 (x15_1 + 1))) = some (r1, r2) := by first | (rw [hy227]; with_reducible exact H) | (have H2_ := (Option.bind_some _ _).symm.trans H; rw [hy227]; with_reducible exact H2_) | (have H2_ := (Option.bind_some _ _).symm.trans H; with_reducible exact H2_) | with_reducible exact H | (rw [hy227]; exact H) | exact H
               have Ny227 := am_ hy227
               clear hy227
               have H' := am_ H
               clear H
               have p219 : 0 ≤ (x15_1 : Int) := Sh.od
               have q219 : x15_1 < (l0.length : Int) := Sh.od
               obtain ⟨ad219, e219, hx219_0, hx219_1⟩ := at_T35 HR0.out x15_1 p219 q219
               cases e219
               try replace hx219_0 := Sh.cw hx219_0
               try replace hx219_1 := Sh.cw hx219_1
               replace p219 := eq_true p219
               replace q219 := eq_true q219
               try go_wp2_with (first | ((with_reducible refine Sh.d 6 ?_); refine Sh.bx (N := 6) (cs := #[.int .i64 0, .int .i64 0]) (t := 35) (h := ?_); intro gb220 hg w33 hbox hb; replace HO_4 := am_ (Kd.R_below (Sh.rl HO_4.out) hb); have BK220 := am_ hbox; have GE220 := Sh.ag w hg; replace HB := Sh.hb hb; clear hb hbox hg; obtain ⟨hcz34_0, hcz34_1, hfz34_0, hfz34_1⟩ := Sh.b2 BK220.out))
               have n0_ : Aside0 (Kd.R Kd.string 9 ((w33.setCell ⟨gb220, 0, none⟩ (.int .i64 ((rd_T35 l0 x15_1).f0))).setCell ⟨gb220, 1, none⟩ (.int .i64 ((rd_T35 l0 x15_1).f1))) w.heap.size (fun _ => True) u4 x4_1) := ⟨Sh.rl (Kd.R_mono (Kd.R_far (p := ⟨gb220, 1, none⟩) (Kd.R_far (p := ⟨gb220, 0, none⟩) (Kd.R_types HO_4.out BK220.out (by decide)) (fun _ hk => hk.2) (.int .i64 ((rd_T35 l0 x15_1).f0))) (fun _ hk => hk.2) (.int .i64 ((rd_T35 l0 x15_1).f1))) (fun _ hk => trivial))⟩
               have n1_ : Aside0 (((w33.setCell ⟨gb220, 0, none⟩ (.int .i64 ((rd_T35 l0 x15_1).f0))).setCell ⟨gb220, 1, none⟩ (.int .i64 ((rd_T35 l0 x15_1).f1))).heap[gb220]? = some (.cells #[.int .i64 ((rd_T35 l0 x15_1).f0), .int .i64 ((rd_T35 l0 x15_1).f1)] 35 (0, 0))) := ⟨by refine Sh.pl ?_; refine blk_put (cs := #[.int .i64 ((rd_T35 l0 x15_1).f0), .int .i64 0]) ?_ 1 _ rfl; refine Sh.pl ?_; refine blk_put (cs := #[.int .i64 0, .int .i64 0]) ?_ 0 _ rfl; refine Sh.pl ?_; exact BK220.out⟩
               have n2_ : Aside0 (Below w.heap.size w ((w33.setCell ⟨gb220, 0, none⟩ (.int .i64 ((rd_T35 l0 x15_1).f0))).setCell ⟨gb220, 1, none⟩ (.int .i64 ((rd_T35 l0 x15_1).f1)))) := ⟨Sh.bw⟩
               (try clear HO_4)
               (try clear BK220)
               (try clear HB)
               generalize ((w33.setCell ⟨gb220, 0, none⟩ (.int .i64 ((rd_T35 l0 x15_1).f0))).setCell ⟨gb220, 1, none⟩ (.int .i64 ((rd_T35 l0 x15_1).f1))) = w35 at n0_ n1_ n2_ ⊢
               have HO_4 := n0_
               have BK220 := n1_
               have HB := n2_
               clear n0_ n1_ n2_
               replace HO_4 := am_ (Kd.R_drew HO_4.out)
               replace BK220 := am_ (blk_drew BK220.out)
               replace HB := am_ (below_drew1 HB.out)
               obtain ⟨Ao37, co37, eo37⟩ := Kd.R_slice HO_4.out
               (first | subst eo37 | (injection eo37 with f1_ f2_ f3_; have f4_ := f1_.symm; have f5_ := f3_.symm; clear f1_ f2_ f3_; subst f4_; subst f5_))
               refine start_ (n := 11) (S := fun w' => w'.cell? ⟨gb220, 0, none⟩ = some (.int .i64 ((rd_T35 l0 x15_1).f0)) ∧ w'.cell? ⟨gb220, 1, none⟩ = some (.int .i64 ((rd_T35 l0 x15_1).f1))) (ds := []) (Sh.nm 11 0) (by kernel_rfl) rfl rfl Sh.cs (fun hHeld => ?_); refine with_tabW impl_SaidText.tab7 impl_SaidText.bits7 (fun HT_ HW_ => ?_)
               generalize w35.drew = w36 at HO_4 BK220 HB hHeld ⊢
               refine Sh.qA 0 ?_; refine Sh.qA 1 ?_; refine Sh.qA 2 ?_; refine Sh.qA 3 ?_; refine Sh.qA 5 ?_; refine Sh.qA 9 ?_; refine Sh.qT 4 hHeld ?_; refine Sh.qT 6 hHeld ?_; refine Sh.qA 7 ?_; refine Sh.qA 8 ?_; refine Sh.qA 10 ?_
               refine done_ (done_of HT_.out (by kernel_rfl)) ?_
               have hcz38_0 := Sh.bc BK220.out 0
               have hcz38_1 := Sh.bc BK220.out 1
               have hfz38_0 := blk_frozen BK220.out 0
               have hfz38_1 := blk_frozen BK220.out 1
               try go_wp2_with (first | ((with_reducible refine Sh.k 14 ?_); refine Sh.gD (some 30) Try.func14 #[.int .i64 ((rd_T35 l0 x15_1).f0)] (impl_operandsOfSaid.calls k1 ((rd_T35 l0 x15_1).f0) t221 _ A13.out) fun nd => ?_; (try (rw [drewN_self w36]; generalize hq_ : World.drewN w36 _ = w36; have n0_ : Aside0 (Kd.R Kd.string 9 w36 w.heap.size (fun _ => True) (.slice Ao37 x4_1.length co37) x4_1) := ⟨by rw [← hq_]; exact (Sh.rl HO_4.out)⟩; have n1_ : Aside0 (w36.heap[gb220]? = some (.cells #[.int .i64 ((rd_T35 l0 x15_1).f0), .int .i64 ((rd_T35 l0 x15_1).f1)] 35 (0, 0))) := ⟨by rw [← hq_]; exact (Sh.pl BK220.out)⟩; have n2_ : Aside0 (Below w.heap.size w w36) := ⟨by rw [← hq_]; exact Sh.bw⟩; clear HO_4 BK220 HB hq_; have HO_4 := n0_; have BK220 := n1_; have HB := n2_; clear n0_ n1_ n2_)); have p226 : 0 ≤ ((ji28) : Int) := Sh.od; have q226 : (ji28) < (x4_1.length : Int) := Sh.od; obtain ⟨ad226, e226, hx226_0⟩ := Kd.at_string (Kd.R_reads' HO_4.out).2.2 (ji28) p226 q226; cases e226; replace p226 := eq_true p226; replace q226 := eq_true q226; have p32 : 0 ≤ ((ji28) : Int) := Sh.od; have q32 : ((ji28) : Int) < ((x4_1.length : Int) : Int) := Sh.od; obtain ⟨go32, co32, eo32, gb32, gl32, cl32, HG32⟩ := Kd.R_form HO_4.out (by omega); (first | cases eo32 | (injection eo32 with ea_ en_ ec_; (first | subst ea_ | (injection ea_ with ea_; subst ea_)); subst ec_; clear en_)); have GB32 := am_ gb32; have GG32 := am_ HG32; clear gb32 gl32 HG32; (first | simp only [add_plain] at hx226_0 | skip); obtain ⟨hx32_0, hf32_0⟩ := Kd.R_celln (⟨#[]⟩ : ByteArray) HO_4.out ((ji28) : Int) p32 q32; replace p32 := eq_true p32; replace q32 := eq_true q32; obtain ⟨hy39_, hz39_⟩ := Kd.R_celln (⟨#[]⟩ : ByteArray) HO_4.out ((ji28) : Int) (of_decide_eq_true (by first | (with_reducible assumption) | assumption)) (of_decide_eq_true (by first | (with_reducible assumption) | assumption)); have HP39 := Kd.R_putg HO_4.out ((ji28) : Int) (((⟨#[32, 32, 32, 33, 88, 38, 124, 85, 82]⟩ : ByteArray).extract (((rd_T35 l0 x15_1).f0) : Int).toNat ((wrap64 (((rd_T35 l0 x15_1).f0) + 1)) : Int).toNat) ++ (rdOf ByteArray.empty x4_1 (ji28)))) | ((with_reducible refine gate_store (t := 9) (p := 77) rfl ?_); refine store_event (t := 9) (p := 77) (v := ?vo_w40) (w1 := (w36.setCell ⟨go32, ((ji28) : Int).toNat, none⟩ (.string (((⟨#[32, 32, 32, 33, 88, 38, 124, 85, 82]⟩ : ByteArray).extract (((rd_T35 l0 x15_1).f0) : Int).toNat ((wrap64 (((rd_T35 l0 x15_1).f0) + 1)) : Int).toNat) ++ (rdOf ByteArray.empty x4_1 (ji28)))))) ?hg ?ho ?hn ?hr ?_; (case ho => rfl); (case hg => rfl); (case hn => rfl); (case hr => first | (go_simp; done) | (go_simp; rfl)); intro w40 hw; have hg : w36.grownBy w40 (some go32) := (by rw [hw]; exact HP39.2); have hp_ : Kd.R Kd.string 9 w40 w.heap.size (fun _ => True) (.slice (some ⟨go32, 0, none⟩) x4_1.length co37) y227 := (by rw [hw, Ny227.out]; exact HP39.1); clear HP39; replace BK220 := am_ (blk_grown (g := gb220) (o := .cells #[.int .i64 ((rd_T35 l0 x15_1).f0), .int .i64 ((rd_T35 l0 x15_1).f1)] 35 (0, 0)) (Sh.pl BK220.out) hg (Kd.R_ne HO_4.out BK220.out (by decide))); replace HO_4 := am_ hp_; replace HB := am_ ((by rw [hw]; exact below_set (HB.out) GB32.out : Below w.heap.size w w40)); clear hg hw hp_))
               go_roundg k1
               case measure => have := HK1.out; omega
               case rel => exact ⟨(y227), (wrap64 (x15_1 + 1)), (Sh.es), H', ⟨by have := HK1.out; omega⟩, ⟨Sh.rl HO_4.out⟩, ⟨Sh.bw⟩⟩
              ·rw [if_neg c31] at H
               exact absurd H (by simp)
             ·rw [if_neg c30] at H
              exact absurd H (by simp)
            ·rw [if_neg c29] at H
             exact absurd H (by simp)
           ·rw [if_neg c27] at H
            have c27b0 : (t221 == 1) = false := beq_eq_false_iff_ne.mpr c27
            have c27b1 : (t221 != 1) = true := bne_iff_ne.mpr c27
            obtain ⟨ji41, hj2⟩ : ∃ j_ : Int, (wrap64 ((wrap64 ((x4_1.length : Int) - 1)) - 1)) = j_ := ⟨_, rfl⟩
            replace H : (if 0 ≤ (ji41) then (if (ji41) < (x4_1.length : Int) then (if 1 + (rdOf ByteArray.empty x4_1 (ji41)).size ≤ 9223372036854775807 then (if ((⟨#[40]⟩ : ByteArray) ++ (rdOf ByteArray.empty x4_1 (ji41))).size + ((⟨#[32, 32, 32, 33, 88, 38, 124, 85, 82]⟩ : ByteArray).extract (((rd_T35 l0 x15_1).f0) : Int).toNat ((wrap64 (((rd_T35 l0 x15_1).f0) + 1)) : Int).toNat).size ≤ 9223372036854775807 then (if 0 ≤ (wrap64 ((x4_1.length : Int) - 1)) then (if (wrap64 ((x4_1.length : Int) - 1)) < (x4_1.length : Int) then (if (ji41) ≤ (x4_1.length : Int) then ((some (x4_1.take ((ji41) : Int).toNat : List ByteArray)).bind fun y230 => (if (((⟨#[40]⟩ : ByteArray) ++ (rdOf ByteArray.empty x4_1 (ji41))) ++ ((⟨#[32, 32, 32, 33, 88, 38, 124, 85, 82]⟩ : ByteArray).extract (((rd_T35 l0 x15_1).f0) : Int).toNat ((wrap64 (((rd_T35 l0 x15_1).f0) + 1)) : Int).toNat)).size + (rdOf ByteArray.empty x4_1 (wrap64 ((x4_1.length : Int) - 1))).size ≤ 9223372036854775807 then (if ((((⟨#[40]⟩ : ByteArray) ++ (rdOf ByteArray.empty x4_1 (ji41))) ++ ((⟨#[32, 32, 32, 33, 88, 38, 124, 85, 82]⟩ : ByteArray).extract (((rd_T35 l0 x15_1).f0) : Int).toNat ((wrap64 (((rd_T35 l0 x15_1).f0) + 1)) : Int).toNat)) ++ (rdOf ByteArray.empty x4_1 (wrap64 ((x4_1.length : Int) - 1)))).size + 1 ≤ 9223372036854775807 then (if y230.length < 8796093022208 then (impl_SaidText.l0 k1 (y230 ++ [((((⟨#[40]⟩ : ByteArray) ++ (rdOf ByteArray.empty x4_1 (ji41))) ++ ((⟨#[32, 32, 32, 33, 88, 38, 124, 85, 82]⟩ : ByteArray).extract (((rd_T35 l0 x15_1).f0) : Int).toNat ((wrap64 (((rd_T35 l0 x15_1).f0) + 1)) : Int).toNat)) ++ (rdOf ByteArray.empty x4_1 (wrap64 ((x4_1.length : Int) - 1)))) ++ (⟨#[41]⟩ : ByteArray)]) l0 (l0.length : Int) (wrap64 (x15_1 + 1))) else (none)) else (none)) else (none))) else (none)) else (none)) else (none)) else (none)) else (none)) else (none)) else (none)) = some (r1, r2) := by first | (rw [hj2] at H; exact H) | (simp only [hj2] at H ⊢; exact H)
            (try rw [hj2] at A13)
            have hji41w : (IntKind.i64.wrap ((wrap64 ((x4_1.length : Int) - 1)) - 1)) = ji41 := (i64_w _).trans hj2
            by_cases c42 : 0 ≤ (ji41)
            ·rw [if_pos c42] at H
             have c42b0 := decide_eq_true c42
             clear c42
             by_cases c43 : (ji41) < (x4_1.length : Int)
             ·rw [if_pos c43] at H
              have c43b0 := decide_eq_true c43
              clear c43
              by_cases c44 : 1 + (rdOf ByteArray.empty x4_1 (ji41)).size ≤ 9223372036854775807
              ·rw [if_pos c44] at H
               have c44b0 := eq_true c44
               have c44b1 := decide_eq_true c44
               try have c44b2 : (9223372036854775807 < 1 + (rdOf ByteArray.empty x4_1 (ji41)).size) = False := eq_false (Nat.not_lt.2 c44)
               by_cases c45 : ((⟨#[40]⟩ : ByteArray) ++ (rdOf ByteArray.empty x4_1 (ji41))).size + ((⟨#[32, 32, 32, 33, 88, 38, 124, 85, 82]⟩ : ByteArray).extract (((rd_T35 l0 x15_1).f0) : Int).toNat ((wrap64 (((rd_T35 l0 x15_1).f0) + 1)) : Int).toNat).size ≤ 9223372036854775807
               ·rw [if_pos c45] at H
                have c45b0 := eq_true c45
                have c45b1 := decide_eq_true c45
                try have c45b2 : (9223372036854775807 < ((⟨#[40]⟩ : ByteArray) ++ (rdOf ByteArray.empty x4_1 (ji41))).size + ((⟨#[32, 32, 32, 33, 88, 38, 124, 85, 82]⟩ : ByteArray).extract (((rd_T35 l0 x15_1).f0) : Int).toNat ((wrap64 (((rd_T35 l0 x15_1).f0) + 1)) : Int).toNat).size) = False := eq_false (Nat.not_lt.2 c45)
                have c45x : ((⟨#[32, 32, 32, 33, 88, 38, 124, 85, 82]⟩ : ByteArray).extract (((rd_T35 l0 x15_1).f0) : Int).toNat ((wrap64 (((rd_T35 l0 x15_1).f0) + 1)) : Int).toNat).size = ((wrap64 (((rd_T35 l0 x15_1).f0) + 1)).toNat - ((rd_T35 l0 x15_1).f0).toNat) := by rw [ByteArray.size_extract]; show min _ 9 - _ = _; rw [Nat.min_eq_left (by have h_ : (wrap64 (((rd_T35 l0 x15_1).f0) + 1)) ≤ 9 := Sh.od; omega)]
                have c45b3 : (9223372036854775807 < 1 + (rdOf ByteArray.empty x4_1 (ji41)).size + ((wrap64 (((rd_T35 l0 x15_1).f0) + 1)).toNat - ((rd_T35 l0 x15_1).f0).toNat)) = False := eq_false (Nat.not_lt.2 (by have h_ := c45; simp only [ByteArray.size_append, c45x] at h_; exact h_))
                obtain ⟨ji46, hj3⟩ : ∃ j_ : Int, (wrap64 ((x4_1.length : Int) - 1)) = j_ := ⟨_, rfl⟩
                have hj4 := hj2; (try rw [hj3] at hj4)
                replace H : (if 0 ≤ (ji46) then (if (ji46) < (x4_1.length : Int) then (if (ji41) ≤ (x4_1.length : Int) then ((some (x4_1.take ((ji41) : Int).toNat : List ByteArray)).bind fun y230 => (if (((⟨#[40]⟩ : ByteArray) ++ (rdOf ByteArray.empty x4_1 (ji41))) ++ ((⟨#[32, 32, 32, 33, 88, 38, 124, 85, 82]⟩ : ByteArray).extract (((rd_T35 l0 x15_1).f0) : Int).toNat ((wrap64 (((rd_T35 l0 x15_1).f0) + 1)) : Int).toNat)).size + (rdOf ByteArray.empty x4_1 (ji46)).size ≤ 9223372036854775807 then (if ((((⟨#[40]⟩ : ByteArray) ++ (rdOf ByteArray.empty x4_1 (ji41))) ++ ((⟨#[32, 32, 32, 33, 88, 38, 124, 85, 82]⟩ : ByteArray).extract (((rd_T35 l0 x15_1).f0) : Int).toNat ((wrap64 (((rd_T35 l0 x15_1).f0) + 1)) : Int).toNat)) ++ (rdOf ByteArray.empty x4_1 (ji46))).size + 1 ≤ 9223372036854775807 then (if y230.length < 8796093022208 then (impl_SaidText.l0 k1 (y230 ++ [((((⟨#[40]⟩ : ByteArray) ++ (rdOf ByteArray.empty x4_1 (ji41))) ++ ((⟨#[32, 32, 32, 33, 88, 38, 124, 85, 82]⟩ : ByteArray).extract (((rd_T35 l0 x15_1).f0) : Int).toNat ((wrap64 (((rd_T35 l0 x15_1).f0) + 1)) : Int).toNat)) ++ (rdOf ByteArray.empty x4_1 (ji46))) ++ (⟨#[41]⟩ : ByteArray)]) l0 (l0.length : Int) (wrap64 (x15_1 + 1))) else (none)) else (none)) else (none))) else (none)) else (none)) else (none)) = some (r1, r2) := by first | (rw [hj3] at H; exact H) | (simp only [hj3] at H ⊢; exact H)
                (try rw [hj3] at A13)
                have hji46w : (IntKind.i64.wrap ((x4_1.length : Int) - 1)) = ji46 := (i64_w _).trans hj3
                by_cases c47 : 0 ≤ (ji46)
                ·rw [if_pos c47] at H
                 have c47b0 := decide_eq_true c47
                 clear c47
                 by_cases c48 : (ji46) < (x4_1.length : Int)
                 ·rw [if_pos c48] at H
                  have c48b0 := decide_eq_true c48
                  clear c48
                  by_cases c49 : (ji41) ≤ (x4_1.length : Int)
                  ·rw [if_pos c49] at H
                   have c49b0 := eq_true c49
                   have c49b1 := decide_eq_true c49
                   clear c49
                   obtain ⟨y230, hy230⟩ : ∃ y_ : List ByteArray, y_ = (x4_1.take ((ji41) : Int).toNat) := ⟨_, rfl⟩
                   replace H : (if (((⟨#[40]⟩ : ByteArray) ++ (rdOf ByteArray.empty x4_1 (ji41))) ++ ((⟨#[32, 32, 32, 33, 88, 38, 124, 85, 82]⟩ : ByteArray).extract (((rd_T35 l0 x15_1).f0) : Int).toNat ((wrap64 (((rd_T35 l0 x15_1).f0) + 1)) : Int).toNat)).size + (rdOf ByteArray.empty x4_1 (ji46)).size ≤ 9223372036854775807 then (if ((((⟨#[40]⟩ : ByteArray) ++ (rdOf ByteArray.empty x4_1 (ji41))) ++ ((⟨#[32, 32, 32, 33, 88, 38, 124, 85, 82]⟩ : ByteArray).extract (((rd_T35 l0 x15_1).f0) : Int).toNat ((wrap64 (((rd_T35 l0 x15_1).f0) + 1)) : Int).toNat)) ++ (rdOf ByteArray.empty x4_1 (ji46))).size + 1 ≤ 9223372036854775807 then (if y230.length < 8796093022208 then (impl_SaidText.l0 k1 (y230 ++ [((((⟨#[40]⟩ : ByteArray) ++ (rdOf ByteArray.empty x4_1 (ji41))) ++ ((⟨#[32, 32, 32, 33, 88, 38, 124, 85, 82]⟩ : ByteArray).extract (((rd_T35 l0 x15_1).f0) : Int).toNat ((wrap64 (((rd_T35 l0 x15_1).f0) + 1)) : Int).toNat)) ++ (rdOf ByteArray.empty x4_1 (ji46))) ++ (⟨#[41]⟩ : ByteArray)]) l0 (l0.length : Int) (wrap64 (x15_1 + 1))) else (none)) else (none)) else (none)) = some (r1, r2) := by first | (rw [hy230]; with_reducible exact H) | (have H2_ := (Option.bind_some _ _).symm.trans H; rw [hy230]; with_reducible exact H2_) | (have H2_ := (Option.bind_some _ _).symm.trans H; with_reducible exact H2_) | with_reducible exact H | (rw [hy230]; exact H) | exact H
                   have Ny230 := am_ hy230
                   clear hy230
                   by_cases c50 : (((⟨#[40]⟩ : ByteArray) ++ (rdOf ByteArray.empty x4_1 (ji41))) ++ ((⟨#[32, 32, 32, 33, 88, 38, 124, 85, 82]⟩ : ByteArray).extract (((rd_T35 l0 x15_1).f0) : Int).toNat ((wrap64 (((rd_T35 l0 x15_1).f0) + 1)) : Int).toNat)).size + (rdOf ByteArray.empty x4_1 (ji46)).size ≤ 9223372036854775807
                   ·rw [if_pos c50] at H
                    have c50b0 := eq_true c50
                    have c50b1 := decide_eq_true c50
                    try have c50b2 : (9223372036854775807 < (((⟨#[40]⟩ : ByteArray) ++ (rdOf ByteArray.empty x4_1 (ji41))) ++ ((⟨#[32, 32, 32, 33, 88, 38, 124, 85, 82]⟩ : ByteArray).extract (((rd_T35 l0 x15_1).f0) : Int).toNat ((wrap64 (((rd_T35 l0 x15_1).f0) + 1)) : Int).toNat)).size + (rdOf ByteArray.empty x4_1 (ji46)).size) = False := eq_false (Nat.not_lt.2 c50)
                    have c50x : ((⟨#[32, 32, 32, 33, 88, 38, 124, 85, 82]⟩ : ByteArray).extract (((rd_T35 l0 x15_1).f0) : Int).toNat ((wrap64 (((rd_T35 l0 x15_1).f0) + 1)) : Int).toNat).size = ((wrap64 (((rd_T35 l0 x15_1).f0) + 1)).toNat - ((rd_T35 l0 x15_1).f0).toNat) := by rw [ByteArray.size_extract]; show min _ 9 - _ = _; rw [Nat.min_eq_left (by have h_ : (wrap64 (((rd_T35 l0 x15_1).f0) + 1)) ≤ 9 := Sh.od; omega)]
                    have c50b3 : (9223372036854775807 < 1 + (rdOf ByteArray.empty x4_1 (ji41)).size + ((wrap64 (((rd_T35 l0 x15_1).f0) + 1)).toNat - ((rd_T35 l0 x15_1).f0).toNat) + (rdOf ByteArray.empty x4_1 (ji46)).size) = False := eq_false (Nat.not_lt.2 (by have h_ := c50; simp only [ByteArray.size_append, c50x] at h_; exact h_))
                    by_cases c51 : ((((⟨#[40]⟩ : ByteArray) ++ (rdOf ByteArray.empty x4_1 (ji41))) ++ ((⟨#[32, 32, 32, 33, 88, 38, 124, 85, 82]⟩ : ByteArray).extract (((rd_T35 l0 x15_1).f0) : Int).toNat ((wrap64 (((rd_T35 l0 x15_1).f0) + 1)) : Int).toNat)) ++ (rdOf ByteArray.empty x4_1 (ji46))).size + 1 ≤ 9223372036854775807
                    ·rw [if_pos c51] at H
                     have c51b0 := eq_true c51
                     have c51b1 := decide_eq_true c51
                     try have c51b2 : (9223372036854775807 < ((((⟨#[40]⟩ : ByteArray) ++ (rdOf ByteArray.empty x4_1 (ji41))) ++ ((⟨#[32, 32, 32, 33, 88, 38, 124, 85, 82]⟩ : ByteArray).extract (((rd_T35 l0 x15_1).f0) : Int).toNat ((wrap64 (((rd_T35 l0 x15_1).f0) + 1)) : Int).toNat)) ++ (rdOf ByteArray.empty x4_1 (ji46))).size + 1) = False := eq_false (Nat.not_lt.2 c51)
                     have c51x : ((⟨#[32, 32, 32, 33, 88, 38, 124, 85, 82]⟩ : ByteArray).extract (((rd_T35 l0 x15_1).f0) : Int).toNat ((wrap64 (((rd_T35 l0 x15_1).f0) + 1)) : Int).toNat).size = ((wrap64 (((rd_T35 l0 x15_1).f0) + 1)).toNat - ((rd_T35 l0 x15_1).f0).toNat) := by rw [ByteArray.size_extract]; show min _ 9 - _ = _; rw [Nat.min_eq_left (by have h_ : (wrap64 (((rd_T35 l0 x15_1).f0) + 1)) ≤ 9 := Sh.od; omega)]
                     have c51b3 : (9223372036854775807 < 1 + (rdOf ByteArray.empty x4_1 (ji41)).size + ((wrap64 (((rd_T35 l0 x15_1).f0) + 1)).toNat - ((rd_T35 l0 x15_1).f0).toNat) + (rdOf ByteArray.empty x4_1 (ji46)).size + 1) = False := eq_false (Nat.not_lt.2 (by have h_ := c51; simp only [ByteArray.size_append, c51x] at h_; exact h_))
                     by_cases c52 : y230.length < 8796093022208
                     ·rw [if_pos c52] at H
                      have LMc52 := am_ c52
                      clear c52
                      obtain ⟨y233, hy233⟩ : ∃ y_ : List ByteArray, y_ = (y230 ++ [((((⟨#[40]⟩ : ByteArray) ++ (rdOf ByteArray.empty x4_1 (ji41))) ++ ((⟨#[32, 32, 32, 33, 88, 38, 124, 85, 82]⟩ : ByteArray).extract (((rd_T35 l0 x15_1).f0) : Int).toNat ((wrap64 (((rd_T35 l0 x15_1).f0) + 1)) : Int).toNat)) ++ (rdOf ByteArray.empty x4_1 (ji46))) ++ (⟨#[41]⟩ : ByteArray)]) := ⟨_, rfl⟩
                      replace H : (impl_SaidText.l0 k1 y233 l0 (l0.length : Int) (wrap64 (x15_1 + 1))) = some (r1, r2) := by first | (rw [hy233]; with_reducible exact H) | (have H2_ := (Option.bind_some _ _).symm.trans H; rw [hy233]; with_reducible exact H2_) | (have H2_ := (Option.bind_some _ _).symm.trans H; with_reducible exact H2_) | with_reducible exact H | (rw [hy233]; exact H) | exact H
                      have Ny233 := am_ hy233
                      clear hy233
                      have H' := am_ H
                      clear H
                      have p219 : 0 ≤ (x15_1 : Int) := Sh.od
                      have q219 : x15_1 < (l0.length : Int) := Sh.od
                      obtain ⟨ad219, e219, hx219_0, hx219_1⟩ := at_T35 HR0.out x15_1 p219 q219
                      cases e219
                      try replace hx219_0 := Sh.cw hx219_0
                      try replace hx219_1 := Sh.cw hx219_1
                      replace p219 := eq_true p219
                      replace q219 := eq_true q219
                      try go_wp2_with (first | ((with_reducible refine Sh.d 6 ?_); refine Sh.bx (N := 6) (cs := #[.int .i64 0, .int .i64 0]) (t := 35) (h := ?_); intro gb220 hg w53 hbox hb; replace HO_4 := am_ (Kd.R_below (Sh.rl HO_4.out) hb); have BK220 := am_ hbox; have GE220 := Sh.ag w hg; replace HB := Sh.hb hb; clear hb hbox hg; obtain ⟨hcz54_0, hcz54_1, hfz54_0, hfz54_1⟩ := Sh.b2 BK220.out))
                      have n0_ : Aside0 (Kd.R Kd.string 9 ((w53.setCell ⟨gb220, 0, none⟩ (.int .i64 ((rd_T35 l0 x15_1).f0))).setCell ⟨gb220, 1, none⟩ (.int .i64 ((rd_T35 l0 x15_1).f1))) w.heap.size (fun _ => True) u4 x4_1) := ⟨Sh.rl (Kd.R_mono (Kd.R_far (p := ⟨gb220, 1, none⟩) (Kd.R_far (p := ⟨gb220, 0, none⟩) (Kd.R_types HO_4.out BK220.out (by decide)) (fun _ hk => hk.2) (.int .i64 ((rd_T35 l0 x15_1).f0))) (fun _ hk => hk.2) (.int .i64 ((rd_T35 l0 x15_1).f1))) (fun _ hk => trivial))⟩
                      have n1_ : Aside0 (((w53.setCell ⟨gb220, 0, none⟩ (.int .i64 ((rd_T35 l0 x15_1).f0))).setCell ⟨gb220, 1, none⟩ (.int .i64 ((rd_T35 l0 x15_1).f1))).heap[gb220]? = some (.cells #[.int .i64 ((rd_T35 l0 x15_1).f0), .int .i64 ((rd_T35 l0 x15_1).f1)] 35 (0, 0))) := ⟨by refine Sh.pl ?_; refine blk_put (cs := #[.int .i64 ((rd_T35 l0 x15_1).f0), .int .i64 0]) ?_ 1 _ rfl; refine Sh.pl ?_; refine blk_put (cs := #[.int .i64 0, .int .i64 0]) ?_ 0 _ rfl; refine Sh.pl ?_; exact BK220.out⟩
                      have n2_ : Aside0 (Below w.heap.size w ((w53.setCell ⟨gb220, 0, none⟩ (.int .i64 ((rd_T35 l0 x15_1).f0))).setCell ⟨gb220, 1, none⟩ (.int .i64 ((rd_T35 l0 x15_1).f1)))) := ⟨Sh.bw⟩
                      (try clear HO_4)
                      (try clear BK220)
                      (try clear HB)
                      generalize ((w53.setCell ⟨gb220, 0, none⟩ (.int .i64 ((rd_T35 l0 x15_1).f0))).setCell ⟨gb220, 1, none⟩ (.int .i64 ((rd_T35 l0 x15_1).f1))) = w55 at n0_ n1_ n2_ ⊢
                      have HO_4 := n0_
                      have BK220 := n1_
                      have HB := n2_
                      clear n0_ n1_ n2_
                      replace HO_4 := am_ (Kd.R_drew HO_4.out)
                      replace BK220 := am_ (blk_drew BK220.out)
                      replace HB := am_ (below_drew1 HB.out)
                      obtain ⟨Ao57, co57, eo57⟩ := Kd.R_slice HO_4.out
                      (first | subst eo57 | (injection eo57 with f1_ f2_ f3_; have f4_ := f1_.symm; have f5_ := f3_.symm; clear f1_ f2_ f3_; subst f4_; subst f5_))
                      refine start_ (n := 11) (S := fun w' => w'.cell? ⟨gb220, 0, none⟩ = some (.int .i64 ((rd_T35 l0 x15_1).f0)) ∧ w'.cell? ⟨gb220, 1, none⟩ = some (.int .i64 ((rd_T35 l0 x15_1).f1))) (ds := []) (Sh.nm 11 0) (by kernel_rfl) rfl rfl Sh.cs (fun hHeld => ?_); refine with_tabW impl_SaidText.tab7 impl_SaidText.bits7 (fun HT_ HW_ => ?_)
                      generalize w55.drew = w56 at HO_4 BK220 HB hHeld ⊢
                      refine Sh.qA 0 ?_; refine Sh.qA 1 ?_; refine Sh.qA 2 ?_; refine Sh.qA 3 ?_; refine Sh.qA 5 ?_; refine Sh.qA 9 ?_; refine Sh.qT 4 hHeld ?_; refine Sh.qT 6 hHeld ?_; refine Sh.qA 7 ?_; refine Sh.qA 8 ?_; refine Sh.qA 10 ?_
                      refine done_ (done_of HT_.out (by kernel_rfl)) ?_
                      have hcz58_0 := Sh.bc BK220.out 0
                      have hcz58_1 := Sh.bc BK220.out 1
                      have hfz58_0 := blk_frozen BK220.out 0
                      have hfz58_1 := blk_frozen BK220.out 1
                      try go_wp2_with (first | ((with_reducible refine Sh.k 14 ?_); refine Sh.gD (some 30) Try.func14 #[.int .i64 ((rd_T35 l0 x15_1).f0)] (impl_operandsOfSaid.calls k1 ((rd_T35 l0 x15_1).f0) t221 _ A13.out) fun nd => ?_))
                      (try (rw [drewN_self w56]; generalize hq_ : World.drewN w56 _ = w56; have n0_ : Aside0 (Kd.R Kd.string 9 w56 w.heap.size (fun _ => True) (.slice Ao57 x4_1.length co57) x4_1) := ⟨by rw [← hq_]; exact (Sh.rl HO_4.out)⟩; have n1_ : Aside0 (w56.heap[gb220]? = some (.cells #[.int .i64 ((rd_T35 l0 x15_1).f0), .int .i64 ((rd_T35 l0 x15_1).f1)] 35 (0, 0))) := ⟨by rw [← hq_]; exact (Sh.pl BK220.out)⟩; have n2_ : Aside0 (Below w.heap.size w w56) := ⟨by rw [← hq_]; exact Sh.bw⟩; clear HO_4 BK220 HB hq_; have HO_4 := n0_; have BK220 := n1_; have HB := n2_; clear n0_ n1_ n2_))
                      replace HO_4 := am_ (Kd.R_drew HO_4.out)
                      replace BK220 := am_ (blk_drew BK220.out)
                      replace HB := am_ (below_drew1 HB.out)
                      have p228 : 0 ≤ ((ji41) : Int) := Sh.od
                      have q228 : (ji41) < (x4_1.length : Int) := Sh.od
                      obtain ⟨ad228, e228, hx228_0⟩ := Kd.at_string (Kd.R_reads' HO_4.out).2.2 (ji41) p228 q228
                      cases e228
                      replace p228 := eq_true p228
                      replace q228 := eq_true q228
                      have p229 : 0 ≤ ((ji46) : Int) := Sh.od
                      have q229 : (ji46) < (x4_1.length : Int) := Sh.od
                      obtain ⟨ad229, e229, hx229_0⟩ := Kd.at_string (Kd.R_reads' HO_4.out).2.2 (ji46) p229 q229
                      obtain rfl : ad228 = ad229 := (by injection e229)
                      replace p229 := eq_true p229
                      replace q229 := eq_true q229
                      have q60 : ((ji41) : Int) ≤ ((x4_1.length : Int) : Int) := Sh.od
                      obtain ⟨i060, hi060, _, hsz60, _⟩ := info_parts info9
                      have hcut60 := cut_to (P := Try.prog) 33 9 .i64 Try.underlying33 hi060 (some ad228) x4_1.length co57 (ji41) (of_decide_eq_true (by first | (with_reducible assumption) | assumption)) q60 (Kd.R_reads' HO_4.out).2.1
                      have hr60 := Kd.R_take (m := ((ji41) : Int).toNat) HO_4.out (by omega)
                      have hy60 : y230.length = ((ji41) : Int).toNat := (by rw [Ny230.out, List.length_take]; omega)
                      rw [← Ny230.out] at hr60
                      rw [← hy60] at hr60 hcut60
                      clear hy60 hi060 hsz60 HO_4
                      have HO232 := am_ hr60
                      clear hr60
                      replace q60 := eq_true q60
                      refine start_ (n := 21) (S := fun w' => w'.cell? (ad228.add ((ji41)).toNat) = some (.string (rdOf ByteArray.empty x4_1 (ji41))) ∧ w'.cell? (ad228.add ((ji46)).toNat) = some (.string (rdOf ByteArray.empty x4_1 (ji46)))) (ds := [18, 19]) (Sh.nm 21 0) (by kernel_rfl) rfl rfl ⟨hx228_0, hx229_0⟩ (fun hHeld => ?_); refine with_tabW impl_SaidText.tab9 impl_SaidText.bits9 (fun HT_ HW_ => ?_)
                      generalize w56.drew = w59 at BK220 HB HO232 hx228_0 hx229_0 hHeld ⊢
                      refine Sh.qA 0 ?_; refine Sh.qA 1 ?_; refine Sh.qA 2 ?_; refine Sh.qA 3 ?_; refine Sh.qA 4 ?_; refine Sh.qA 5 ?_; refine Sh.qA 6 ?_; refine Sh.qA 7 ?_; refine Sh.qA 10 ?_; refine Sh.qA 12 ?_; refine Sh.qA 13 ?_; refine Sh.qA 14 ?_; refine Sh.qT 8 hHeld ?_; refine Sh.qA 9 ?_; refine Sh.qA 11 ?_; refine Sh.qT 15 hHeld ?_; refine Sh.qA 16 ?_; refine Sh.qA 17 ?_
                      refine last_ (i := 18) (N := some 49) (Sh.nm 21 524287) rfl rfl (one_of HT_.out (by kernel_rfl)) (by decide) (fun K hK => ?_)
                      refine value_ (w1 := ?_) (v := ?_) (by rfl) rfl ?_ ?_
                      rotate_left 2
                      ·go_simp
                       constructor
                       ·rfl
                       ·rfl
                      refine Sh.kM hK ?_
                      clear hK K
                      refine last_ (i := 19) (N := some 50) (Sh.nm 21 1048575) rfl rfl (one_of HT_.out (by kernel_rfl)) (by decide) (fun K hK => ?_)
                      refine Kd.R_append_step Kd.string (w0 := w) w.heap.size (by rfl) (.tmp 34) (.tmp 49) 33 9 (.string ⟨#[]⟩) 16 rfl Try.underlying33 info9 rfl (by decide) (by omega) (.slice (some ad228) y230.length co57) y230 (((((⟨#[40]⟩ : ByteArray) ++ (rdOf ByteArray.empty x4_1 (ji41))) ++ ((⟨#[32, 32, 32, 33, 88, 38, 124, 85, 82]⟩ : ByteArray).extract (((rd_T35 l0 x15_1).f0) : Int).toNat ((wrap64 (((rd_T35 l0 x15_1).f0) + 1)) : Int).toNat)) ++ (rdOf ByteArray.empty x4_1 (ji46))) ++ (⟨#[41]⟩ : ByteArray)) [.string (((((⟨#[40]⟩ : ByteArray) ++ (rdOf ByteArray.empty x4_1 (ji41))) ++ ((⟨#[32, 32, 32, 33, 88, 38, 124, 85, 82]⟩ : ByteArray).extract (((rd_T35 l0 x15_1).f0) : Int).toNat ((wrap64 (((rd_T35 l0 x15_1).f0) + 1)) : Int).toNat)) ++ (rdOf ByteArray.empty x4_1 (ji46))) ++ (⟨#[41]⟩ : ByteArray))] (fun _ => True) (fun _ => False) rfl rfl ?aP (fun _ hk => hk.elim) ?aF ?aO ?aB ?aS ?aL ?_
                      (case aP => exact rfl)
                      (case aB => exact Sh.bw)
                      (case aF => exact (fun _ _ => trivial))
                      (case aO => exact (Sh.rl HO232.out))
                      (case aS => exact (below_size Sh.bw))
                      (case aL => have := LMc52.out; omega)
                      intro v234 w61 ho hb hg hat
                      rw [← Ny233.out] at ho
                      have n0_ := am_ (blk_grown (g := gb220) (o := .cells #[.int .i64 ((rd_T35 l0 x15_1).f0), .int .i64 ((rd_T35 l0 x15_1).f1)] 35 (0, 0)) (Sh.pl BK220.out) hg (Kd.R_ne HO232.out BK220.out (by decide)))
                      have n1_ := am_ hb
                      have n2_ := am_ ho
                      clear BK220
                      clear HB
                      clear HO232
                      have BK220 := n0_
                      have HB := n1_
                      have HO235 := n2_
                      clear n0_ n1_ n2_
                      clear ho hb hg hat
                      refine Sh.kM hK ?_
                      clear hK K
                      refine Sh.qA 20 ?_
                      refine done_ (done_of HT_.out (by kernel_rfl)) ?_
                      try go_wp2
                      go_roundg k1
                      case measure => have := HK1.out; omega
                      case rel => exact ⟨(y233), (wrap64 (x15_1 + 1)), (Sh.es), H', ⟨by have := HK1.out; omega⟩, ⟨Sh.rl HO235.out⟩, ⟨Sh.bw⟩⟩
                     ·rw [if_neg c52] at H
                      exact absurd H (by simp)
                    ·rw [if_neg c51] at H
                     exact absurd H (by simp)
                   ·rw [if_neg c50] at H
                    exact absurd H (by simp)
                  ·rw [if_neg c49] at H
                   exact absurd H (by simp)
                 ·rw [if_neg c48] at H
                  exact absurd H (by simp)
                ·rw [if_neg c47] at H
                 exact absurd H (by simp)
               ·rw [if_neg c45] at H
                exact absurd H (by simp)
              ·rw [if_neg c44] at H
               exact absurd H (by simp)
             ·rw [if_neg c43] at H
              exact absurd H (by simp)
            ·rw [if_neg c42] at H
             exact absurd H (by simp)
         ·rw [if_neg c12] at H
          exact absurd H (by simp)
        ·rw [if_neg c11] at H
         exact absurd H (by simp)
       ·rw [if_neg c10] at H
        exact absurd H (by simp)
      ·rw [if_neg c9] at H
       exact absurd H (by simp)
     ·rw [if_neg c8] at H
      exact absurd H (by simp)
    ·rw [if_neg c7] at H
     have c7b0 := decide_eq_false c7
     clear c7
     by_cases c62 : 0 < (x4_1.length : Int)
     ·rw [if_pos c62] at H
      have c62b0 := decide_eq_true c62
      have c62b1 : decide (0 < x4_1.length) = true := decide_eq_true (by omega)
      clear c62
      simp only [Option.some.injEq, Prod.mk.injEq] at H
      obtain ⟨rfl, rfl⟩ := H
      obtain ⟨Ao63, co63, eo63⟩ := Kd.R_slice HO_4.out
      subst eo63
      have p218 : 0 ≤ (0 : Int) := (by omega)
      have q218 : 0 < (x4_1.length : Int) := Sh.od
      obtain ⟨ad218, e218, hx218_0⟩ := Kd.at_string (Kd.R_reads' HO_4.out).2.2 0 p218 q218
      cases e218
      have qi218 : (0 < x4_1.length) = True := eq_true (by omega)
      (try rw [show ((0 : Int)).toNat = 0 from rfl] at hx218_0)
      (try rw [Addr.add_zero'] at hx218_0)
      replace p218 := eq_true p218
      replace q218 := eq_true q218
      go_wp2
      go_ret2
      exact ⟨Sh.eR, Sh.bw⟩
     ·rw [if_neg c62] at H
      exact absurd H (by simp)
 ·replace c3 := Bool.eq_false_iff.mpr c3
  subst c3
  rw [Sh.nf] at H
  simp only [Option.some.injEq, Prod.mk.injEq] at H
  obtain ⟨rfl, rfl⟩ := H
  go_enter Try.func6, Try.ntmps6
  go_wp2_with (first | ((with_reducible refine Sh.k 13 ?_); refine Sh.gL (some 10) Try.func13 #[.slice A0 l0.length c0] (h := ?_); (with_reducible refine (impl_GoodSaid.calls k _ _ l0 false _ ?side1 ?side2 A2.out).mono ?_); (case side1 => repeat (first | exact HR0.out | (with_reducible first | refine Kd.C_alloc ?_ _ | refine Kd.C_drewN ?_ _ | refine Kd.C_drew ?_))); (case side2 => exact HC0.out); rintro e w64 ⟨rfl, hb⟩; refine ⟨_, rfl, ?_⟩; replace HB := Sh.hb hb; (try clear hb); (try clear hb2); (try clear hk); (try clear hi)))
  go_ret2
  exact ⟨Sh.eR, Sh.bw⟩
def spec_l1In.f (a0 : Int) (a1 : Int) (a2 : Int) : Option (Bool) := if a0 ≥ a1 then (some (decide (a0 ≤ a2))) else (some false)
theorem spec_l1In.calls (a0 : Int) (a1 : Int) (a2 : Int) (r : Bool) (w : World) (h : spec_l1In.f a0 a1 a2 = some r) :
  Calls Try.prog 24 #[.int .i64 a0, .int .i64 a1, .int .i64 a2] w fun e w' => e = .returned (.bool r) ∧ Drawn0 w w' := by
 have H := h
 clear h
 unfold spec_l1In.f at H
 by_cases c4 : a0 ≥ a1
 ·rw [if_pos c4] at H
  have c4b0 : decide (a1 ≤ a0) = true := decide_eq_true c4
  clear c4
  obtain rfl := Option.some.inj H
  go_enter Try.func24, Try.ntmps24
  go_wp2
  go_ret
  exact ⟨Sh.es, Sh.dr⟩
 ·rw [if_neg c4] at H
  have c4b0 : decide (a1 ≤ a0) = false := decide_eq_false c4
  clear c4
  obtain rfl := Option.some.inj H
  go_enter Try.func24, Try.ntmps24
  go_wp2
  go_ret
  exact ⟨Sh.es, Sh.dr⟩
mutual
def spec_l10Need.j0 : Nat → Int → Bool → Option (Int)
 | 0, _, _ => none
 | k + 1, x3, x4 => if x4 = true then (some 0) else (if x3 = 3 then (spec_l10Need.j1 k x3 (x3 == 3)) else (spec_l10Need.j1 k x3 (x3 == 4)))
def spec_l10Need.j1 : Nat → Int → Bool → Option (Int)
 | 0, _, _ => none
 | k + 1, x3, x7 => if x7 = true then (some 1) else (if x3 = 5 then (some 2) else (if x3 = 6 then (some 2) else (if x3 = 7 then (some 2) else (if x3 = 8 then (some 2) else (some (-1))))))
end
def spec_l10Need.f (k : Nat) (a0 : Int) : Option (Int) := if a0 = 1 then (spec_l10Need.j0 k a0 (a0 == 1)) else (spec_l10Need.j0 k a0 (a0 == 2))
theorem spec_l10Need.mono_l : ∀ k, (∀ y0 y1, LeO (spec_l10Need.j0 k y0 y1) (spec_l10Need.j0 (k + 1) y0 y1)) ∧ (∀ y0 y1, LeO (spec_l10Need.j1 k y0 y1) (spec_l10Need.j1 (k + 1) y0 y1))
 | 0 => ⟨fun _ _ r h => by simp [spec_l10Need.j0] at h, fun _ _ r h => by simp [spec_l10Need.j1] at h⟩
 | k + 1 => by
  obtain ⟨ih0, ih1⟩ := spec_l10Need.mono_l k
  and_intros <;> intros
  all_goals (first | unfold spec_l10Need.j0 | unfold spec_l10Need.j1)
  all_goals repeat' with_reducible first | apply ih0 | apply ih1 | exact LeO.refl _ | exact LeO.none _ | apply LeO.ite | refine LeO.bind ?_ fun _ => ?_
theorem spec_l10Need.mono : ∀ a0 k, LeO (spec_l10Need.f k a0) (spec_l10Need.f (k + 1) a0) := by
 intro a0 k
 obtain ⟨ih0, ih1⟩ := spec_l10Need.mono_l k
 unfold spec_l10Need.f
 repeat' with_reducible first | apply ih0 | apply ih1 | exact LeO.refl _ | exact LeO.none _ | apply LeO.ite | refine LeO.bind ?_ fun _ => ?_
theorem spec_l10Need.calls (k : Nat) (a0 : Int) (r : Int) (w : World) (h : spec_l10Need.f k a0 = some r) :
  Calls Try.prog 25 #[.int .i64 a0] w fun e w' => e = .returned (.int .i64 r) ∧ Drawn0 w w' := by
 have H := h
 clear h
 unfold spec_l10Need.f at H
 have HC2 := am_ H
 clear H
 go_enter Try.func25, Try.ntmps25
 go_upto_if 4 with (fail)
 go_cut [4] (fun v4 wc => ∃ (kq : Nat) (x4_1 : Bool), v4 = .bool x4_1 ∧ Aside0 (spec_l10Need.j0 kq a0 x4_1 = some r) ∧ Aside0 (kq ≤ k) ∧ Drawn0 w wc)
 case first =>
  have H := HC2.out
  clear HC2
  by_cases c3 : a0 = 1
  ·rw [if_pos c3] at H
   have c3b0 : (a0 == 1) = true := beq_iff_eq.mpr c3
   have c3b1 : (a0 != 1) = false := bne_eq_false_iff_eq.mpr c3
   clear c3
   first | rw [c3b0] | (simp only [i64_w, i32_w]; rw [c3b0]) | skip
   have H' := am_ H
   clear H
   go_wp2
   go_meet
   case rel => exact ⟨_, ((a0 == 1)), (Sh.es), H', ⟨Sh.om⟩, Sh.dr⟩
  ·rw [if_neg c3] at H
   have c3b0 : (a0 == 1) = false := beq_eq_false_iff_ne.mpr c3
   have c3b1 : (a0 != 1) = true := bne_iff_ne.mpr c3
   first | rw [c3b0] | (simp only [i64_w, i32_w]; rw [c3b0]) | skip
   have H' := am_ H
   clear H
   go_wp2
   go_meet
   case rel => exact ⟨_, ((a0 == 2)), (Sh.es), H', ⟨Sh.om⟩, Sh.dr⟩
 case rest =>
  clear HC2
  obtain ⟨kq, x4_1, rfl, HA, HJ1, ⟨mc1, rfl⟩⟩ := hcut
  cases kq with
  | zero => exact absurd HA.out (by simp [spec_l10Need.j0])
  | succ kj1 =>
   have H := HA.out
   clear HA
   simp only [spec_l10Need.j0] at H
   by_cases c4 : x4_1 = true
   ·subst c4
    rw [if_pos rfl] at H
    obtain rfl := Option.some.inj H
    go_wp2
    go_ret
    exact ⟨Sh.es, Sh.dr⟩
   ·replace c4 := Bool.eq_false_iff.mpr c4
    subst c4
    rw [Sh.nf] at H
    have HC5 := am_ H
    clear H
    go_upto_if 7 with (fail)
    go_cut [7] (fun v7 wc => ∃ (kq : Nat) (x7_4 : Bool), v7 = .bool x7_4 ∧ Aside0 (spec_l10Need.j1 kq a0 x7_4 = some r) ∧ Aside0 (kq ≤ kj1) ∧ Drawn0 w wc)
    case first =>
     have H := HC5.out
     clear HC5
     by_cases c6 : a0 = 3
     ·rw [if_pos c6] at H
      have c6b0 : (a0 == 3) = true := beq_iff_eq.mpr c6
      have c6b1 : (a0 != 3) = false := bne_eq_false_iff_eq.mpr c6
      clear c6
      first | rw [c6b0] | (simp only [i64_w, i32_w]; rw [c6b0]) | skip
      have H' := am_ H
      clear H
      go_wp2
      go_meet
      case rel => exact ⟨_, ((a0 == 3)), (Sh.es), H', ⟨by have := HJ1.out; first | omega | exact Nat.le_refl _⟩, Sh.dr⟩
     ·rw [if_neg c6] at H
      have c6b0 : (a0 == 3) = false := beq_eq_false_iff_ne.mpr c6
      have c6b1 : (a0 != 3) = true := bne_iff_ne.mpr c6
      first | rw [c6b0] | (simp only [i64_w, i32_w]; rw [c6b0]) | skip
      have H' := am_ H
      clear H
      go_wp2
      go_meet
      case rel => exact ⟨_, ((a0 == 4)), (Sh.es), H', ⟨by have := HJ1.out; first | omega | exact Nat.le_refl _⟩, Sh.dr⟩
    case rest =>
     clear HC5
     obtain ⟨kq, x7_4, rfl, HA, HJ4, ⟨mc4, rfl⟩⟩ := hcut
     cases kq with
     | zero => exact absurd HA.out (by simp [spec_l10Need.j1])
     | succ kj4 =>
      have H := HA.out
      clear HA
      simp only [spec_l10Need.j1] at H
      by_cases c7 : x7_4 = true
      ·subst c7
       rw [if_pos rfl] at H
       obtain rfl := Option.some.inj H
       go_wp2
       go_ret
       exact ⟨Sh.es, Sh.dr⟩
      ·replace c7 := Bool.eq_false_iff.mpr c7
       subst c7
       rw [Sh.nf] at H
       by_cases c8 : a0 = 5
       ·rw [if_pos c8] at H
        have c8b0 : (a0 == 5) = true := beq_iff_eq.mpr c8
        have c8b1 : (a0 != 5) = false := bne_eq_false_iff_eq.mpr c8
        clear c8
        obtain rfl := Option.some.inj H
        go_wp2
        go_ret
        exact ⟨Sh.es, Sh.dr⟩
       ·rw [if_neg c8] at H
        have c8b0 : (a0 == 5) = false := beq_eq_false_iff_ne.mpr c8
        have c8b1 : (a0 != 5) = true := bne_iff_ne.mpr c8
        by_cases c9 : a0 = 6
        ·rw [if_pos c9] at H
         have c9b0 : (a0 == 6) = true := beq_iff_eq.mpr c9
         have c9b1 : (a0 != 6) = false := bne_eq_false_iff_eq.mpr c9
         clear c9
         obtain rfl := Option.some.inj H
         go_wp2
         go_ret
         exact ⟨Sh.es, Sh.dr⟩
        ·rw [if_neg c9] at H
         have c9b0 : (a0 == 6) = false := beq_eq_false_iff_ne.mpr c9
         have c9b1 : (a0 != 6) = true := bne_iff_ne.mpr c9
         by_cases c10 : a0 = 7
         ·rw [if_pos c10] at H
          have c10b0 : (a0 == 7) = true := beq_iff_eq.mpr c10
          have c10b1 : (a0 != 7) = false := bne_eq_false_iff_eq.mpr c10
          clear c10
          obtain rfl := Option.some.inj H
          go_wp2
          go_ret
          exact ⟨Sh.es, Sh.dr⟩
         ·rw [if_neg c10] at H
          have c10b0 : (a0 == 7) = false := beq_eq_false_iff_ne.mpr c10
          have c10b1 : (a0 != 7) = true := bne_iff_ne.mpr c10
          by_cases c11 : a0 = 8
          ·rw [if_pos c11] at H
           have c11b0 : (a0 == 8) = true := beq_iff_eq.mpr c11
           have c11b1 : (a0 != 8) = false := bne_eq_false_iff_eq.mpr c11
           clear c11
           obtain rfl := Option.some.inj H
           go_wp2
           go_ret
           exact ⟨Sh.es, Sh.dr⟩
          ·rw [if_neg c11] at H
           have c11b0 : (a0 == 8) = false := beq_eq_false_iff_ne.mpr c11
           have c11b1 : (a0 != 8) = true := bne_iff_ne.mpr c11
           obtain rfl := Option.some.inj H
           go_wp2
           go_ret
           exact ⟨Sh.es, Sh.dr⟩
def spec_l10N.f (a0_0 : Int) (a0_1 : Int) : Option (Bool) := if a0_0 = 1 then ((spec_l1In.f a0_1 0 2).bind fun t237 => (some t237)) else (if a0_0 = 2 then ((spec_l1In.f a0_1 0 1).bind fun t238 => (some t238)) else (some (a0_1 == 0)))
theorem spec_l10N.calls (a0_0 : Int) (a0_1 : Int) (r : Bool) (w : World) (h : spec_l10N.f a0_0 a0_1 = some r) :
  Calls Try.prog 26 #[.agg #[.int .i64 a0_0, .int .i64 a0_1]] w fun e w' => e = .returned (.bool r) ∧ Below w.heap.size w w' := by
 have hu35 := Try.underlying35
 have HB := am_ (Below.refl w.heap.size w)
 have H := h
 clear h
 unfold spec_l10N.f at H
 by_cases c2 : a0_0 = 1
 ·rw [if_pos c2] at H
  have c2b0 : (a0_0 == 1) = true := beq_iff_eq.mpr c2
  have c2b1 : (a0_0 != 1) = false := bne_eq_false_iff_eq.mpr c2
  clear c2
  obtain ⟨t237, A3, H⟩ := Sh.ba H
  obtain rfl := Option.some.inj H
  go_enter Try.func26, Try.ntmps26
  go_wp2_with (first | ((with_reducible refine Sh.d 1 ?_); refine Sh.bz w (N := 1) (cs := #[.int .i64 a0_0, .int .i64 a0_1]) (t := 35) (h := ?_); clear HB; intro gb236 w4 BK236 GE236 HB; obtain ⟨hcz5_0, hcz5_1, hfz5_0, hfz5_1⟩ := Sh.b2 BK236.out) | ((with_reducible refine Sh.k 24 ?_); refine Sh.gD (some 9) Try.func24 #[.int .i64 a0_1, .int .i64 0, .int .i64 2] (spec_l1In.calls a0_1 0 2 t237 _ A3.out) fun nd => ?_))
  go_ret
  exact ⟨Sh.eR, Sh.bw⟩
 ·rw [if_neg c2] at H
  have c2b0 : (a0_0 == 1) = false := beq_eq_false_iff_ne.mpr c2
  have c2b1 : (a0_0 != 1) = true := bne_iff_ne.mpr c2
  by_cases c6 : a0_0 = 2
  ·rw [if_pos c6] at H
   have c6b0 : (a0_0 == 2) = true := beq_iff_eq.mpr c6
   have c6b1 : (a0_0 != 2) = false := bne_eq_false_iff_eq.mpr c6
   clear c6
   obtain ⟨t238, A7, H⟩ := Sh.ba H
   obtain rfl := Option.some.inj H
   go_enter Try.func26, Try.ntmps26
   go_wp2_with (first | ((with_reducible refine Sh.d 1 ?_); refine Sh.bz w (N := 1) (cs := #[.int .i64 a0_0, .int .i64 a0_1]) (t := 35) (h := ?_); clear HB; intro gb236 w8 BK236 GE236 HB; obtain ⟨hcz9_0, hcz9_1, hfz9_0, hfz9_1⟩ := Sh.b2 BK236.out) | ((with_reducible refine Sh.k 24 ?_); refine Sh.gD (some 14) Try.func24 #[.int .i64 a0_1, .int .i64 0, .int .i64 1] (spec_l1In.calls a0_1 0 1 t238 _ A7.out) fun nd => ?_))
   go_ret
   exact ⟨Sh.eR, Sh.bw⟩
  ·rw [if_neg c6] at H
   have c6b0 : (a0_0 == 2) = false := beq_eq_false_iff_ne.mpr c6
   have c6b1 : (a0_0 != 2) = true := bne_iff_ne.mpr c6
   obtain rfl := Option.some.inj H
   go_enter Try.func26, Try.ntmps26
   go_wp2_with (first | ((with_reducible refine Sh.d 1 ?_); refine Sh.bz w (N := 1) (cs := #[.int .i64 a0_0, .int .i64 a0_1]) (t := 35) (h := ?_); clear HB; intro gb236 w10 BK236 GE236 HB; obtain ⟨hcz11_0, hcz11_1, hfz11_0, hfz11_1⟩ := Sh.b2 BK236.out))
   go_ret
   exact ⟨Sh.eR, Sh.bw⟩
def spec_GoodSaid.l0 : Nat → Int → List (S35) → Int → Int → Option (Bool)
 | 0, _, _, _, _ => none
 | k + 1, x3, x11, x12, x13 => if x13 < x12 then (if 0 ≤ x13 then (if x13 < (x11.length : Int) then ((spec_l10Need.f k ((rd_T35 x11 x13).f0)).bind fun t242 => (if t242 < 0 then (some false) else ((spec_l10N.f ((rd_T35 x11 x13).f0) ((rd_T35 x11 x13).f1)).bind fun t243 => (if t243 = true then (if x3 < t242 then (some false) else (spec_GoodSaid.l0 k (wrap64 (x3 + (wrap64 (1 - t242)))) x11 x12 (wrap64 (x13 + 1)))) else (some false))))) else (none)) else (none)) else (some (x3 == 1))
def spec_GoodSaid.f (k : Nat) (l0 : List (S35)) : Option (Bool) := (spec_l1In.f (l0.length : Int) 1 16).bind fun t239 => (if t239 = true then (spec_GoodSaid.l0 k 0 l0 (l0.length : Int) 0) else (some false))
theorem spec_GoodSaid.mono_l : ∀ k, (∀ y0 y1 y2 y3, LeO (spec_GoodSaid.l0 k y0 y1 y2 y3) (spec_GoodSaid.l0 (k + 1) y0 y1 y2 y3))
 | 0 => fun _ _ _ _ r h => by simp [spec_GoodSaid.l0] at h
 | k + 1 => by
  have ih0 := spec_GoodSaid.mono_l k
  ·intro y0 y1 y2 y3
   unfold spec_GoodSaid.l0
   repeat' with_reducible first | apply ih0 | apply spec_l10Need.mono | exact LeO.refl _ | exact LeO.none _ | apply LeO.ite | refine LeO.bind ?_ fun _ => ?_
theorem spec_GoodSaid.mono : ∀ a0 k, LeO (spec_GoodSaid.f k a0) (spec_GoodSaid.f (k + 1) a0) := by
 intro a0 k
 have ih0 := spec_GoodSaid.mono_l k
 unfold spec_GoodSaid.f
 repeat' with_reducible first | apply ih0 | apply spec_l10Need.mono | exact LeO.refl _ | exact LeO.none _ | apply LeO.ite | refine LeO.bind ?_ fun _ => ?_
theorem spec_GoodSaid.calls (k : Nat) (A0 : Option Addr) (c0 : Nat) (l0 : List (S35)) (r : Bool) (w : World) (hr0 : Kd.C k35 w A0 l0.length l0) (hc0 : l0.length ≤ c0) (h : spec_GoodSaid.f k l0 = some r) :
  Calls Try.prog 15 #[.slice A0 l0.length c0] w fun e w' => e = .returned (.bool r) ∧ Below w.heap.size w w' := by
 have hu35 := Try.underlying35
 have HR0 := am_ hr0
 have HC0 := am_ hc0
 clear hr0 hc0
 have HB := am_ (Below.refl w.heap.size w)
 have H := h
 clear h
 unfold spec_GoodSaid.f at H
 obtain ⟨t239, A2, H⟩ := Sh.ba H
 by_cases c3 : t239 = true
 ·subst c3
  rw [if_pos rfl] at H
  have H' := am_ H
  clear H
  go_enter Try.func15, Try.ntmps15
  go_wp2_with (first | ((with_reducible refine Sh.k 24 ?_); refine Sh.gD (some 9) Try.func24 #[.int .i64 (l0.length : Int), .int .i64 1, .int .i64 16] (spec_l1In.calls (l0.length : Int) 1 16 true _ A2.out) fun nd => ?_))
  go_loopg [3, 13] k (fun kq v3 v13 w' => ∃ (x3_1 : Int) (x13_1 : Int), v3 = .int .i64 x3_1 ∧ v13 = .int .i64 x13_1 ∧ Aside0 (spec_GoodSaid.l0 kq x3_1 l0 (l0.length : Int) x13_1 = some r) ∧ Aside0 (kq ≤ k) ∧ Aside0 (Below w.heap.size w w'))
  case atStart => exact ⟨(0), (0), (Sh.es), (Sh.es), H', ⟨Nat.le_refl _⟩, ⟨Sh.bw⟩⟩
  case round =>
   clear H'
   obtain ⟨x3_1, x13_1, rfl, rfl, HA, HK1, HB⟩ := hrel
   cases gk with
   | zero => exact absurd HA.out (by simp [spec_GoodSaid.l0])
   | succ k1 =>
    have H := HA.out
    clear HA
    simp only [spec_GoodSaid.l0] at H
    by_cases c4 : x13_1 < (l0.length : Int)
    ·rw [if_pos c4] at H
     have c4b0 := decide_eq_true c4
     clear c4
     by_cases c5 : 0 ≤ x13_1
     ·rw [if_pos c5] at H
      have c5b0 := decide_eq_true c5
      clear c5
      by_cases c6 : x13_1 < (l0.length : Int)
      ·rw [if_pos c6] at H
       have c6b0 := decide_eq_true c6
       clear c6
       obtain ⟨t242, A7, H⟩ := Sh.ba H
       by_cases c8 : t242 < 0
       ·rw [if_pos c8] at H
        have c8b0 := decide_eq_true c8
        clear c8
        obtain rfl := Option.some.inj H
        have p240 : 0 ≤ (x13_1 : Int) := Sh.od
        have q240 : x13_1 < (l0.length : Int) := Sh.od
        obtain ⟨ad240, e240, hx240_0, hx240_1⟩ := at_T35 HR0.out x13_1 p240 q240
        cases e240
        try replace hx240_0 := Sh.cw hx240_0
        try replace hx240_1 := Sh.cw hx240_1
        replace p240 := eq_true p240
        replace q240 := eq_true q240
        go_wp2_with (first | ((with_reducible refine Sh.d 5 ?_); refine Sh.bz w (N := 5) (cs := #[.int .i64 0, .int .i64 0]) (t := 35) (h := ?_); clear HB; intro gb241 w9 BK241 GE241 HB; obtain ⟨hcz10_0, hcz10_1, hfz10_0, hfz10_1⟩ := Sh.b2 BK241.out) | ((with_reducible refine Sh.k 25 ?_); refine Sh.gD (some 19) Try.func25 #[.int .i64 ((rd_T35 l0 x13_1).f0)] (spec_l10Need.calls k1 ((rd_T35 l0 x13_1).f0) t242 _ A7.out) fun nd => ?_))
        go_ret
        exact ⟨Sh.eR, Sh.bw⟩
       ·rw [if_neg c8] at H
        have c8b0 := decide_eq_false c8
        clear c8
        obtain ⟨t243, A11, H⟩ := Sh.ba H
        by_cases c12 : t243 = true
        ·subst c12
         rw [if_pos rfl] at H
         by_cases c13 : x3_1 < t242
         ·rw [if_pos c13] at H
          have c13b0 := decide_eq_true c13
          clear c13
          obtain rfl := Option.some.inj H
          have p240 : 0 ≤ (x13_1 : Int) := Sh.od
          have q240 : x13_1 < (l0.length : Int) := Sh.od
          obtain ⟨ad240, e240, hx240_0, hx240_1⟩ := at_T35 HR0.out x13_1 p240 q240
          cases e240
          try replace hx240_0 := Sh.cw hx240_0
          try replace hx240_1 := Sh.cw hx240_1
          replace p240 := eq_true p240
          replace q240 := eq_true q240
          go_wp2_with (first | ((with_reducible refine Sh.d 5 ?_); refine Sh.bz w (N := 5) (cs := #[.int .i64 0, .int .i64 0]) (t := 35) (h := ?_); clear HB; intro gb241 w14 BK241 GE241 HB; obtain ⟨hcz15_0, hcz15_1, hfz15_0, hfz15_1⟩ := Sh.b2 BK241.out) | ((with_reducible refine Sh.k 25 ?_); refine Sh.gD (some 19) Try.func25 #[.int .i64 ((rd_T35 l0 x13_1).f0)] (spec_l10Need.calls k1 ((rd_T35 l0 x13_1).f0) t242 _ A7.out) fun nd => ?_) | (go_at_call 26; (with_reducible refine (spec_l10N.calls ((rd_T35 l0 x13_1).f0) ((rd_T35 l0 x13_1).f1) true _ A11.out).mono ?_); rintro e w16 ⟨rfl, hb⟩; replace BK241 := am_ (blk_below (g := gb241) (o := .cells #[.int .i64 ((rd_T35 l0 x13_1).f0), .int .i64 ((rd_T35 l0 x13_1).f1)] 35 (0, 0)) (by refine Sh.pl ?_; refine blk_put (cs := #[.int .i64 ((rd_T35 l0 x13_1).f0), .int .i64 0]) ?_ 1 _ rfl; refine Sh.pl ?_; refine blk_put (cs := #[.int .i64 0, .int .i64 0]) ?_ 0 _ rfl; refine Sh.pl ?_; exact BK241.out) hb); replace HB := Sh.hb hb; (try clear hb); (try clear hb2); (try clear hk); (try clear hi)))
          go_ret
          exact ⟨Sh.eR, Sh.bw⟩
         ·rw [if_neg c13] at H
          have c13b0 := decide_eq_false c13
          clear c13
          have H' := am_ H
          clear H
          have p240 : 0 ≤ (x13_1 : Int) := Sh.od
          have q240 : x13_1 < (l0.length : Int) := Sh.od
          obtain ⟨ad240, e240, hx240_0, hx240_1⟩ := at_T35 HR0.out x13_1 p240 q240
          cases e240
          try replace hx240_0 := Sh.cw hx240_0
          try replace hx240_1 := Sh.cw hx240_1
          replace p240 := eq_true p240
          replace q240 := eq_true q240
          go_wp2_with (first | ((with_reducible refine Sh.d 5 ?_); refine Sh.bz w (N := 5) (cs := #[.int .i64 0, .int .i64 0]) (t := 35) (h := ?_); clear HB; intro gb241 w17 BK241 GE241 HB; obtain ⟨hcz18_0, hcz18_1, hfz18_0, hfz18_1⟩ := Sh.b2 BK241.out) | ((with_reducible refine Sh.k 25 ?_); refine Sh.gD (some 19) Try.func25 #[.int .i64 ((rd_T35 l0 x13_1).f0)] (spec_l10Need.calls k1 ((rd_T35 l0 x13_1).f0) t242 _ A7.out) fun nd => ?_) | (go_at_call 26; (with_reducible refine (spec_l10N.calls ((rd_T35 l0 x13_1).f0) ((rd_T35 l0 x13_1).f1) true _ A11.out).mono ?_); rintro e w19 ⟨rfl, hb⟩; replace BK241 := am_ (blk_below (g := gb241) (o := .cells #[.int .i64 ((rd_T35 l0 x13_1).f0), .int .i64 ((rd_T35 l0 x13_1).f1)] 35 (0, 0)) (by refine Sh.pl ?_; refine blk_put (cs := #[.int .i64 ((rd_T35 l0 x13_1).f0), .int .i64 0]) ?_ 1 _ rfl; refine Sh.pl ?_; refine blk_put (cs := #[.int .i64 0, .int .i64 0]) ?_ 0 _ rfl; refine Sh.pl ?_; exact BK241.out) hb); replace HB := Sh.hb hb; (try clear hb); (try clear hb2); (try clear hk); (try clear hi)))
          go_roundg k1
          case measure => have := HK1.out; omega
          case rel => exact ⟨(wrap64 (x3_1 + (wrap64 (1 - t242)))), (wrap64 (x13_1 + 1)), (Sh.es), (Sh.es), H', ⟨by have := HK1.out; omega⟩, ⟨Sh.bw⟩⟩
        ·replace c12 := Bool.eq_false_iff.mpr c12
         subst c12
         rw [Sh.nf] at H
         obtain rfl := Option.some.inj H
         have p240 : 0 ≤ (x13_1 : Int) := Sh.od
         have q240 : x13_1 < (l0.length : Int) := Sh.od
         obtain ⟨ad240, e240, hx240_0, hx240_1⟩ := at_T35 HR0.out x13_1 p240 q240
         cases e240
         try replace hx240_0 := Sh.cw hx240_0
         try replace hx240_1 := Sh.cw hx240_1
         replace p240 := eq_true p240
         replace q240 := eq_true q240
         go_wp2_with (first | ((with_reducible refine Sh.d 5 ?_); refine Sh.bz w (N := 5) (cs := #[.int .i64 0, .int .i64 0]) (t := 35) (h := ?_); clear HB; intro gb241 w20 BK241 GE241 HB; obtain ⟨hcz21_0, hcz21_1, hfz21_0, hfz21_1⟩ := Sh.b2 BK241.out) | ((with_reducible refine Sh.k 25 ?_); refine Sh.gD (some 19) Try.func25 #[.int .i64 ((rd_T35 l0 x13_1).f0)] (spec_l10Need.calls k1 ((rd_T35 l0 x13_1).f0) t242 _ A7.out) fun nd => ?_) | (go_at_call 26; (with_reducible refine (spec_l10N.calls ((rd_T35 l0 x13_1).f0) ((rd_T35 l0 x13_1).f1) false _ A11.out).mono ?_); rintro e w22 ⟨rfl, hb⟩; replace BK241 := am_ (blk_below (g := gb241) (o := .cells #[.int .i64 ((rd_T35 l0 x13_1).f0), .int .i64 ((rd_T35 l0 x13_1).f1)] 35 (0, 0)) (by refine Sh.pl ?_; refine blk_put (cs := #[.int .i64 ((rd_T35 l0 x13_1).f0), .int .i64 0]) ?_ 1 _ rfl; refine Sh.pl ?_; refine blk_put (cs := #[.int .i64 0, .int .i64 0]) ?_ 0 _ rfl; refine Sh.pl ?_; exact BK241.out) hb); replace HB := Sh.hb hb; (try clear hb); (try clear hb2); (try clear hk); (try clear hi)))
         go_ret
         exact ⟨Sh.eR, Sh.bw⟩
      ·rw [if_neg c6] at H
       exact absurd H (by simp)
     ·rw [if_neg c5] at H
      exact absurd H (by simp)
    ·rw [if_neg c4] at H
     have c4b0 := decide_eq_false c4
     clear c4
     obtain rfl := Option.some.inj H
     go_wp2
     go_ret
     exact ⟨Sh.eR, Sh.bw⟩
 ·replace c3 := Bool.eq_false_iff.mpr c3
  subst c3
  rw [Sh.nf] at H
  obtain rfl := Option.some.inj H
  go_enter Try.func15, Try.ntmps15
  go_wp2_with (first | ((with_reducible refine Sh.k 24 ?_); refine Sh.gD (some 9) Try.func24 #[.int .i64 (l0.length : Int), .int .i64 1, .int .i64 16] (spec_l1In.calls (l0.length : Int) 1 16 false _ A2.out) fun nd => ?_))
  go_ret
  exact ⟨Sh.eR, Sh.bw⟩
def spec_l1Num.f : Nat → Int → Option (ByteArray)
 | 0, _ => none
 | k + 1, a0 => if a0 < 10 then (some (strOfNums (([(IntKind.u64.wrap (48 + a0)) % 256] : List Int)))) else ((spec_l1Num.f k (IntKind.u64.wrap (Int.tdiv a0 10))).bind fun t247 => ((some (([(IntKind.u64.wrap (48 + (Int.tmod a0 10))) % 256] : List Int) : List Int)).bind fun y248 => (if t247.size + (strOfNums y248).size ≤ 9223372036854775807 then (some (t247 ++ (strOfNums y248))) else (none))))
theorem spec_l1Num.mono_l : ∀ k, (∀ y0, LeO (spec_l1Num.f k y0) (spec_l1Num.f (k + 1) y0))
 | 0 => fun _ r h => by simp [spec_l1Num.f] at h
 | k + 1 => by
  have ih0 := spec_l1Num.mono_l k
  ·intro y0
   unfold spec_l1Num.f
   repeat' with_reducible first | apply ih0 | exact LeO.refl _ | exact LeO.none _ | apply LeO.ite | refine LeO.bind ?_ fun _ => ?_
theorem spec_l1Num.mono : ∀ a0 k, LeO (spec_l1Num.f k a0) (spec_l1Num.f (k + 1) a0) := by
 intro a0 k
 have ih0 := spec_l1Num.mono_l k
 exact ih0 a0
def spec_l1Num.T3 : Bool × List (List Nat × List Nat) := (true, [([], []), ([0], [0]), ([1], [1]), ([], []), ([3], [3]), ([4], [4]), ([5], [5]), ([6], [6]), ([7], [7]), ([2, 8], [2, 8]), ([9, 2, 0, 1, 2, 3, 4, 5, 6, 7, 8, 9], [9])])
def spec_l1Num.B3 : List Nat := [0, 1, 3, 0, 8, 24, 56, 120, 248, 511, 1023]
theorem spec_l1Num.tab3 : rtab .any (opsOf Try.f27 3) = spec_l1Num.T3 := by kernel_rfl
theorem spec_l1Num.bits3 : waitsOk spec_l1Num.T3.2 spec_l1Num.B3 = true := by kernel_rfl
theorem spec_l1Num.calls (k : Nat) : ∀ (a0 : Int) (r : ByteArray) (w : World) (h : spec_l1Num.f k a0 = some r),
  Calls Try.prog 27 #[.int .u64 a0] w fun e w' => e = .returned (.string r) ∧ Below w.heap.size w w' := by
 induction k using Nat.strongRecOn with
 | _ k ih =>
 intro a0 r w h
 cases k with
 | zero => exact absurd h (by simp [spec_l1Num.f])
 | succ k =>
 simp only [spec_l1Num.f] at h
 have HB := am_ (Below.refl w.heap.size w)
 have H : (if a0 < 10 then (some (strOfNums (([(IntKind.u64.wrap (48 + a0)) % 256] : List Int)))) else ((spec_l1Num.f k (IntKind.u64.wrap (Int.tdiv a0 10))).bind fun t247 => ((some (([(IntKind.u64.wrap (48 + (Int.tmod a0 10))) % 256] : List Int) : List Int)).bind fun y248 => (if t247.size + (strOfNums y248).size ≤ 9223372036854775807 then (some (t247 ++ (strOfNums y248))) else (none))))) = some r := h
 clear h
 by_cases c2 : a0 < 10
 ·rw [if_pos c2] at H
  have c2b0 := decide_eq_true c2
  clear c2
  obtain ⟨y244, hy244⟩ : ∃ y_ : List Int, y_ = (([(IntKind.u64.wrap (48 + a0)) % 256] : List Int)) := ⟨_, rfl⟩
  replace H : (some (strOfNums y244)) = some r := by first | (rw [hy244]; with_reducible exact H) | (have H2_ := (Option.bind_some _ _).symm.trans H; rw [hy244]; with_reducible exact H2_) | (have H2_ := (Option.bind_some _ _).symm.trans H; with_reducible exact H2_) | with_reducible exact H | (rw [hy244]; exact H) | exact H
  have Ny244 := am_ hy244
  clear hy244
  obtain rfl := Option.some.inj H
  go_enter Try.func27, Try.ntmps27
  go_wp2_with (first | ((with_reducible refine Sh.d 8 ?_); refine Kd.R_lit (Kd.int .u8) _ 5 ?hg (N := 8) ?hd (xs := ([(IntKind.u64.wrap (48 + a0)) % 256] : List Int)) (inner := [.int .u8 ((IntKind.u64.wrap (48 + a0)) % 256)]) (ok := fun _ => True) (okp := fun _ => True) ?hr ?hp (fun _ hk => hk) trivial (Below.refl _ _) (Nat.le_refl _) (by simp) ?_; (case hd => rfl); (case hg => rfl); (case hr => first | (go_simp; done) | (go_simp; rfl)); (case hp => exact (Reps.one (show Kd.M (Kd.int .u8) _ _ _ ((IntKind.u64.wrap (48 + a0)) % 256) [.int .u8 ((IntKind.u64.wrap (48 + a0)) % 256)] from rfl) (Reps.none _ _))); intro v245 w3 ho4 hb hg_ hnew_; clear hg_ hnew_; (first | rw [← Ny244.out] at ho4 | (simp only [Int.reduceToNat] at ho4; rw [← Ny244.out] at ho4)); have HO246 := am_ (Kd.R_lower ho4 (below_size Sh.bw)); replace HB := Sh.hb hb; clear hb ho4; have hcv5 := own_string (P := Try.prog) Try.underlying22 Try.underlying5 Try.underlying9 (Kd.own_of_R HO246.out)))
  go_ret
  exact ⟨Sh.eR, Sh.bw⟩
 ·rw [if_neg c2] at H
  have c2b0 := decide_eq_false c2
  clear c2
  obtain ⟨t247, A6, H⟩ := Sh.ba H
  obtain ⟨y248, hy248⟩ : ∃ y_ : List Int, y_ = (([(IntKind.u64.wrap (48 + (Int.tmod a0 10))) % 256] : List Int)) := ⟨_, rfl⟩
  replace H : (if t247.size + (strOfNums y248).size ≤ 9223372036854775807 then (some (t247 ++ (strOfNums y248))) else (none)) = some r := by first | (rw [hy248]; with_reducible exact H) | (have H2_ := (Option.bind_some _ _).symm.trans H; rw [hy248]; with_reducible exact H2_) | (have H2_ := (Option.bind_some _ _).symm.trans H; with_reducible exact H2_) | with_reducible exact H | (rw [hy248]; exact H) | exact H
  have Ny248 := am_ hy248
  clear hy248
  by_cases c7 : t247.size + (strOfNums y248).size ≤ 9223372036854775807
  ·rw [if_pos c7] at H
   have c7b0 := eq_true c7
   have c7b1 := decide_eq_true c7
   try have c7b2 : (9223372036854775807 < t247.size + (strOfNums y248).size) = False := eq_false (Nat.not_lt.2 c7)
   obtain rfl := Option.some.inj H
   go_enter Try.func27, Try.ntmps27
   try go_wp2
   replace HB := am_ (below_drew1 HB.out)
   refine start_ (n := 11) (S := fun w' => True) (ds := []) (Sh.nm 11 0) (by kernel_rfl) rfl rfl trivial (fun hHeld => ?_); refine with_tabW spec_l1Num.tab3 spec_l1Num.bits3 (fun HT_ HW_ => ?_)
   generalize w.drew = w8 at HB hHeld ⊢
   refine Sh.qA 0 ?_; refine Sh.qA 1 ?_; refine Sh.qA 3 ?_; refine Sh.qA 4 ?_; refine Sh.qA 5 ?_; refine Sh.qA 6 ?_
   refine join_ (σ := Value) 2 (Sh.nm 11 511) (fun s_ => [(12, .string t247), (17, s_), (18, .string (strOfNums y248))]) (fun s_ w' => (Kd.R (Kd.int .u8) 5 w' w.heap.size (fun _ => True) s_ y248) ∧ (Below w.heap.size w w')) ?_ ?_
   rotate_left
   ·intro hCont
    refine two_ (i := 2) (j := 7) (Ni := some 12) (Nj := some 17) (Sh.nm 11 127) (Sh.nm 11 251) rfl rfl rfl rfl (two_of HT_.out (by kernel_rfl)) (by decide) (by decide) (fun K hK => ?_) (fun K hK => ?_)
    ·skip
     refine goes_ Try.func27 (by kernel_rfl) rfl #[.int .u64 (IntKind.u64.wrap (Int.tdiv a0 10))] (by rfl) rfl rfl (by (try simp only [List.map_toArray, List.map_cons, List.map_nil]); first | done | rfl | (simp only [List.length_drop, List.length_take]; rfl)) ?_
     with_reducible refine (ih k (by omega) (IntKind.u64.wrap (Int.tdiv a0 10)) t247 _ A6.out).mono ?_
     rintro e w9 ⟨rfl, hb⟩
     refine ⟨_, rfl, ?_⟩
     replace HB := Sh.hb hb
     (try clear hb)
     (try clear hb2)
     (try clear hk)
     (try clear hi)
     refine hK.out _ _ trivial (fun hHeld => ?_)
     clear hK K
     refine norm_ (a' := ?_) ?_ ?_
     rotate_left
     ·show Act.put _ (some 12) _ = _
      simp only [Act.put, List.setIfInBounds_toArray, List.set_cons_zero, List.set_cons_succ, i64_w, i32_w]
      rfl
     refine one_ (i := 7) (N := some 17) (Sh.nm 11 255) rfl rfl (one_of HT_.out (by kernel_rfl)) (by decide) (fun K hK => ?_)
     refine Kd.R_lit_step (Kd.int .u8) _ 5 ?hg (N := 17) ?hd (xs := ([(IntKind.u64.wrap (48 + (Int.tmod a0 10))) % 256] : List Int)) (inner := [.int .u8 ((IntKind.u64.wrap (48 + (Int.tmod a0 10))) % 256)]) (ok := fun _ => True) (okp := fun _ => True) ?hr ?hp (fun _ hk => hk) trivial (Below.refl _ _) (Nat.le_refl _) (by simp) ?_; (case hd => rfl); (case hg => rfl); (case hr => first | (go_simp; done) | (go_simp; rfl)); (case hp => exact (Reps.one (show Kd.M (Kd.int .u8) _ _ _ ((IntKind.u64.wrap (48 + (Int.tmod a0 10))) % 256) [.int .u8 ((IntKind.u64.wrap (48 + (Int.tmod a0 10))) % 256)] from rfl) (Reps.none _ _)))
     intro v249 w10 ho11 hb hg_ hnew_
     clear hg_ hnew_
     (first | rw [← Ny248.out] at ho11 | (simp only [Int.reduceToNat] at ho11; rw [← Ny248.out] at ho11))
     have HO250 := am_ (Kd.R_lower ho11 (below_size Sh.bw))
     replace HB := Sh.hb hb
     clear hb ho11
     refine hK.out _ _ trivial (fun hHeld => ?_)
     clear hK K
     refine norm_ (a' := ?_) ?_ ?_
     rotate_left
     ·show Act.put _ (some 17) _ = _
      simp only [Act.put, List.setIfInBounds_toArray, List.set_cons_zero, List.set_cons_succ, i64_w, i32_w]
      rfl
     refine one_ (i := 8) (N := some 18) (Sh.nm 11 511) rfl rfl (one_of HT_.out (by kernel_rfl)) (by decide) (fun K hK => ?_)
     have hcv12 := own_string (P := Try.prog) Try.underlying22 Try.underlying5 Try.underlying9 (Kd.own_of_R HO250.out)
     refine value_ (w1 := ?_) (v := ?_) (by rfl) rfl ?_ ?_
     rotate_left 2
     ·go_simp
      constructor
      ·rfl
      ·rfl
     clear hcv12
     refine hK.out _ _ trivial (fun hHeld => ?_)
     clear hK K
     refine norm_ (a' := ?_) ?_ ?_
     rotate_left
     ·show Act.put _ (some 18) _ = _
      simp only [Act.put, List.setIfInBounds_toArray, List.set_cons_zero, List.set_cons_succ, i64_w, i32_w]
      rfl
     exact norm_ (by simp only [putAll, Act.put, List.setIfInBounds_toArray, List.set_cons_zero, List.set_cons_succ]) (hCont (v249) _ ⟨(Sh.rl HO250.out), Sh.bw⟩)
    ·skip
     refine Kd.R_lit_step (Kd.int .u8) _ 5 ?hg (N := 17) ?hd (xs := ([(IntKind.u64.wrap (48 + (Int.tmod a0 10))) % 256] : List Int)) (inner := [.int .u8 ((IntKind.u64.wrap (48 + (Int.tmod a0 10))) % 256)]) (ok := fun _ => True) (okp := fun _ => True) ?hr ?hp (fun _ hk => hk) trivial (Below.refl _ _) (Nat.le_refl _) (by simp) ?_; (case hd => rfl); (case hg => rfl); (case hr => first | (go_simp; done) | (go_simp; rfl)); (case hp => exact (Reps.one (show Kd.M (Kd.int .u8) _ _ _ ((IntKind.u64.wrap (48 + (Int.tmod a0 10))) % 256) [.int .u8 ((IntKind.u64.wrap (48 + (Int.tmod a0 10))) % 256)] from rfl) (Reps.none _ _)))
     intro v249 w9 ho10 hb hg_ hnew_
     clear hg_ hnew_
     (first | rw [← Ny248.out] at ho10 | (simp only [Int.reduceToNat] at ho10; rw [← Ny248.out] at ho10))
     have HO250 := am_ (Kd.R_lower ho10 (below_size Sh.bw))
     replace HB := Sh.hb hb
     clear hb ho10
     refine hK.out _ _ trivial (fun hHeld => ?_)
     clear hK K
     refine norm_ (a' := ?_) ?_ ?_
     rotate_left
     ·show Act.put _ (some 17) _ = _
      simp only [Act.put, List.setIfInBounds_toArray, List.set_cons_zero, List.set_cons_succ, i64_w, i32_w]
      rfl
     refine two_ (i := 2) (j := 8) (Ni := some 12) (Nj := some 18) (Sh.nm 11 255) (Sh.nm 11 507) rfl rfl rfl rfl (two_of HT_.out (by kernel_rfl)) (by decide) (by decide) (fun K hK => ?_) (fun K hK => ?_)
     ·skip
      refine goes_ Try.func27 (by kernel_rfl) rfl #[.int .u64 (IntKind.u64.wrap (Int.tdiv a0 10))] (by rfl) rfl rfl (by (try simp only [List.map_toArray, List.map_cons, List.map_nil]); first | done | rfl | (simp only [List.length_drop, List.length_take]; rfl)) ?_
      with_reducible refine (ih k (by omega) (IntKind.u64.wrap (Int.tdiv a0 10)) t247 _ A6.out).mono ?_
      rintro e w11 ⟨rfl, hb⟩
      refine ⟨_, rfl, ?_⟩
      replace HO250 := am_ (Kd.R_below (Sh.rl HO250.out) hb)
      replace HB := Sh.hb hb
      (try clear hb)
      (try clear hb2)
      (try clear hk)
      (try clear hi)
      refine hK.out _ _ trivial (fun hHeld => ?_)
      clear hK K
      refine norm_ (a' := ?_) ?_ ?_
      rotate_left
      ·show Act.put _ (some 12) _ = _
       simp only [Act.put, List.setIfInBounds_toArray, List.set_cons_zero, List.set_cons_succ, i64_w, i32_w]
       rfl
      refine one_ (i := 8) (N := some 18) (Sh.nm 11 511) rfl rfl (one_of HT_.out (by kernel_rfl)) (by decide) (fun K hK => ?_)
      have hcv12 := own_string (P := Try.prog) Try.underlying22 Try.underlying5 Try.underlying9 (Kd.own_of_R HO250.out)
      refine value_ (w1 := ?_) (v := ?_) (by rfl) rfl ?_ ?_
      rotate_left 2
      ·go_simp
       constructor
       ·rfl
       ·rfl
      clear hcv12
      refine hK.out _ _ trivial (fun hHeld => ?_)
      clear hK K
      refine norm_ (a' := ?_) ?_ ?_
      rotate_left
      ·show Act.put _ (some 18) _ = _
       simp only [Act.put, List.setIfInBounds_toArray, List.set_cons_zero, List.set_cons_succ, i64_w, i32_w]
       rfl
      exact norm_ (by simp only [putAll, Act.put, List.setIfInBounds_toArray, List.set_cons_zero, List.set_cons_succ]) (hCont (v249) _ ⟨(Sh.rl HO250.out), Sh.bw⟩)
     ·skip
      have hcv11 := own_string (P := Try.prog) Try.underlying22 Try.underlying5 Try.underlying9 (Kd.own_of_R HO250.out)
      refine value_ (w1 := ?_) (v := ?_) (by rfl) rfl ?_ ?_
      rotate_left 2
      ·go_simp
       constructor
       ·rfl
       ·rfl
      clear hcv11
      refine hK.out _ _ trivial (fun hHeld => ?_)
      clear hK K
      refine norm_ (a' := ?_) ?_ ?_
      rotate_left
      ·show Act.put _ (some 18) _ = _
       simp only [Act.put, List.setIfInBounds_toArray, List.set_cons_zero, List.set_cons_succ, i64_w, i32_w]
       rfl
      refine Sh.oC 2 Try.func27 #[.int .u64 (IntKind.u64.wrap (Int.tdiv a0 10))] fun K hK => ?_
      with_reducible refine (ih k (by omega) (IntKind.u64.wrap (Int.tdiv a0 10)) t247 _ A6.out).mono ?_
      rintro e w12 ⟨rfl, hb⟩
      refine ⟨_, rfl, ?_⟩
      replace HO250 := am_ (Kd.R_below (Sh.rl HO250.out) hb)
      replace HB := Sh.hb hb
      (try clear hb)
      (try clear hb2)
      (try clear hk)
      (try clear hi)
      refine hK.out _ _ trivial (fun hHeld => ?_)
      clear hK K
      refine norm_ (a' := ?_) ?_ ?_
      rotate_left
      ·show Act.put _ (some 12) _ = _
       simp only [Act.put, List.setIfInBounds_toArray, List.set_cons_zero, List.set_cons_succ, i64_w, i32_w]
       rfl
      exact norm_ (by simp only [putAll, Act.put, List.setIfInBounds_toArray, List.set_cons_zero, List.set_cons_succ]) (hCont (v249) _ ⟨(Sh.rl HO250.out), Sh.bw⟩)
   rintro v249 w13 ⟨h0_, h1_⟩
   have n0_ : Aside0 (Kd.R (Kd.int .u8) 5 w13 w.heap.size (fun _ => True) v249 y248) := ⟨h0_⟩
   have n1_ : Aside0 (Below w.heap.size w w13) := ⟨h1_⟩
   clear HB
   clear h0_ h1_
   have HO250 := n0_
   have HB := n1_
   clear n0_ n1_
   have hHeld := trivial
   refine norm_ (a' := ?_) ?_ ?_
   rotate_left
   ·simp only [putAll, Act.put, List.setIfInBounds_toArray, List.set_cons_zero, List.set_cons_succ]
    rfl
   refine Sh.qA 9 ?_; refine Sh.qA 10 ?_
   refine done_ (done_of HT_.out (by kernel_rfl)) ?_
   try go_wp2
   go_ret
   exact ⟨Sh.eR, Sh.bw⟩
  ·rw [if_neg c7] at H
   exact absurd H (by simp)
end Go.Proofs.Ytjpjijihehlnkaa.P
