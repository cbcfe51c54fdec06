/- Go functions of this seat as Lean functions, and the proofs that the calls come to what these say; printed by a program of this session. No condition. -/
import Derived.Test.YtaacldndbjmekaaP0
import Derived.Test.YtaacldndbjmekaaP99
import Derived.Test.YtaacldndbjmekaaP100
namespace Go.Proofs.Ytaacldndbjmekaa.P
open Go.RowKit Go.Proofs.YtaacldndbjmekaaW.PrintWords Go.Proofs.YtaacldndbjmekaaW.PrintLast Go.Proofs.YtaacldndbjmekaaW.PrintMore Go.Proofs.Ytaacldndbjmekaa.Hof
attribute [local go_sem] max2_int min2_int max_two min_two max_three min_three max_four min_four   -- for this text's walks alone
set_option linter.unusedVariables false
set_option linter.unusedSimpArgs false

/-! ### impl_pushNot: function 63 -/
mutual
def impl_pushNot.j2 : Nat → Bool → List (List (S59)) → Int → Int → Option ((List (S59)))
 | 0, _, _, _, _ => none
 | k + 1, x1, x6, x689000, x689001 => impl_pushNot.l0 k x1 (([] : List (S59))) x6 (x6.length : Int) 0 x689000 x689001
def impl_pushNot.l0 : Nat → Bool → List (S59) → List (List (S59)) → Int → Int → Int → Int → Option ((List (S59)))
 | 0, _, _, _, _, _, _, _ => none
 | k + 1, x1, x7, x57, x58, x59, x689000, x689001 => if x59 < x58 then (if 0 ≤ x59 then (if x59 < (x57.length : Int) then ((impl_pushNot.f k (rd_L5 x57 x59) x1).bind fun t704 => (if x7.length + t704.length < 8796093022208 then (impl_pushNot.l0 k x1 (x7 ++ t704) x57 x58 (wrap64 (x59 + 1)) x689000 x689001) else (none))) else (none)) else (none)) else (if x7.length < 8796093022208 then (some (x7 ++ [(⟨x689000, x689001⟩ : S59)])) else (none))
def impl_pushNot.j0 : Nat → Bool → List (List (S59)) → Bool → Int → Int → Option ((List (S59)))
 | 0, _, _, _, _, _ => none
 | k + 1, x1, x6, x28, x689000, x689001 => if x28 = true then (some (([(⟨x689000, x689001⟩ : S59), (⟨3, 0⟩ : S59)] : List (S59)))) else (if x689000 = 2 then (impl_pushNot.j1 k x1 x6 x1 x689000 x689001) else (impl_pushNot.j1 k x1 x6 false x689000 x689001))
def impl_pushNot.j1 : Nat → Bool → List (List (S59)) → Bool → Int → Int → Option ((List (S59)))
 | 0, _, _, _, _, _ => none
 | k + 1, x1, x6, x38, x689000, x689001 => if x38 = true then (some (([(⟨2, wrap64 (1 - x689001)⟩ : S59)] : List (S59)))) else (if x1 = true then ((impl_opposite.f x689000).bind fun t699 => (impl_pushNot.j2 k x1 x6 t699 x689001)) else (impl_pushNot.j2 k x1 x6 x689000 x689001))
def impl_pushNot.f : Nat → List (S59) → Bool → Option ((List (S59)))
 | 0, _, _ => none
 | k + 1, l0, a1 => if 0 ≤ (wrap64 ((l0.length : Int) - 1)) then (if (wrap64 ((l0.length : Int) - 1)) < (l0.length : Int) then ((impl_partsOf.f k l0).bind fun t685 => (if ((rd_T59 l0 (wrap64 ((l0.length : Int) - 1))).f0) = 3 then (if 0 < (t685.length : Int) then ((impl_pushNot.f k (rd_L5 t685 0) (!a1)).bind fun t690 => (some t690)) else (none)) else (if ((rd_T59 l0 (wrap64 ((l0.length : Int) - 1))).f0) = 1 then (impl_pushNot.j0 k a1 t685 a1 ((rd_T59 l0 (wrap64 ((l0.length : Int) - 1))).f0) ((rd_T59 l0 (wrap64 ((l0.length : Int) - 1))).f1)) else (impl_pushNot.j0 k a1 t685 false ((rd_T59 l0 (wrap64 ((l0.length : Int) - 1))).f0) ((rd_T59 l0 (wrap64 ((l0.length : Int) - 1))).f1))))) else (none)) else (none)
end
theorem impl_pushNot.mono_l : ∀ k, (∀ y0 y1, LeO (impl_pushNot.f k y0 y1) (impl_pushNot.f (k + 1) y0 y1)) ∧ (∀ y0 y1 y2 y3, LeO (impl_pushNot.j2 k y0 y1 y2 y3) (impl_pushNot.j2 (k + 1) y0 y1 y2 y3)) ∧ (∀ y0 y1 y2 y3 y4 y5 y6, LeO (impl_pushNot.l0 k y0 y1 y2 y3 y4 y5 y6) (impl_pushNot.l0 (k + 1) y0 y1 y2 y3 y4 y5 y6)) ∧ (∀ y0 y1 y2 y3 y4, LeO (impl_pushNot.j0 k y0 y1 y2 y3 y4) (impl_pushNot.j0 (k + 1) y0 y1 y2 y3 y4)) ∧ (∀ y0 y1 y2 y3 y4, LeO (impl_pushNot.j1 k y0 y1 y2 y3 y4) (impl_pushNot.j1 (k + 1) y0 y1 y2 y3 y4))
 | 0 => ⟨fun _ _ r h => by simp [impl_pushNot.f] at h, fun _ _ _ _ r h => by simp [impl_pushNot.j2] at h, fun _ _ _ _ _ _ _ r h => by simp [impl_pushNot.l0] at h, fun _ _ _ _ _ r h => by simp [impl_pushNot.j0] at h, fun _ _ _ _ _ r h => by simp [impl_pushNot.j1] at h⟩
 | k + 1 => by
  obtain ⟨ih0, ih1, ih2, ih3, ih4⟩ := impl_pushNot.mono_l k
  and_intros <;> intros
  all_goals (first | unfold impl_pushNot.f | unfold impl_pushNot.j2 | unfold impl_pushNot.l0 | unfold impl_pushNot.j0 | unfold impl_pushNot.j1)
  all_goals repeat' with_reducible first | apply ih0 | apply ih1 | apply ih2 | apply ih3 | apply ih4 | apply impl_partsOf.mono | exact LeO.refl _ | exact LeO.none _ | apply LeO.ite | refine LeO.bind ?_ fun _ => ?_
theorem impl_pushNot.mono : ∀ a0 a1 k, LeO (impl_pushNot.f k a0 a1) (impl_pushNot.f (k + 1) a0 a1) := by
 intro a0 a1 k
 obtain ⟨ih0, ih1, ih2, ih3, ih4⟩ := impl_pushNot.mono_l k
 exact ih0 a0 a1
def impl_pushNot.T1 : Bool × List (List Nat × List Nat) := (true, [([], []), ([], []), ([1], [1]), ([2], [2]), ([0, 3], [0, 3]), ([4], [4]), ([], []), ([6], [6]), ([], []), ([8, 5, 7, 0, 1, 2, 3, 4, 5, 8], [5, 8]), ([7, 9, 0, 1, 2, 3, 4, 5, 6, 7, 8, 9], [7])])
def impl_pushNot.B1 : List Nat := [0, 0, 2, 6, 15, 31, 0, 64, 0, 511, 1023]
theorem impl_pushNot.tab1 : rtab .any (opsOf Try.f63 1) = impl_pushNot.T1 := by kernel_rfl
theorem impl_pushNot.bits1 : waitsOk impl_pushNot.T1.2 impl_pushNot.B1 = true := by kernel_rfl
set_option maxHeartbeats 8000000 in
set_option maxRecDepth 100000 in
theorem impl_pushNot.calls (k : Nat) : ∀ (A0 : Option Addr) (c0 : Nat) (l0 : List (S59)) (a1 : Bool) (r : List (S59)) (w : World) (hr0 : Kd.C k59 w A0 l0.length l0) (hc0 : l0.length ≤ c0) (h : impl_pushNot.f k l0 a1 = some r),
  Calls Try.prog 63 #[.slice A0 l0.length c0, .bool a1] w fun e w' => ∃ v0_ : Value, e = .returned (v0_) ∧ Kd.R k59 59 w' w.heap.size (fun _ => True) v0_ r ∧ Below w.heap.size w w' := by
 induction k using Nat.strongRecOn with
 | _ k ih =>
 intro A0 c0 l0 a1 r w hr0 hc0 h
 cases k with
 | zero => exact absurd h (by simp [impl_pushNot.f])
 | succ k =>
 simp only [impl_pushNot.f] at h
 have hu59 := Try.underlying59
 have HR0 := am_ hr0
 have HC0 := am_ hc0
 clear hr0 hc0
 have HB := am_ (Below.refl w.heap.size w)
 have H : (if 0 ≤ (wrap64 ((l0.length : Int) - 1)) then (if (wrap64 ((l0.length : Int) - 1)) < (l0.length : Int) then ((impl_partsOf.f k l0).bind fun t685 => (if ((rd_T59 l0 (wrap64 ((l0.length : Int) - 1))).f0) = 3 then (if 0 < (t685.length : Int) then ((impl_pushNot.f k (rd_L5 t685 0) (!a1)).bind fun t690 => (some t690)) else (none)) else (if ((rd_T59 l0 (wrap64 ((l0.length : Int) - 1))).f0) = 1 then (impl_pushNot.j0 k a1 t685 a1 ((rd_T59 l0 (wrap64 ((l0.length : Int) - 1))).f0) ((rd_T59 l0 (wrap64 ((l0.length : Int) - 1))).f1)) else (impl_pushNot.j0 k a1 t685 false ((rd_T59 l0 (wrap64 ((l0.length : Int) - 1))).f0) ((rd_T59 l0 (wrap64 ((l0.length : Int) - 1))).f1))))) else (none)) else (none)) = some r := h
 clear h
 obtain ⟨ji3, hj1⟩ : ∃ j_ : Int, (wrap64 ((l0.length : Int) - 1)) = j_ := ⟨_, rfl⟩
 replace H : (if 0 ≤ (ji3) then (if (ji3) < (l0.length : Int) then ((impl_partsOf.f k l0).bind fun t685 => (if ((rd_T59 l0 (ji3)).f0) = 3 then (if 0 < (t685.length : Int) then ((impl_pushNot.f k (rd_L5 t685 0) (!a1)).bind fun t690 => (some t690)) else (none)) else (if ((rd_T59 l0 (ji3)).f0) = 1 then (impl_pushNot.j0 k a1 t685 a1 ((rd_T59 l0 (ji3)).f0) ((rd_T59 l0 (ji3)).f1)) else (impl_pushNot.j0 k a1 t685 false ((rd_T59 l0 (ji3)).f0) ((rd_T59 l0 (ji3)).f1))))) else (none)) else (none)) = some r := by first | (rw [hj1] at H; exact H) | (simp only [hj1] at H ⊢; exact H)
 have hji3w : (IntKind.i64.wrap ((l0.length : Int) - 1)) = ji3 := (i64_w _).trans hj1
 by_cases c4 : 0 ≤ (ji3)
 ·rw [if_pos c4] at H
  have c4b0 := decide_eq_true c4
  clear c4
  by_cases c5 : (ji3) < (l0.length : Int)
  ·rw [if_pos c5] at H
   have c5b0 := decide_eq_true c5
   clear c5
   obtain ⟨t685, A6, H⟩ := Sh.ba H
   have HC7 := am_ H
   clear H
   go_enter Try.func63, Try.ntmps63
   try go_wp2
   replace HB := am_ (below_drew1 HB.out)
   have p684 : 0 ≤ ((ji3) : Int) := Sh.od
   have q684 : (ji3) < (l0.length : Int) := Sh.od
   obtain ⟨ad684, e684, hx684_0, hx684_1⟩ := at_T59 HR0.out (ji3) p684 q684
   have hw684_1 := hx684_1
   have hw684_0 := hx684_0
   cases e684
   try replace hx684_0 := Sh.cw hx684_0
   try replace hx684_1 := Sh.cw hx684_1
   replace p684 := eq_true p684
   replace q684 := eq_true q684
   refine start_ (n := 11) (S := fun w' => w'.cell? (ad684.add (((ji3)).toNat * 2)) = some (.int .i64 ((rd_T59 l0 (ji3)).f0)) ∧ w'.cell? ⟨(ad684.add (((ji3)).toNat * 2)).block, (ad684.add (((ji3)).toNat * 2)).off + 1, none⟩ = some (.int .i64 ((rd_T59 l0 (ji3)).f1))) (ds := []) (Sh.nm 11 0) (by kernel_rfl) rfl rfl Sh.cs (fun hHeld => ?_); refine with_tabW impl_pushNot.tab1 impl_pushNot.bits1 (fun HT_ HW_ => ?_)
   generalize w.drew = w8 at HB hx684_0 hx684_1 hHeld ⊢
   refine Sh.qA 0 ?_; refine Sh.qA 1 ?_; refine Sh.qA 2 ?_; refine Sh.qA 3 ?_; refine Sh.qA 4 ?_; refine Sh.qA 6 ?_; refine Sh.qT 5 hHeld ?_
   refine join_ (σ := Value × Nat) 2 (Sh.nm 11 511) (fun s_ => [(17, s_.1), (5, .pointer (some ⟨s_.2, 0, none⟩))]) (fun s_ w' => (w'.cell? (ad684.add (((ji3)).toNat * 2)) = some (.int .i64 ((rd_T59 l0 (ji3)).f0)) ∧ w'.cell? ⟨(ad684.add (((ji3)).toNat * 2)).block, (ad684.add (((ji3)).toNat * 2)).off + 1, none⟩ = some (.int .i64 ((rd_T59 l0 (ji3)).f1))) ∧ (Kd.N (Kd.slice 59 k59) 27 w' w.heap.size (fun k_ => k_ ≠ s_.2) s_.1 t685) ∧ (w'.heap[s_.2]? = some (.cells #[.int .i64 0, .int .i64 0] 59 (0, 0))) ∧ (w.heap.size ≤ s_.2) ∧ (w.heap.size ≤ s_.2) ∧ (Below w.heap.size w w')) ?_ ?_
   rotate_left
   ·intro hCont
    refine two_ (i := 7) (j := 8) (Ni := some 17) (Nj := some 5) (Sh.nm 11 255) (Sh.nm 11 383) rfl rfl rfl rfl (two_of HT_.out (by kernel_rfl)) (by decide) (by decide) (fun K hK => ?_) (fun K hK => ?_)
    ·skip
     refine goes_ Try.func84 (by kernel_rfl) rfl #[.slice (some ad684) l0.length c0] (by rfl) rfl rfl (by (try simp only [List.map_toArray, List.map_cons, List.map_nil]); first | done | rfl | (simp only [List.length_drop, List.length_take]; rfl)) ?_
     with_reducible refine (impl_partsOf.calls k (fun k_ => k_ < w.heap.size) _ _ l0 t685 _ ?side1 A6.out).mono ?_
     (case side1 => exact Kd.V_mk HC0.out (Kd.F_below (Kd.C_F k59_heap HR0.out) Sh.bw))
     rintro e w9 ⟨v686, rfl, ho0, hb⟩
     refine ⟨_, rfl, ?_⟩
     have HO687 := am_ (Kd.N_lower (Kd.N_mono (ok' := fun k_ => True) ho0 (fun k_ hk_ => trivial)) (below_size Sh.bw))
     replace HB := Sh.hb hb
     (try clear hb)
     (try clear hb2)
     (try clear hk)
     (try clear hi)
     (try clear ho0)
     refine Sh.kN hK Sh.cs fun hHeld => ?_
     clear hK K
     refine one_ (i := 8) (N := some 5) (Sh.nm 11 511) rfl rfl (one_of HT_.out (by kernel_rfl)) (by decide) (fun K hK => ?_)
     refine box_step ?hg (N := 5) ?hd (cs := #[.int .i64 0, .int .i64 0]) (t := 59) ?hr ?_; (case hd => rfl); (case hg => rfl); (case hr => first | (go_simp; done) | (go_simp; rfl))
     intro gb688 hg w10 hbox hb
     replace HO687 := am_ (Kd.N_below (Kd.N_elderB (by (with_reducible repeat (first | apply Kd.N_alloc | apply Kd.N_drewN | apply Kd.N_drew)); exact HO687.out) gb688 (Nat.le_of_eq hg.symm)) hb)
     have BK688 := am_ hbox
     have GW688 := Sh.ag w hg
     have GE688 := Sh.ag w hg
     replace HB := Sh.hb hb
     clear hb hbox hg
     refine Sh.kN hK Sh.cs fun hHeld => ?_
     clear hK K
     exact norm_ (by simp only [putAll, Act.put, List.setIfInBounds_toArray, List.set_cons_zero, List.set_cons_succ]) (hCont (v686, gb688) _ ⟨hHeld, (by (with_reducible repeat (first | apply Kd.N_alloc | apply Kd.N_drewN | apply Kd.N_drew)); exact Kd.N_mono HO687.out (fun _ hk => hk.2)), (Sh.pl BK688.out), GW688.out, GE688.out, Sh.bw⟩)
    ·skip
     refine box_step ?hg (N := 5) ?hd (cs := #[.int .i64 0, .int .i64 0]) (t := 59) ?hr ?_; (case hd => rfl); (case hg => rfl); (case hr => first | (go_simp; done) | (go_simp; rfl))
     intro gb688 hg w9 hbox hb
     have BK688 := am_ hbox
     have GW688 := Sh.ag w hg
     have GE688 := Sh.ag w hg
     replace HB := Sh.hb hb
     clear hb hbox hg
     refine Sh.kN hK Sh.cs fun hHeld => ?_
     clear hK K
     refine Sh.oC 7 Try.func84 #[.slice (some ad684) l0.length c0] fun K hK => ?_
     with_reducible refine (impl_partsOf.calls k (fun k_ => k_ < w.heap.size) _ _ l0 t685 _ ?side1 A6.out).mono ?_
     (case side1 => exact Kd.V_mk HC0.out (Kd.F_below (Kd.C_F k59_heap HR0.out) Sh.bw))
     rintro e w10 ⟨v686, rfl, ho0, hb⟩
     refine ⟨_, rfl, ?_⟩
     have HO687 := am_ (Kd.N_lower (Kd.N_mono (ok' := fun k_ => k_ ≠ gb688) ho0 (fun k_ hk_ => Or.elim hk_ (fun hs_ => fun e_ => Nat.not_le.2 hs_ (by rw [e_]; exact GW688.out)) (fun hn_ => (Kd.freshB (g := gb688) (o := .cells #[.int .i64 0, .int .i64 0] 59 (0, 0)) (Sh.pl BK688.out) k_ hn_)))) (below_size Sh.bw))
     replace BK688 := Sh.ab BK688 hb
     replace HB := Sh.hb hb
     (try clear hb)
     (try clear hb2)
     (try clear hk)
     (try clear hi)
     (try clear ho0)
     refine Sh.kN hK Sh.cs fun hHeld => ?_
     clear hK K
     exact norm_ (by simp only [putAll, Act.put, List.setIfInBounds_toArray, List.set_cons_zero, List.set_cons_succ]) (hCont (v686, gb688) _ ⟨hHeld, (by (with_reducible repeat (first | apply Kd.N_alloc | apply Kd.N_drewN | apply Kd.N_drew)); exact HO687.out), (Sh.pl BK688.out), GW688.out, GE688.out, Sh.bw⟩)
   rintro ⟨v686, gb688⟩ w11 ⟨hS_, h0_, h1_, h2_, h3_, h4_⟩
   have n0_ : Aside0 (Kd.N (Kd.slice 59 k59) 27 w11 w.heap.size (fun k_ => k_ ≠ gb688) v686 t685) := ⟨h0_⟩
   have n1_ : Aside0 (w11.heap[gb688]? = some (.cells #[.int .i64 0, .int .i64 0] 59 (0, 0))) := ⟨h1_⟩
   have n2_ : Aside0 (w.heap.size ≤ gb688) := ⟨h2_⟩
   have n3_ : Aside0 (w.heap.size ≤ gb688) := ⟨h3_⟩
   have n4_ : Aside0 (Below w.heap.size w w11) := ⟨h4_⟩
   clear HB
   clear h0_ h1_ h2_ h3_ h4_
   have HO687 := n0_
   have BK688 := n1_
   have GW688 := n2_
   have GE688 := n3_
   have HB := n4_
   clear n0_ n1_ n2_ n3_ n4_
   have hHeld : w11.cell? (ad684.add (((ji3)).toNat * 2)) = some (.int .i64 ((rd_T59 l0 (ji3)).f0)) ∧ w11.cell? ⟨(ad684.add (((ji3)).toNat * 2)).block, (ad684.add (((ji3)).toNat * 2)).off + 1, none⟩ = some (.int .i64 ((rd_T59 l0 (ji3)).f1)) := hS_
   refine norm_ (a' := ?_) ?_ ?_
   rotate_left
   ·simp only [putAll, Act.put, List.setIfInBounds_toArray, List.set_cons_zero, List.set_cons_succ]
    rfl
   refine one_ (i := 9) (N := none) (Sh.nm 11 1023) rfl rfl (one_of HT_.out (by kernel_rfl)) (by decide) (fun K hK => ?_)
   have hs12 : w11.cell? ⟨gb688, 0, none⟩ = some (.int .i64 0) := (blk_cell BK688.out 0).trans rfl
   have hfs12 := blk_frozen BK688.out 0
   have hs13 : w11.cell? ⟨gb688, 1, none⟩ = some (.int .i64 0) := (blk_cell BK688.out 1).trans rfl
   have hfs13 := blk_frozen BK688.out 1
   refine skip_ (w1 := ?_) (by rfl) rfl ?_ ?_
   rotate_left
   ·go_simp
    rfl
   refine hK.out _ _ ⟨((cell_far (p := ⟨gb688, _, none⟩) (by first | exact Nat.ne_of_lt (Nat.lt_of_lt_of_le (by have := World.block_lt_of_cell? _ _ hw684_0; first | rwa [add_block] at this | exact this) GW688.out) | (rw [add_block]; exact Nat.ne_of_lt (Nat.lt_of_lt_of_le (by have := World.block_lt_of_cell? _ _ hw684_0; first | rwa [add_block] at this | exact this) GW688.out)) | (show (Addr.add _ _).block ≠ _; rw [add_block]; exact Nat.ne_of_lt (Nat.lt_of_lt_of_le (by have := World.block_lt_of_cell? _ _ hw684_0; first | rwa [add_block] at this | exact this) GW688.out)) | (dsimp only; exact Nat.ne_of_lt (Nat.lt_of_lt_of_le (by have := World.block_lt_of_cell? _ _ hw684_0; first | rwa [add_block] at this | exact this) GW688.out))) _).trans (((cell_far (p := ⟨gb688, _, none⟩) (by first | exact Nat.ne_of_lt (Nat.lt_of_lt_of_le (by have := World.block_lt_of_cell? _ _ hw684_0; first | rwa [add_block] at this | exact this) GW688.out) | (rw [add_block]; exact Nat.ne_of_lt (Nat.lt_of_lt_of_le (by have := World.block_lt_of_cell? _ _ hw684_0; first | rwa [add_block] at this | exact this) GW688.out)) | (show (Addr.add _ _).block ≠ _; rw [add_block]; exact Nat.ne_of_lt (Nat.lt_of_lt_of_le (by have := World.block_lt_of_cell? _ _ hw684_0; first | rwa [add_block] at this | exact this) GW688.out)) | (dsimp only; exact Nat.ne_of_lt (Nat.lt_of_lt_of_le (by have := World.block_lt_of_cell? _ _ hw684_0; first | rwa [add_block] at this | exact this) GW688.out))) _).trans (hHeld.1)))), ((cell_far (p := ⟨gb688, _, none⟩) (by first | exact Nat.ne_of_lt (Nat.lt_of_lt_of_le (by have := World.block_lt_of_cell? _ _ hw684_1; first | rwa [add_block] at this | exact this) GW688.out) | (rw [add_block]; exact Nat.ne_of_lt (Nat.lt_of_lt_of_le (by have := World.block_lt_of_cell? _ _ hw684_1; first | rwa [add_block] at this | exact this) GW688.out)) | (show (Addr.add _ _).block ≠ _; rw [add_block]; exact Nat.ne_of_lt (Nat.lt_of_lt_of_le (by have := World.block_lt_of_cell? _ _ hw684_1; first | rwa [add_block] at this | exact this) GW688.out)) | (dsimp only; exact Nat.ne_of_lt (Nat.lt_of_lt_of_le (by have := World.block_lt_of_cell? _ _ hw684_1; first | rwa [add_block] at this | exact this) GW688.out))) _).trans (((cell_far (p := ⟨gb688, _, none⟩) (by first | exact Nat.ne_of_lt (Nat.lt_of_lt_of_le (by have := World.block_lt_of_cell? _ _ hw684_1; first | rwa [add_block] at this | exact this) GW688.out) | (rw [add_block]; exact Nat.ne_of_lt (Nat.lt_of_lt_of_le (by have := World.block_lt_of_cell? _ _ hw684_1; first | rwa [add_block] at this | exact this) GW688.out)) | (show (Addr.add _ _).block ≠ _; rw [add_block]; exact Nat.ne_of_lt (Nat.lt_of_lt_of_le (by have := World.block_lt_of_cell? _ _ hw684_1; first | rwa [add_block] at this | exact this) GW688.out)) | (dsimp only; exact Nat.ne_of_lt (Nat.lt_of_lt_of_le (by have := World.block_lt_of_cell? _ _ hw684_1; first | rwa [add_block] at this | exact this) GW688.out))) _).trans (hHeld.2))))⟩ (fun hHeld => ?_)
   clear hK K
   refine Sh.qA 10 ?_
   refine done_ (done_of HT_.out (by kernel_rfl)) ?_
   have n0_ : Aside0 (Kd.N (Kd.slice 59 k59) 27 ((w11.setCell ⟨gb688, 0, none⟩ (.int .i64 ((rd_T59 l0 (ji3)).f0))).setCell ⟨gb688, 1, none⟩ (.int .i64 ((rd_T59 l0 (ji3)).f1))) w.heap.size (fun k_ => k_ ≠ gb688) v686 t685) := ⟨by (with_reducible repeat (first | apply Kd.N_alloc | apply Kd.N_drewN | apply Kd.N_drew)); exact Kd.N_mono (Kd.N_far (p := ⟨gb688, 1, none⟩) (Kd.N_far (p := ⟨gb688, 0, none⟩) (Kd.N_mono HO687.out (fun k_ hk => (⟨hk, hk⟩ : _ ∧ k_ ≠ gb688))) (fun _ hk => hk.2) (.int .i64 ((rd_T59 l0 (ji3)).f0))) (fun _ hk => hk.2) (.int .i64 ((rd_T59 l0 (ji3)).f1))) (fun _ hk => hk.1)⟩
   have n1_ : Aside0 (((w11.setCell ⟨gb688, 0, none⟩ (.int .i64 ((rd_T59 l0 (ji3)).f0))).setCell ⟨gb688, 1, none⟩ (.int .i64 ((rd_T59 l0 (ji3)).f1))).heap[gb688]? = some (.cells #[.int .i64 ((rd_T59 l0 (ji3)).f0), .int .i64 ((rd_T59 l0 (ji3)).f1)] 59 (0, 0))) := ⟨by refine Sh.pl ?_; refine blk_put (cs := #[.int .i64 ((rd_T59 l0 (ji3)).f0), .int .i64 0]) ?_ 1 _ rfl; refine Sh.pl ?_; refine blk_put (cs := #[.int .i64 0, .int .i64 0]) ?_ 0 _ rfl; refine Sh.pl ?_; exact BK688.out⟩
   have n2_ : Aside0 (Below w.heap.size w ((w11.setCell ⟨gb688, 0, none⟩ (.int .i64 ((rd_T59 l0 (ji3)).f0))).setCell ⟨gb688, 1, none⟩ (.int .i64 ((rd_T59 l0 (ji3)).f1)))) := ⟨Sh.bw⟩
   (try clear HO687)
   (try clear BK688)
   (try clear HB)
   generalize ((w11.setCell ⟨gb688, 0, none⟩ (.int .i64 ((rd_T59 l0 (ji3)).f0))).setCell ⟨gb688, 1, none⟩ (.int .i64 ((rd_T59 l0 (ji3)).f1))) = w14 at n0_ n1_ n2_ ⊢
   have HO687 := n0_
   have BK688 := n1_
   have HB := n2_
   clear n0_ n1_ n2_
   go_upto_block 0 with (fail)
   go_cut [] (fun wc => ∃ (kq : Nat) (x689000_6 : Int), Aside0 (impl_pushNot.j2 kq a1 t685 x689000_6 ((rd_T59 l0 (ji3)).f1) = some r) ∧ Aside0 (kq ≤ k) ∧ Aside0 (Kd.N (Kd.slice 59 k59) 27 wc w.heap.size (fun k_ => k_ ≠ gb688) v686 t685) ∧ Aside0 (wc.heap[gb688]? = some (.cells #[.int .i64 x689000_6, .int .i64 ((rd_T59 l0 (ji3)).f1)] 59 (0, 0))) ∧ Aside0 (Below w.heap.size w wc))
   case first =>
    have H := HC7.out
    clear HC7
    by_cases c15 : ((rd_T59 l0 (ji3)).f0) = 3
    ·rw [if_pos c15] at H
     have c15b0 : (((rd_T59 l0 (ji3)).f0) == 3) = true := beq_iff_eq.mpr c15
     have c15b1 : (((rd_T59 l0 (ji3)).f0) != 3) = false := bne_eq_false_iff_eq.mpr c15
     clear c15
     first | rw [c15b0] | (simp only [i64_w, i32_w]; rw [c15b0]) | skip
     by_cases c16 : 0 < (t685.length : Int)
     ·rw [if_pos c16] at H
      have c16b0 := decide_eq_true c16
      have c16b1 : decide (0 < t685.length) = true := decide_eq_true (by omega)
      clear c16
      obtain ⟨t690, A17, H⟩ := Sh.ba H
      obtain rfl := Option.some.inj H
      have hcz18_0 := Sh.bc BK688.out 0
      have hcz18_1 := Sh.bc BK688.out 1
      have hfz18_0 := blk_frozen BK688.out 0
      have hfz18_1 := blk_frozen BK688.out 1
      obtain ⟨Ao19, co19, eo19⟩ := Kd.N_slice HO687.out
      subst eo19
      have p689 : 0 ≤ (0 : Int) := (by omega)
      have q689 : 0 < (t685.length : Int) := Sh.od
      obtain ⟨ad689, A689_0, c689_0, e689, hx689_0, hl689_0, hi689_0⟩ := at_L5 (Kd.N_reads' HO687.out).2.2 0 p689 q689
      cases e689
      obtain ⟨ce689, hce689, hMe689, hcc689⟩ := Kd.N_get HO687.out [] 0 p689 (by first | exact q689 | exact of_decide_eq_true (by first | (with_reducible assumption) | assumption) | (have e_ := (Kd.N_reads' HO687.out).1; omega))
      obtain ⟨ua689_0, uc689_0, rfl, ul689_0, ge689_0⟩ := Kd.FK_slice_open hMe689
      have hv689_0 := hcc689 0 _ rfl
      rw [Nat.add_zero, show ((Kd.slice 59 k59)).sz = 1 from rfl, Nat.mul_one] at hv689_0
      replace hv689_0 := Option.some.inj (hv689_0.symm.trans hx689_0)
      injection hv689_0 with hva_ hvn_ hvc_
      rw [hva_] at ge689_0
      rw [hvc_] at ul689_0
      have HL689_0 := am_ (show Kd.V k59 59 _ w.heap.size _ _ (rd_L5 t685 0) from Kd.V_mk ul689_0 ge689_0)
      clear hva_ hvn_ hvc_ ge689_0 ul689_0
      clear hcc689 hce689
      have qi689 : (0 < t685.length) = True := eq_true (by omega)
      (try rw [show ((0 : Int)).toNat = 0 from rfl] at hx689_0)
      (try rw [Addr.add_zero'] at hx689_0)
      have HR689_0 := am_ hi689_0
      have HC689_0 := am_ hl689_0
      clear hi689_0 hl689_0
      replace p689 := eq_true p689
      replace q689 := eq_true q689
      go_wp2_with (first | ((with_reducible refine Sh.k 63 ?_); refine Sh.gL (some 27) Try.func63 #[.slice A689_0 (rd_L5 t685 0).length c689_0, .bool (!a1)] (h := ?_); (with_reducible refine (ih k (by omega) _ _ (rd_L5 t685 0) (!a1) t690 _ ?side1 ?side2 A17.out).mono ?_); (case side1 => repeat (first | exact (by repeat (first | (with_reducible exact HR689_0.out) | (with_reducible first | refine Kd.C_alloc ?_ _ | refine Kd.C_drewN ?_ _ | refine Kd.C_drew ?_) | exact HR689_0.out)) | (with_reducible first | refine Kd.C_alloc ?_ _ | refine Kd.C_drewN ?_ _ | refine Kd.C_drew ?_))); (case side2 => exact HC689_0.out); rintro e w20 ⟨v691, rfl, ho0, hb⟩; refine ⟨_, rfl, ?_⟩; replace HO687 := am_ (Kd.N_elder' (by (with_reducible repeat (first | apply Kd.N_alloc | apply Kd.N_drewN | apply Kd.N_drew)); exact HO687.out) (Kd.R_base ho0) hb); replace HL689_0 := am_ (Kd.V_elder' (by (with_reducible repeat (first | apply Kd.V_alloc | apply Kd.V_drewN | apply Kd.V_drew)); exact HL689_0.out) (Kd.R_base ho0) hb); have HO692 := am_ (Kd.R_lower (Kd.R_newB ho0 (g := gb688) (o := .cells #[.int .i64 ((rd_T59 l0 (ji3)).f0), .int .i64 ((rd_T59 l0 (ji3)).f1)] 59 (0, 0)) (Sh.pl BK688.out)) (below_size Sh.bw)); replace BK688 := Sh.ab BK688 hb; replace HR689_0 := am_ (Kd.C_below (by repeat (first | (with_reducible exact HR689_0.out) | (with_reducible first | refine Kd.C_alloc ?_ _ | refine Kd.C_drewN ?_ _ | refine Kd.C_drew ?_) | exact HR689_0.out)) hb); replace HB := Sh.hb hb; (try clear hb); (try clear hb2); (try clear hk); (try clear hi); (try clear ho0)))
      go_ret
      exact ⟨_, by first | rfl | (simp [errW_none, errW_some] <;> rfl) | (simp only [← hj1]; first | rfl | (simp [errW_none, errW_some] <;> rfl)) | (simp [*, errW_none, errW_some] <;> rfl), Sh.rl (Kd.R_mono HO692.out (fun _ hk => trivial)), Sh.bw⟩
     ·rw [if_neg c16] at H
      exact absurd H (by simp)
    ·rw [if_neg c15] at H
     have c15b0 : (((rd_T59 l0 (ji3)).f0) == 3) = false := beq_eq_false_iff_ne.mpr c15
     have c15b1 : (((rd_T59 l0 (ji3)).f0) != 3) = true := bne_iff_ne.mpr c15
     first | rw [c15b0] | (simp only [i64_w, i32_w]; rw [c15b0]) | skip
     have HC21 := am_ H
     clear H
     have hcz22_0 := Sh.bc BK688.out 0
     have hcz22_1 := Sh.bc BK688.out 1
     have hfz22_0 := blk_frozen BK688.out 0
     have hfz22_1 := blk_frozen BK688.out 1
     go_upto_region 4 with (fail)
     go_cut [28] (fun v28 wc => ∃ (kq : Nat) (x28_20 : Bool), v28 = .bool x28_20 ∧ Aside0 (impl_pushNot.j0 kq a1 t685 x28_20 ((rd_T59 l0 (ji3)).f0) ((rd_T59 l0 (ji3)).f1) = some r) ∧ Aside0 (kq ≤ k) ∧ Aside0 (Kd.N (Kd.slice 59 k59) 27 wc w.heap.size (fun k_ => k_ ≠ gb688) v686 t685) ∧ Aside0 (wc.heap[gb688]? = some (.cells #[.int .i64 ((rd_T59 l0 (ji3)).f0), .int .i64 ((rd_T59 l0 (ji3)).f1)] 59 (0, 0))) ∧ Aside0 (Below w.heap.size w wc))
     case first =>
      have H := HC21.out
      clear HC21
      by_cases c23 : ((rd_T59 l0 (ji3)).f0) = 1
      ·rw [if_pos c23] at H
       have c23b0 : (((rd_T59 l0 (ji3)).f0) == 1) = true := beq_iff_eq.mpr c23
       have c23b1 : (((rd_T59 l0 (ji3)).f0) != 1) = false := bne_eq_false_iff_eq.mpr c23
       clear c23
       first | rw [c23b0] | (simp only [i64_w, i32_w]; rw [c23b0]) | skip
       have H' := am_ H
       clear H
       have hcz24_0 := Sh.bc BK688.out 0
       have hcz24_1 := Sh.bc BK688.out 1
       have hfz24_0 := blk_frozen BK688.out 0
       have hfz24_1 := blk_frozen BK688.out 1
       go_wp2
       go_meet
       case rel => exact ⟨_, (a1), (Sh.es), H', ⟨Sh.om⟩, ⟨by (with_reducible repeat (first | apply Kd.N_alloc | apply Kd.N_drewN | apply Kd.N_drew)); exact HO687.out⟩, ⟨by refine Sh.pl ?_; exact BK688.out⟩, ⟨Sh.bw⟩⟩
      ·rw [if_neg c23] at H
       have c23b0 : (((rd_T59 l0 (ji3)).f0) == 1) = false := beq_eq_false_iff_ne.mpr c23
       have c23b1 : (((rd_T59 l0 (ji3)).f0) != 1) = true := bne_iff_ne.mpr c23
       first | rw [c23b0] | (simp only [i64_w, i32_w]; rw [c23b0]) | skip
       have H' := am_ H
       clear H
       have hcz25_0 := Sh.bc BK688.out 0
       have hcz25_1 := Sh.bc BK688.out 1
       have hfz25_0 := blk_frozen BK688.out 0
       have hfz25_1 := blk_frozen BK688.out 1
       go_wp2
       go_meet
       case rel => exact ⟨_, (false), (Sh.es), H', ⟨Sh.om⟩, ⟨by (with_reducible repeat (first | apply Kd.N_alloc | apply Kd.N_drewN | apply Kd.N_drew)); exact HO687.out⟩, ⟨by refine Sh.pl ?_; exact BK688.out⟩, ⟨Sh.bw⟩⟩
     case rest =>
      clear HC21
      try clear hx6
      try clear qi6
      try clear hcz18_0
      try clear hcz18_1
      try clear hcz22_0
      try clear hcz22_1
      try clear hcz24_0
      try clear hcz24_1
      try clear hcz25_0
      try clear hcz25_1
      try clear hfz18_0
      try clear hfz18_1
      try clear hfz22_0
      try clear hfz22_1
      try clear hfz24_0
      try clear hfz24_1
      try clear hfz25_0
      try clear hfz25_1
      try clear hx684_0
      try clear hx684_1
      try clear hx689_0
      obtain ⟨kq, x28_20, rfl, HA, HJ20, HO_6, BK688, HB⟩ := hcut
      cases kq with
      | zero => exact absurd HA.out (by simp [impl_pushNot.j0])
      | succ kj20 =>
       have H := HA.out
       clear HA
       simp only [impl_pushNot.j0] at H
       by_cases c26 : x28_20 = true
       ·subst c26
        rw [if_pos rfl] at H
        obtain ⟨y693, hy693⟩ : ∃ y_ : List (S59), y_ = (([(⟨((rd_T59 l0 (ji3)).f0), ((rd_T59 l0 (ji3)).f1)⟩ : S59), (⟨3, 0⟩ : S59)] : List (S59))) := ⟨_, rfl⟩
        replace H : (some y693) = some r := by first | (rw [hy693]; with_reducible exact H) | (have H2_ := (Option.bind_some _ _).symm.trans H; rw [hy693]; with_reducible exact H2_) | (have H2_ := (Option.bind_some _ _).symm.trans H; with_reducible exact H2_) | with_reducible exact H | (rw [hy693]; exact H) | exact H
        have Ny693 := am_ hy693
        clear hy693
        obtain rfl := Option.some.inj H
        have hcz27_0 := Sh.bc BK688.out 0
        have hcz27_1 := Sh.bc BK688.out 1
        have hfz27_0 := blk_frozen BK688.out 0
        have hfz27_1 := blk_frozen BK688.out 1
        go_wp2_with (first | ((with_reducible refine Sh.d 37 ?_); refine Kd.R_lit k59 _ 59 ?hg (N := 37) ?hd (xs := ([(⟨((rd_T59 l0 (ji3)).f0), ((rd_T59 l0 (ji3)).f1)⟩ : S59), (⟨3, 0⟩ : S59)] : List (S59))) (inner := [.int .i64 ((rd_T59 l0 (ji3)).f0), .int .i64 ((rd_T59 l0 (ji3)).f1), .int .i64 3, .int .i64 0]) (ok := fun _ => True) (okp := fun _ => True) ?hr ?hp (fun _ hk => hk) trivial (Below.refl _ _) (Nat.le_refl _) (by simp) ?_; (case hd => rfl); (case hg => rfl); (case hr => first | (go_simp; done) | (go_simp; rfl)); (case hp => exact (Reps.c2 (show Kd.M k59 _ _ _ (⟨((rd_T59 l0 (ji3)).f0), ((rd_T59 l0 (ji3)).f1)⟩ : S59) [.int .i64 ((rd_T59 l0 (ji3)).f0), .int .i64 ((rd_T59 l0 (ji3)).f1)] from (k59_mkM _ _ _ (⟨((rd_T59 l0 (ji3)).f0), ((rd_T59 l0 (ji3)).f1)⟩ : S59) )) (Reps.c2 (show Kd.M k59 _ _ _ (⟨3, 0⟩ : S59) [.int .i64 3, .int .i64 0] from (k59_mkM _ _ _ (⟨3, 0⟩ : S59) )) (Reps.none _ _)))); intro v694 w28 ho29 hb hg_ hnew_; clear hg_ hnew_; (first | rw [← Ny693.out] at ho29 | (simp only [Int.reduceToNat] at ho29; rw [← Ny693.out] at ho29)); replace HO_6 := am_ (Kd.N_elder' (by (with_reducible repeat (first | apply Kd.N_alloc | apply Kd.N_drewN | apply Kd.N_drew)); exact HO_6.out) (Kd.R_base ho29) hb); have HO695 := am_ (Kd.R_lower (Kd.R_newB ho29 (g := gb688) (o := .cells #[.int .i64 ((rd_T59 l0 (ji3)).f0), .int .i64 ((rd_T59 l0 (ji3)).f1)] 59 (0, 0)) (Sh.pl BK688.out)) (below_size Sh.bw)); replace BK688 := Sh.ab BK688 hb; replace HB := Sh.hb hb; clear hb ho29))
        go_ret
        exact ⟨_, by first | rfl | (simp [errW_none, errW_some] <;> rfl) | (simp only [← hj1]; first | rfl | (simp [errW_none, errW_some] <;> rfl)) | (simp [*, errW_none, errW_some] <;> rfl), Sh.rl (Kd.R_mono HO695.out (fun _ hk => trivial)), Sh.bw⟩
       ·replace c26 := Bool.eq_false_iff.mpr c26
        subst c26
        rw [Sh.nf] at H
        have HC30 := am_ H
        clear H
        go_upto_region 6 with (fail)
        go_cut [38] (fun v38 wc => ∃ (kq : Nat) (x38_29 : Bool), v38 = .bool x38_29 ∧ Aside0 (impl_pushNot.j1 kq a1 t685 x38_29 ((rd_T59 l0 (ji3)).f0) ((rd_T59 l0 (ji3)).f1) = some r) ∧ Aside0 (kq ≤ kj20) ∧ Aside0 (Kd.N (Kd.slice 59 k59) 27 wc w.heap.size (fun k_ => k_ ≠ gb688) v686 t685) ∧ Aside0 (wc.heap[gb688]? = some (.cells #[.int .i64 ((rd_T59 l0 (ji3)).f0), .int .i64 ((rd_T59 l0 (ji3)).f1)] 59 (0, 0))) ∧ Aside0 (Below w.heap.size w wc))
        case first =>
         have H := HC30.out
         clear HC30
         by_cases c31 : ((rd_T59 l0 (ji3)).f0) = 2
         ·rw [if_pos c31] at H
          have c31b0 : (((rd_T59 l0 (ji3)).f0) == 2) = true := beq_iff_eq.mpr c31
          have c31b1 : (((rd_T59 l0 (ji3)).f0) != 2) = false := bne_eq_false_iff_eq.mpr c31
          clear c31
          first | rw [c31b0] | (simp only [i64_w, i32_w]; rw [c31b0]) | skip
          have H' := am_ H
          clear H
          have hcz32_0 := Sh.bc BK688.out 0
          have hcz32_1 := Sh.bc BK688.out 1
          have hfz32_0 := blk_frozen BK688.out 0
          have hfz32_1 := blk_frozen BK688.out 1
          go_wp2
          go_meet
          case rel => exact ⟨_, (a1), (Sh.es), H', ⟨by have := HJ20.out; first | omega | exact Nat.le_refl _⟩, ⟨by (with_reducible repeat (first | apply Kd.N_alloc | apply Kd.N_drewN | apply Kd.N_drew)); exact HO_6.out⟩, ⟨by refine Sh.pl ?_; exact BK688.out⟩, ⟨Sh.bw⟩⟩
         ·rw [if_neg c31] at H
          have c31b0 : (((rd_T59 l0 (ji3)).f0) == 2) = false := beq_eq_false_iff_ne.mpr c31
          have c31b1 : (((rd_T59 l0 (ji3)).f0) != 2) = true := bne_iff_ne.mpr c31
          first | rw [c31b0] | (simp only [i64_w, i32_w]; rw [c31b0]) | skip
          have H' := am_ H
          clear H
          have hcz33_0 := Sh.bc BK688.out 0
          have hcz33_1 := Sh.bc BK688.out 1
          have hfz33_0 := blk_frozen BK688.out 0
          have hfz33_1 := blk_frozen BK688.out 1
          go_wp2
          go_meet
          case rel => exact ⟨_, (false), (Sh.es), H', ⟨by have := HJ20.out; first | omega | exact Nat.le_refl _⟩, ⟨by (with_reducible repeat (first | apply Kd.N_alloc | apply Kd.N_drewN | apply Kd.N_drew)); exact HO_6.out⟩, ⟨by refine Sh.pl ?_; exact BK688.out⟩, ⟨Sh.bw⟩⟩
        case rest =>
         clear HC30
         try clear hx6
         try clear qi6
         try clear hcz18_0
         try clear hcz18_1
         try clear hcz22_0
         try clear hcz22_1
         try clear hcz24_0
         try clear hcz24_1
         try clear hcz25_0
         try clear hcz25_1
         try clear hcz27_0
         try clear hcz27_1
         try clear hcz32_0
         try clear hcz32_1
         try clear hcz33_0
         try clear hcz33_1
         try clear hfz18_0
         try clear hfz18_1
         try clear hfz22_0
         try clear hfz22_1
         try clear hfz24_0
         try clear hfz24_1
         try clear hfz25_0
         try clear hfz25_1
         try clear hfz27_0
         try clear hfz27_1
         try clear hfz32_0
         try clear hfz32_1
         try clear hfz33_0
         try clear hfz33_1
         try clear hx684_0
         try clear hx684_1
         try clear hx689_0
         obtain ⟨kq, x38_29, rfl, HA, HJ29, HO_6, BK688, HB⟩ := hcut
         cases kq with
         | zero => exact absurd HA.out (by simp [impl_pushNot.j1])
         | succ kj29 =>
          have H := HA.out
          clear HA
          simp only [impl_pushNot.j1] at H
          by_cases c34 : x38_29 = true
          ·subst c34
           rw [if_pos rfl] at H
           obtain ⟨y696, hy696⟩ : ∃ y_ : List (S59), y_ = (([(⟨2, wrap64 (1 - ((rd_T59 l0 (ji3)).f1))⟩ : S59)] : List (S59))) := ⟨_, rfl⟩
           replace H : (some y696) = some r := by first | (rw [hy696]; with_reducible exact H) | (have H2_ := (Option.bind_some _ _).symm.trans H; rw [hy696]; with_reducible exact H2_) | (have H2_ := (Option.bind_some _ _).symm.trans H; with_reducible exact H2_) | with_reducible exact H | (rw [hy696]; exact H) | exact H
           have Ny696 := am_ hy696
           clear hy696
           obtain rfl := Option.some.inj H
           have hcz35_0 := Sh.bc BK688.out 0
           have hcz35_1 := Sh.bc BK688.out 1
           have hfz35_0 := blk_frozen BK688.out 0
           have hfz35_1 := blk_frozen BK688.out 1
           go_wp2_with (first | ((with_reducible refine Sh.d 49 ?_); refine Kd.R_lit k59 _ 59 ?hg (N := 49) ?hd (xs := ([(⟨2, wrap64 (1 - ((rd_T59 l0 (ji3)).f1))⟩ : S59)] : List (S59))) (inner := [.int .i64 2, .int .i64 (wrap64 (1 - ((rd_T59 l0 (ji3)).f1)))]) (ok := fun _ => True) (okp := fun _ => True) ?hr ?hp (fun _ hk => hk) trivial (Below.refl _ _) (Nat.le_refl _) (by simp) ?_; (case hd => rfl); (case hg => rfl); (case hr => first | (go_simp; done) | (go_simp; rfl)); (case hp => exact (Reps.c2 (show Kd.M k59 _ _ _ (⟨2, wrap64 (1 - ((rd_T59 l0 (ji3)).f1))⟩ : S59) [.int .i64 2, .int .i64 (wrap64 (1 - ((rd_T59 l0 (ji3)).f1)))] from (k59_mkM _ _ _ (⟨2, wrap64 (1 - ((rd_T59 l0 (ji3)).f1))⟩ : S59) )) (Reps.none _ _))); intro v697 w36 ho37 hb hg_ hnew_; clear hg_ hnew_; (first | rw [← Ny696.out] at ho37 | (simp only [Int.reduceToNat] at ho37; rw [← Ny696.out] at ho37)); replace HO_6 := am_ (Kd.N_elder' (by (with_reducible repeat (first | apply Kd.N_alloc | apply Kd.N_drewN | apply Kd.N_drew)); exact HO_6.out) (Kd.R_base ho37) hb); have HO698 := am_ (Kd.R_lower (Kd.R_newB ho37 (g := gb688) (o := .cells #[.int .i64 ((rd_T59 l0 (ji3)).f0), .int .i64 ((rd_T59 l0 (ji3)).f1)] 59 (0, 0)) (Sh.pl BK688.out)) (below_size Sh.bw)); replace BK688 := Sh.ab BK688 hb; replace HB := Sh.hb hb; clear hb ho37))
           go_ret
           exact ⟨_, by first | rfl | (simp [errW_none, errW_some] <;> rfl) | (simp only [← hj1]; first | rfl | (simp [errW_none, errW_some] <;> rfl)) | (simp [*, errW_none, errW_some] <;> rfl), Sh.rl (Kd.R_mono HO698.out (fun _ hk => trivial)), Sh.bw⟩
          ·replace c34 := Bool.eq_false_iff.mpr c34
           subst c34
           rw [Sh.nf] at H
           by_cases c38 : a1 = true
           ·subst c38
            rw [if_pos rfl] at H
            obtain ⟨t699, A39, H⟩ := Sh.ba H
            have H' := am_ H
            clear H
            have hcz40_0 := Sh.bc BK688.out 0
            have hcz40_1 := Sh.bc BK688.out 1
            have hfz40_0 := blk_frozen BK688.out 0
            have hfz40_1 := blk_frozen BK688.out 1
            go_wp2_with (first | ((with_reducible refine Sh.k 85 ?_); refine goesL_ (some 54) rfl rfl Try.func85 (by kernel_rfl) rfl #[.int .i64 ((rd_T59 l0 (ji3)).f0)] rfl (by (try simp only [List.map_toArray, List.map_cons, List.map_nil]); first | done | (simp only [hj1]; rfl) | rfl | (simp only [List.length_drop, List.length_take]; rfl)) ?_; (with_reducible refine (impl_opposite.calls ((rd_T59 l0 (ji3)).f0) t699 _ A39.out).mono ?_); rintro e w' ⟨rfl, ⟨nd, rfl⟩⟩; refine ⟨_, rfl, ?_⟩; (try (rw [drewN_self wc]; generalize hq_ : World.drewN wc _ = wc; have n0_ : Aside0 (Kd.N (Kd.slice 59 k59) 27 wc w.heap.size (fun k_ => k_ ≠ gb688) v686 t685) := ⟨by rw [← hq_]; exact (by (with_reducible repeat (first | apply Kd.N_alloc | apply Kd.N_drewN | apply Kd.N_drew)); exact HO_6.out)⟩; have n1_ : Aside0 (wc.heap[gb688]? = some (.cells #[.int .i64 ((rd_T59 l0 (ji3)).f0), .int .i64 ((rd_T59 l0 (ji3)).f1)] 59 (0, 0))) := ⟨by rw [← hq_]; exact (Sh.pl BK688.out)⟩; have n2_ : Aside0 (Below w.heap.size w wc) := ⟨by rw [← hq_]; exact Sh.bw⟩; clear HO_6 BK688 HB hq_; have HO_6 := n0_; have BK688 := n1_; have HB := n2_; clear n0_ n1_ n2_)); have hczp_0 := Sh.bc BK688.out 0; have hczp_1 := Sh.bc BK688.out 1; have hfzp_0 := blk_frozen BK688.out 0; have hfzp_1 := blk_frozen BK688.out 1))
            go_meet
            case rel => exact ⟨_, (t699), H', ⟨by have := HJ20.out; have := HJ29.out; first | omega | exact Nat.le_refl _⟩, ⟨by (with_reducible repeat (first | apply Kd.N_alloc | apply Kd.N_drewN | apply Kd.N_drew)); exact Kd.N_mono (Kd.N_far (p := ⟨gb688, 0, none⟩) (Kd.N_mono HO_6.out (fun k_ hk => (⟨hk, hk⟩ : _ ∧ k_ ≠ gb688))) (fun _ hk => hk.2) (.int .i64 t699)) (fun _ hk => hk.1)⟩, ⟨by refine Sh.pl ?_; refine blk_put (cs := #[.int .i64 ((rd_T59 l0 (ji3)).f0), .int .i64 ((rd_T59 l0 (ji3)).f1)]) ?_ 0 _ rfl; refine Sh.pl ?_; exact BK688.out⟩, ⟨Sh.bw⟩⟩
           ·replace c38 := Bool.eq_false_iff.mpr c38
            subst c38
            rw [Sh.nf] at H
            have H' := am_ H
            clear H
            go_wp2
            go_meet
            case rel => exact ⟨_, (((rd_T59 l0 (ji3)).f0)), H', ⟨by have := HJ20.out; have := HJ29.out; first | omega | exact Nat.le_refl _⟩, ⟨by (with_reducible repeat (first | apply Kd.N_alloc | apply Kd.N_drewN | apply Kd.N_drew)); exact HO_6.out⟩, ⟨by refine Sh.pl ?_; exact BK688.out⟩, ⟨Sh.bw⟩⟩
   case rest =>
    clear HC7
    try clear hx6
    try clear qi6
    try clear hcz18_0
    try clear hcz18_1
    try clear hcz22_0
    try clear hcz22_1
    try clear hcz24_0
    try clear hcz24_1
    try clear hcz25_0
    try clear hcz25_1
    try clear hcz27_0
    try clear hcz27_1
    try clear hcz32_0
    try clear hcz32_1
    try clear hcz33_0
    try clear hcz33_1
    try clear hcz35_0
    try clear hcz35_1
    try clear hcz40_0
    try clear hcz40_1
    try clear hfz18_0
    try clear hfz18_1
    try clear hfz22_0
    try clear hfz22_1
    try clear hfz24_0
    try clear hfz24_1
    try clear hfz25_0
    try clear hfz25_1
    try clear hfz27_0
    try clear hfz27_1
    try clear hfz32_0
    try clear hfz32_1
    try clear hfz33_0
    try clear hfz33_1
    try clear hfz35_0
    try clear hfz35_1
    try clear hfz40_0
    try clear hfz40_1
    try clear hx684_0
    try clear hx684_1
    try clear hx689_0
    obtain ⟨kq, x689000_6, HA, HJ6, HO_6, BK688, HB⟩ := hcut
    cases kq with
    | zero => exact absurd HA.out (by simp [impl_pushNot.j2])
    | succ kj6 =>
     have H := HA.out
     clear HA
     simp only [impl_pushNot.j2] at H
     obtain ⟨y700, hy700⟩ : ∃ y_ : List (S59), y_ = (([] : List (S59))) := ⟨_, rfl⟩
     replace H : (impl_pushNot.l0 kj6 a1 y700 t685 (t685.length : Int) 0 x689000_6 ((rd_T59 l0 (ji3)).f1)) = some r := by first | (rw [hy700]; with_reducible exact H) | (have H2_ := (Option.bind_some _ _).symm.trans H; rw [hy700]; with_reducible exact H2_) | (have H2_ := (Option.bind_some _ _).symm.trans H; with_reducible exact H2_) | with_reducible exact H | (rw [hy700]; exact H) | exact H
     have Ny700 := am_ hy700
     clear hy700
     have H' := am_ H
     clear H
     go_wp2_with (first | ((with_reducible refine Sh.d 56 ?_); refine Kd.R_lit k59 _ 59 ?hg (N := 56) ?hd (xs := ([] : List (S59))) (inner := []) (ok := fun _ => True) (okp := fun _ => True) ?hr ?hp (fun _ hk => hk) trivial (Below.refl _ _) (Nat.le_refl _) (by simp) ?_; (case hd => rfl); (case hg => rfl); (case hr => first | (go_simp; done) | (go_simp; rfl)); (case hp => exact (Reps.none _ _)); intro v701 w41 ho42 hb hg_ hnew_; clear hg_ hnew_; (first | rw [← Ny700.out] at ho42 | (simp only [Int.reduceToNat] at ho42; rw [← Ny700.out] at ho42)); replace HO_6 := am_ (Kd.N_elder' (by (with_reducible repeat (first | apply Kd.N_alloc | apply Kd.N_drewN | apply Kd.N_drew)); exact HO_6.out) (Kd.R_base ho42) hb); have HO702 := am_ (Kd.R_lower (Kd.R_newB ho42 (g := gb688) (o := .cells #[.int .i64 x689000_6, .int .i64 ((rd_T59 l0 (ji3)).f1)] 59 (0, 0)) (Sh.pl BK688.out)) (below_size Sh.bw)); replace BK688 := Sh.ab BK688 hb; replace HB := Sh.hb hb; clear hb ho42; obtain ⟨Ao43, co43, eo43⟩ := Kd.N_slice HO_6.out; subst eo43))
     go_loopg [7, 59] kj6 (fun kq v7 v59 w' => ∃ (x7_2 : List (S59)) (x59_2 : Int), v59 = .int .i64 x59_2 ∧ Aside0 (impl_pushNot.l0 kq a1 x7_2 t685 (t685.length : Int) x59_2 x689000_6 ((rd_T59 l0 (ji3)).f1) = some r) ∧ Aside0 (kq ≤ kj6) ∧ Aside0 (Kd.R k59 59 w' w.heap.size (fun k_ => k_ ≠ gb688) v7 x7_2) ∧ Aside0 (Kd.N (Kd.slice 59 k59) 27 w' w.heap.size (fun k_ => some k_ ≠ (v7 : Value).ownBlock ∧ k_ ≠ gb688) (.slice Ao43 t685.length co43) t685) ∧ Aside0 (w'.heap[gb688]? = some (.cells #[.int .i64 x689000_6, .int .i64 ((rd_T59 l0 (ji3)).f1)] 59 (0, 0))) ∧ Aside0 (Below w.heap.size w w'))
     case atStart => exact ⟨(y700), (0), (Sh.es), H', ⟨Nat.le_refl _⟩, ⟨Sh.rl (Kd.R_mono HO702.out (fun _ hk => hk.2))⟩, ⟨by (with_reducible repeat (first | apply Kd.N_alloc | apply Kd.N_drewN | apply Kd.N_drew)); exact Kd.N_mono HO_6.out (fun _ h => ⟨h.2, h.1⟩)⟩, ⟨by refine Sh.pl ?_; exact BK688.out⟩, ⟨Sh.bw⟩⟩
     case round =>
      clear H'
      try clear hx6
      try clear qi6
      try clear hcz18_0
      try clear hcz18_1
      try clear hcz22_0
      try clear hcz22_1
      try clear hcz24_0
      try clear hcz24_1
      try clear hcz25_0
      try clear hcz25_1
      try clear hcz27_0
      try clear hcz27_1
      try clear hcz32_0
      try clear hcz32_1
      try clear hcz33_0
      try clear hcz33_1
      try clear hcz35_0
      try clear hcz35_1
      try clear hcz40_0
      try clear hcz40_1
      try clear hfz18_0
      try clear hfz18_1
      try clear hfz22_0
      try clear hfz22_1
      try clear hfz24_0
      try clear hfz24_1
      try clear hfz25_0
      try clear hfz25_1
      try clear hfz27_0
      try clear hfz27_1
      try clear hfz32_0
      try clear hfz32_1
      try clear hfz33_0
      try clear hfz33_1
      try clear hfz35_0
      try clear hfz35_1
      try clear hfz40_0
      try clear hfz40_1
      try clear hx684_0
      try clear hx684_1
      try clear hx689_0
      obtain ⟨x7_2, x59_2, rfl, HA, HK2, HO_7, HO_57, BK688, HB⟩ := hrel
      cases gk with
      | zero => exact absurd HA.out (by simp [impl_pushNot.l0])
      | succ k2 =>
       have H := HA.out
       clear HA
       simp only [impl_pushNot.l0] at H
       by_cases c44 : x59_2 < (t685.length : Int)
       ·rw [if_pos c44] at H
        have c44b0 := decide_eq_true c44
        clear c44
        by_cases c45 : 0 ≤ x59_2
        ·rw [if_pos c45] at H
         have c45b0 := decide_eq_true c45
         clear c45
         by_cases c46 : x59_2 < (t685.length : Int)
         ·rw [if_pos c46] at H
          have c46b0 := decide_eq_true c46
          clear c46
          obtain ⟨t704, A47, H⟩ := Sh.ba H
          by_cases c48 : x7_2.length + t704.length < 8796093022208
          ·rw [if_pos c48] at H
           have LMc48 := am_ c48
           clear c48
           obtain ⟨y707, hy707⟩ : ∃ y_ : List (S59), y_ = (x7_2 ++ t704) := ⟨_, rfl⟩
           replace H : (impl_pushNot.l0 k2 a1 y707 t685 (t685.length : Int) (wrap64 (x59_2 + 1)) x689000_6 ((rd_T59 l0 (ji3)).f1)) = some r := by first | (rw [hy707]; with_reducible exact H) | (have H2_ := (Option.bind_some _ _).symm.trans H; rw [hy707]; with_reducible exact H2_) | (have H2_ := (Option.bind_some _ _).symm.trans H; with_reducible exact H2_) | with_reducible exact H | (rw [hy707]; exact H) | exact H
           have Ny707 := am_ hy707
           clear hy707
           have H' := am_ H
           clear H
           have p703 : 0 ≤ (x59_2 : Int) := Sh.od
           have q703 : x59_2 < (t685.length : Int) := Sh.od
           obtain ⟨ad703, A703_0, c703_0, e703, hx703_0, hl703_0, hi703_0⟩ := at_L5 (Kd.N_reads' HO_57.out).2.2 x59_2 p703 q703
           cases e703
           obtain ⟨ce703, hce703, hMe703, hcc703⟩ := Kd.N_get HO_57.out [] x59_2 p703 (by first | exact q703 | exact of_decide_eq_true (by first | (with_reducible assumption) | assumption) | (have e_ := (Kd.N_reads' HO_57.out).1; omega))
           obtain ⟨ua703_0, uc703_0, rfl, ul703_0, ge703_0⟩ := Kd.FK_slice_open hMe703
           have hv703_0 := hcc703 0 _ rfl
           rw [Nat.add_zero, show ((Kd.slice 59 k59)).sz = 1 from rfl, Nat.mul_one] at hv703_0
           replace hv703_0 := Option.some.inj (hv703_0.symm.trans hx703_0)
           injection hv703_0 with hva_ hvn_ hvc_
           rw [hva_] at ge703_0
           rw [hvc_] at ul703_0
           have HL703_0 := am_ (show Kd.V k59 59 _ w.heap.size _ _ (rd_L5 t685 x59_2) from Kd.V_mk ul703_0 ge703_0)
           clear hva_ hvn_ hvc_ ge703_0 ul703_0
           clear hcc703 hce703
           have HR703_0 := am_ hi703_0
           have HC703_0 := am_ hl703_0
           clear hi703_0 hl703_0
           replace p703 := eq_true p703
           replace q703 := eq_true q703
           go_wp2_with (first | ((with_reducible refine Sh.k 63 ?_); refine Sh.gL (some 66) Try.func63 #[.slice A703_0 (rd_L5 t685 x59_2).length c703_0, .bool a1] (h := ?_); (with_reducible refine (ih k2 (by have := HJ6.out; have := HK2.out; omega) _ _ (rd_L5 t685 x59_2) a1 t704 _ ?side1 ?side2 A47.out).mono ?_); (case side1 => repeat (first | exact (by repeat (first | (with_reducible exact HR703_0.out) | (with_reducible first | refine Kd.C_alloc ?_ _ | refine Kd.C_drewN ?_ _ | refine Kd.C_drew ?_) | exact HR703_0.out)) | (with_reducible first | refine Kd.C_alloc ?_ _ | refine Kd.C_drewN ?_ _ | refine Kd.C_drew ?_))); (case side2 => exact HC703_0.out); rintro e w49 ⟨v705, rfl, ho0, hb⟩; refine ⟨_, rfl, ?_⟩; replace HO_57 := am_ (Kd.N_elder' (by (with_reducible repeat (first | apply Kd.N_alloc | apply Kd.N_drewN | apply Kd.N_drew)); exact HO_57.out) (Kd.R_base ho0) hb); replace HL703_0 := am_ (Kd.V_elder' (by (with_reducible repeat (first | apply Kd.V_alloc | apply Kd.V_drewN | apply Kd.V_drew)); exact HL703_0.out) (Kd.R_base ho0) hb); have HO706 := am_ (Kd.R_lower (Kd.R_newB (Kd.R_new' ho0 (Kd.R_lt (Sh.rl HO_7.out))) (g := gb688) (o := .cells #[.int .i64 x689000_6, .int .i64 ((rd_T59 l0 (ji3)).f1)] 59 (0, 0)) (Sh.pl BK688.out)) (below_size Sh.bw)); replace HO_7 := am_ (Kd.R_elder' (Sh.rl HO_7.out) (Kd.R_base ho0) hb); replace BK688 := Sh.ab BK688 hb; replace HR703_0 := am_ (Kd.C_below (by repeat (first | (with_reducible exact HR703_0.out) | (with_reducible first | refine Kd.C_alloc ?_ _ | refine Kd.C_drewN ?_ _ | refine Kd.C_drew ?_) | exact HR703_0.out)) hb); replace HB := Sh.hb hb; (try clear hb); (try clear hb2); (try clear hk); (try clear hi); (try clear ho0); obtain ⟨Ao51, co51, eo51⟩ := Kd.R_slice HO706.out; subst eo51) | ((with_reducible refine gate_builtin (b := .append) (xs := #[.tmp 63, .tmp 66]) rfl ?_); at_builtin; refine Kd.R_append_rows k59 (w0 := w) w.heap.size rfl (.tmp 63) (.tmp 66) 27 59 (.agg #[(.int .i64 0), (.int .i64 0)]) 16 rfl Try.underlying27 info59 rfl (by decide) (by omega) u7 x7_2 t704 _ _ _ (fun k_ => some k_ ≠ (.slice Ao51 t704.length co51 : Value).ownBlock ∧ k_ ≠ gb688) (fun _ => False) rfl rfl ?aO ?aR (fun _ _ h => h) (fun _ h => h.elim) ?aF ?aB ?aS ?aL ?_; (case aR => repeat (first | exact (Kd.R_reads' HO706.out).2.2 | (with_reducible first | refine Kd.C_alloc ?_ _ | refine Kd.C_drewN ?_ _ | refine Kd.C_drew ?_))); (case aB => exact Sh.bw); (case aF => exact (fun k_ hk => ⟨Kd.fresh' (Kd.R_lt (Sh.rl HO706.out)) k_ hk, Kd.freshB (g := gb688) (o := .cells #[.int .i64 x689000_6, .int .i64 ((rd_T59 l0 (ji3)).f1)] 59 (0, 0)) (Sh.pl BK688.out) k_ hk⟩)); (case aO => exact (Sh.rl (Kd.R_mono HO_7.out (fun _ h => ⟨h.2, h.1⟩)))); (case aS => exact (below_size Sh.bw)); (case aL => have := LMc48.out; omega); intro v708 w50 ho hb hg hat; rw [← Ny707.out] at ho; have n0_ := am_ (Kd.N_afterv (ok := (fun k_ => some k_ ≠ (.slice Ao51 t704.length co51 : Value).ownBlock ∧ k_ ≠ gb688)) (by (with_reducible repeat (first | apply Kd.N_alloc | apply Kd.N_drewN | apply Kd.N_drew)); exact Kd.N_mono HO_57.out (fun _ h => ⟨⟨h.2, h.1.2⟩, h.1.1⟩)) hg hat); have n1_ := am_ (blk_grown (g := gb688) (o := .cells #[.int .i64 x689000_6, .int .i64 ((rd_T59 l0 (ji3)).f1)] 59 (0, 0)) (Sh.pl BK688.out) hg (Kd.R_away HO_7.out (fun _ hk => hk.1))); have n2_ := am_ (Kd.V_afterv (ok := (fun k_ => some k_ ≠ (.slice (some ad703) t685.length co43 : Value).ownBlock ∧ some k_ ≠ (.slice Ao51 t704.length co51 : Value).ownBlock ∧ k_ ≠ gb688)) (by (with_reducible repeat (first | apply Kd.V_alloc | apply Kd.V_drewN | apply Kd.V_drew)); exact Kd.V_mono HL703_0.out (fun _ h => ⟨⟨h.1.2, h.2, h.1.1.2⟩, h.1.1.1⟩)) hg hat); have n3_ := am_ (Kd.R_after (ok := (fun k_ => k_ ≠ gb688)) (Sh.rl (Kd.R_mono HO706.out (fun _ h => ⟨h.2, h.1.2⟩))) hg hat); have n4_ := am_ hb; have n5_ := am_ ho; clear HO_57; clear BK688; clear HL703_0; clear HO706; clear HB; clear HO_7; have HO_57 := n0_; have BK688 := n1_; have HL703_0 := n2_; have HO706 := n3_; have HB := n4_; have HO709 := n5_; clear n0_ n1_ n2_ n3_ n4_ n5_; clear ho hb hg hat))
           go_roundg k2
           case measure => have := HJ6.out; have := HK2.out; omega
           case rel => exact ⟨(y707), (wrap64 (x59_2 + 1)), (Sh.es), H', ⟨by have := HJ6.out; have := HK2.out; omega⟩, ⟨Sh.rl (Kd.R_mono HO709.out (fun _ hk => hk.2))⟩, ⟨by (with_reducible repeat (first | apply Kd.N_alloc | apply Kd.N_drewN | apply Kd.N_drew)); exact Kd.N_mono HO_57.out (fun _ h => ⟨h.2, h.1.2⟩)⟩, ⟨by refine Sh.pl ?_; exact BK688.out⟩, ⟨Sh.bw⟩⟩
          ·rw [if_neg c48] at H
           exact absurd H (by simp)
         ·rw [if_neg c46] at H
          exact absurd H (by simp)
        ·rw [if_neg c45] at H
         exact absurd H (by simp)
       ·rw [if_neg c44] at H
        have c44b0 := decide_eq_false c44
        clear c44
        by_cases c52 : x7_2.length < 8796093022208
        ·rw [if_pos c52] at H
         have LMc52 := am_ c52
         clear c52
         obtain ⟨y710, hy710⟩ : ∃ y_ : List (S59), y_ = (x7_2 ++ [(⟨x689000_6, ((rd_T59 l0 (ji3)).f1)⟩ : S59)]) := ⟨_, rfl⟩
         replace H : (some y710) = some r := by first | (rw [hy710]; with_reducible exact H) | (have H2_ := (Option.bind_some _ _).symm.trans H; rw [hy710]; with_reducible exact H2_) | (have H2_ := (Option.bind_some _ _).symm.trans H; with_reducible exact H2_) | with_reducible exact H | (rw [hy710]; exact H) | exact H
         have Ny710 := am_ hy710
         clear hy710
         obtain rfl := Option.some.inj H
         have hcz53_0 := Sh.bc BK688.out 0
         have hcz53_1 := Sh.bc BK688.out 1
         have hfz53_0 := blk_frozen BK688.out 0
         have hfz53_1 := blk_frozen BK688.out 1
         go_wp2_with (first | ((with_reducible refine gate_builtin (b := .append) (xs := #[.tmp 69, .tmp 71]) rfl ?_); at_builtin; refine Kd.R_append k59 (w0 := w) w.heap.size rfl (.tmp 69) (.tmp 71) 27 59 (.agg #[(.int .i64 0), (.int .i64 0)]) 16 rfl Try.underlying27 info59 rfl (by decide) (by omega) u7 x7_2 (⟨x689000_6, ((rd_T59 l0 (ji3)).f1)⟩ : S59) [.int .i64 x689000_6, .int .i64 ((rd_T59 l0 (ji3)).f1)] (fun k_ => k_ ≠ gb688) (fun _ => False) rfl rfl ?aP (fun _ hk => hk.elim) ?aF ?aO ?aB ?aS ?aL ?_; (case aP => exact k59_mkM _ _ _ (⟨x689000_6, ((rd_T59 l0 (ji3)).f1)⟩ : S59)); (case aB => exact Sh.bw); (case aF => exact (fun k_ hk => Kd.freshB (g := gb688) (o := .cells #[.int .i64 x689000_6, .int .i64 ((rd_T59 l0 (ji3)).f1)] 59 (0, 0)) (Sh.pl BK688.out) k_ hk)); (case aO => exact (Sh.rl HO_7.out)); (case aS => exact (below_size Sh.bw)); (case aL => have := LMc52.out; omega); intro v711 w54 ho hb hg hat; rw [← Ny710.out] at ho; have n0_ := am_ (Kd.N_afterv (ok := (fun k_ => k_ ≠ gb688)) (by (with_reducible repeat (first | apply Kd.N_alloc | apply Kd.N_drewN | apply Kd.N_drew)); exact Kd.N_mono HO_57.out (fun _ h => ⟨h.2, h.1⟩)) hg hat); have n1_ := am_ (blk_grown (g := gb688) (o := .cells #[.int .i64 x689000_6, .int .i64 ((rd_T59 l0 (ji3)).f1)] 59 (0, 0)) (Sh.pl BK688.out) hg (Kd.R_away HO_7.out (fun _ hk => hk))); have n2_ := am_ hb; have n3_ := am_ ho; clear HO_57; clear BK688; clear HB; clear HO_7; have HO_57 := n0_; have BK688 := n1_; have HB := n2_; have HO712 := n3_; clear n0_ n1_ n2_ n3_; clear ho hb hg hat))
         go_ret
         exact ⟨_, by first | rfl | (simp [errW_none, errW_some] <;> rfl) | (simp only [← hj1]; first | rfl | (simp [errW_none, errW_some] <;> rfl)) | (simp [*, errW_none, errW_some] <;> rfl), Sh.rl (Kd.R_mono HO712.out (fun _ hk => trivial)), Sh.bw⟩
        ·rw [if_neg c52] at H
         exact absurd H (by simp)
  ·rw [if_neg c5] at H
   exact absurd H (by simp)
 ·rw [if_neg c4] at H
  exact absurd H (by simp)

end Go.Proofs.Ytaacldndbjmekaa.P
