/- Go functions of this seat as Lean functions, and the proofs that the calls come to what these say; printed by a program of this session. No condition. -/
import Derived.Test.YtaacldndbjmekaaP0
import Derived.Test.YtaacldndbjmekaaMFnExactStutterAt1
set_option linter.unusedVariables false
set_option linter.unusedSimpArgs false
set_option maxHeartbeats 40000000
set_option maxRecDepth 100000
namespace Go.Proofs.Ytaacldndbjmekaa.P
open Go.RowKit Go.Proofs.YtaacldndbjmekaaW.PrintWords Go.Proofs.YtaacldndbjmekaaW.PrintLast Go.Proofs.YtaacldndbjmekaaW.PrintMore Go.Proofs.Ytaacldndbjmekaa.Hof
attribute [local go_sem] max2_int min2_int max_two min_two max_three min_three max_four min_four
def slices_Clone_int_int.f (l0 : List (Int)) : Option (List (Int)) := if l0.length < 17592186044416 then some l0 else none
theorem slices_Clone_int_int.calls (A0 : Option Addr) (c0 : Nat) (l0 : List (Int)) (r : List (Int)) (w : World) (hr0 : Kd.C (Kd.int .i64) w A0 l0.length l0) (hc0 : l0.length ≤ c0) (h : slices_Clone_int_int.f l0 = some r) :
  Calls Try.prog 55 #[.slice A0 l0.length c0] w fun e w' => ∃ v0_ : Value, e = .returned (v0_) ∧ Kd.R (Kd.int .i64) 3 w' w.heap.size (fun _ => True) v0_ r ∧ Below w.heap.size w w' := by
 have hlim : l0.length < 17592186044416 := by
  rcases Nat.lt_or_ge l0.length 17592186044416 with h1 | h1
  ·exact h1
  ·rw [slices_Clone_int_int.f, if_neg (by omega)] at h; cases h
 rw [slices_Clone_int_int.f, if_pos hlim] at h
 obtain rfl := Option.some.inj h
 clear h
 cases A0 with
 | none =>
  have hl : l0 = [] := by
   rcases l0 with _ | ⟨x, t⟩
   ·rfl
   ·obtain ⟨ad, e, _⟩ := hr0.2.2 (by simp)
    cases e
  subst hl
  have he : ∀ (w : World) (n c : Nat), (binOp .eql 24 (.slice none n c) (.slice none 0 0)).run Try.prog w = .ok (.bool true) w := fun _ _ _ => rfl
  go_enter Try.func55, Try.ntmps55
  go_wp2
  all_goals (go_ret; exact ⟨_, rfl, Kd.R_nil _ _ _ _ _, Below.refl _ _⟩)
 | some a0 =>
  have HR0 := am_ hr0
  have HC0 := am_ hc0
  clear hr0 hc0
  have HB := am_ (Below.refl w.heap.size w)
  have LM := am_ hlim
  clear hlim
  have he : ∀ (w : World) (n c : Nat), (binOp .eql 24 (.slice (some a0) n c) (.slice none 0 0)).run Try.prog w = .ok (.bool false) w := fun _ _ _ => rfl
  go_enter Try.func55, Try.ntmps55
  go_wp2_with (first | ((with_reducible refine Sh.d 5 ?_); refine Kd.R_lit (Kd.int .i64) _ 3 ?hg (N := 5) ?hd (xs := ([] : List (Int))) (inner := []) (ok := fun _ => True) (okp := fun _ => True) ?hr ?hp (fun _ hk => hk) trivial (Below.refl _ _) (Nat.le_refl _) (by simp) ?_; (case hd => rfl); (case hg => rfl); (case hr => first | (go_simp; done) | (go_simp; rfl)); (case hp => exact (Reps.none _ _)); intro v359 w3 ho4 hb hg_ hnew_; clear hg_ hnew_; have HO360 := am_ (Kd.R_lower ho4 (below_size Sh.bw)); replace HB := Sh.hb hb; clear hb ho4) | ((with_reducible refine gate_builtin (b := .append) (xs := #[.tmp 5, .tmp 6]) rfl ?_); at_builtin; refine Kd.R_append_rows (Kd.int .i64) (w0 := w) w.heap.size rfl (.tmp 5) (.tmp 6) 24 3 (.int .i64 0) 8 rfl Try.underlying24 info3 rfl (by decide) (by omega) v359 [] l0 _ _ _ (fun _ => True) (fun _ => False) rfl rfl ?aO ?aR (fun _ _ h => h) (fun _ h => h.elim) ?aF ?aB ?aS ?aL ?_; (case aR => repeat (first | exact (Kd.C_below HR0.out HB.out) | (with_reducible first | refine Kd.C_alloc ?_ _ | refine Kd.C_drewN ?_ _ | refine Kd.C_drew ?_))); (case aB => exact Sh.bw); (case aF => exact (fun _ _ => trivial)); (case aO => exact (Sh.rl HO360.out)); (case aS => exact (below_size Sh.bw)); (case aL => have := LM.out; simp only [List.length_nil]; omega); intro v362 w5 ho hb hg hat; rw [List.nil_append] at ho; have n0_ := am_ hb; have n1_ := am_ ho; clear HB; clear HO360; have HB := n0_; have HO363 := n1_; clear n0_ n1_; clear ho hb hg hat))
  go_ret
  exact ⟨_, rfl, HO363.out, HB.out⟩
def spec_l9Made.f (k : Nat) (l0_0 : List Int) (l0_1 : List Int) : Option (List Int × List Int × Bool) := (spec_GoodLasso.f k l0_0 l0_1).bind fun t890 => (if t890 = true then (some (l0_0, l0_1, true)) else (some (([] : List Int), ([] : List Int), false)))
theorem spec_l9Made.mono : ∀ a0 a1 k, LeO (spec_l9Made.f k a0 a1) (spec_l9Made.f (k + 1) a0 a1) := by
 intro a0 a1 k
 unfold spec_l9Made.f
 repeat' with_reducible first | apply spec_GoodLasso.mono | exact LeO.refl _ | exact LeO.none _ | apply LeO.ite | refine LeO.bind ?_ fun _ => ?_
theorem spec_l9Made.calls (k : Nat) (P0_0_ : Nat → Prop) (u9000_ : Value) (l0_0 : List Int) (P0_1_ : Nat → Prop) (u9001_ : Value) (l0_1 : List Int) (r1 : List Int) (r2 : List Int) (r3 : Bool) (w0 w : World) (hB : Below w0.heap.size w0 w) (ho0_0 : Kd.R (Kd.int .i64) 3 w w0.heap.size P0_0_ u9000_ l0_0) (hp0_0_0_1 : ∀ k_, P0_0_ k_ → ¬ P0_1_ k_) (ho0_1 : Kd.R (Kd.int .i64) 3 w w0.heap.size P0_1_ u9001_ l0_1) (hp0_1_0_0 : ∀ k_, P0_1_ k_ → ¬ P0_0_ k_) (h : spec_l9Made.f k l0_0 l0_1 = some (r1, r2, r3)) :
  Calls Try.prog 48 #[.agg #[u9000_, u9001_]] w fun e w' => ∃ v0_ v1_ : Value, e = .returned (.tuple #[.agg #[v0_, v1_], .bool r3]) ∧ Kd.R (Kd.int .i64) 3 w' w0.heap.size (fun k_ => ((P0_0_ k_ ∨ P0_1_ k_) ∨ w.heap.size ≤ k_) ∧ some k_ ≠ (v1_ : Value).ownBlock) v0_ r1 ∧ Kd.R (Kd.int .i64) 3 w' w0.heap.size (fun k_ => ((P0_0_ k_ ∨ P0_1_ k_) ∨ w.heap.size ≤ k_) ∧ some k_ ≠ (v0_ : Value).ownBlock) v1_ r2 ∧ Below w0.heap.size w0 w' ∧ Kept w w' (fun k_ => P0_0_ k_ ∨ P0_1_ k_) := by
 have hu37 := Try.underlying37
 have HO0_0 := am_ (show Kd.R (Kd.int .i64) 3 w w0.heap.size (fun k_ => ((P0_0_ k_ ∨ P0_1_ k_) ∨ w.heap.size ≤ k_) ∧ some k_ ≠ (u9001_ : Value).ownBlock) u9000_ l0_0 from Kd.R_mono ho0_0 (fun k_ hk => ⟨(.inl (.inl hk)), fun e_ => hp0_0_0_1 k_ hk (ho0_1.1 k_ e_.symm)⟩))
 have HO0_1 := am_ (show Kd.R (Kd.int .i64) 3 w w0.heap.size (fun k_ => ((P0_0_ k_ ∨ P0_1_ k_) ∨ w.heap.size ≤ k_) ∧ some k_ ≠ (u9000_ : Value).ownBlock) u9001_ l0_1 from Kd.R_mono ho0_1 (fun k_ hk => ⟨(.inl (.inr hk)), fun e_ => hp0_1_0_0 k_ hk (ho0_0.1 k_ e_.symm)⟩))
 have HK := am_ (Kept.refl w (fun k_ => P0_0_ k_ ∨ P0_1_ k_))
 have HW0 := am_ hB.size
 have HB := am_ hB
 clear hB
 have H := h
 clear h
 unfold spec_l9Made.f at H
 obtain ⟨t890, A2, H⟩ := Sh.ba H
 by_cases c3 : t890 = true
 ·subst c3
  rw [if_pos rfl] at H
  simp only [Option.some.injEq, Prod.mk.injEq] at H
  obtain ⟨rfl, rfl, rfl⟩ := H
  obtain ⟨Ao4, co4, eo4⟩ := Kd.R_slice HO0_0.out
  subst eo4
  obtain ⟨Ao5, co5, eo5⟩ := Kd.R_slice HO0_1.out
  subst eo5
  go_enter Try.func48, Try.ntmps48
  go_wp2_with (first | ((with_reducible refine Sh.d 1 ?_); refine Sh.bx (N := 1) (cs := #[.slice Ao4 l0_0.length co4, .slice Ao5 l0_1.length co5]) (t := 37) (h := ?_); intro gb888 hg w6 hbox hb; replace HO0_0 := am_ (Kd.R_below (Sh.rl HO0_0.out) hb); replace HO0_1 := am_ (Kd.R_below (Sh.rl HO0_1.out) hb); have BK888 := am_ hbox; have GW888 := am_ ((by rw [hg]; exact (by first | exact HK.out.1 | exact (show Kept w _ (fun k_ => P0_0_ k_ ∨ P0_1_ k_) from by repeat (first | (with_reducible first | exact HK.out | apply Kept.alloc | apply Kept.drewN | apply Kept.drew) | exact HK.out)).1) : w.heap.size ≤ gb888)); replace HK := am_ (Kept.below (S := (fun k_ => P0_0_ k_ ∨ P0_1_ k_)) (by repeat (first | (with_reducible first | exact HK.out | apply Kept.alloc | apply Kept.drewN | apply Kept.drew) | exact HK.out)) hb); have GE888 := am_ ((by rw [hg]; exact (below_size Sh.bw) : w0.heap.size ≤ gb888)); replace HB := Sh.hb hb; clear hb hbox hg) | ((with_reducible refine Sh.d 2 ?_); refine Sh.bx (N := 2) (cs := #[.slice none 0 0, .slice none 0 0]) (t := 37) (h := ?_); intro gb889 hg w7 hbox hb; replace HO0_0 := am_ (Kd.R_below (Sh.rl HO0_0.out) hb); replace HO0_1 := am_ (Kd.R_below (Sh.rl HO0_1.out) hb); have BK889 := am_ hbox; have GW889 := am_ ((by rw [hg]; exact (by first | exact HK.out.1 | exact (show Kept w _ (fun k_ => P0_0_ k_ ∨ P0_1_ k_) from by repeat (first | (with_reducible first | exact HK.out | apply Kept.alloc | apply Kept.drewN | apply Kept.drew | refine Kept.setCell ?_ (.inr GW888.out) _) | exact HK.out)).1) : w.heap.size ≤ gb889)); replace HK := am_ (Kept.below (S := (fun k_ => P0_0_ k_ ∨ P0_1_ k_)) (by repeat (first | (with_reducible first | exact HK.out | apply Kept.alloc | apply Kept.drewN | apply Kept.drew | refine Kept.setCell ?_ (.inr GW888.out) _) | exact HK.out)) hb); have GE889 := am_ ((by rw [hg]; exact (below_size Sh.bw) : w0.heap.size ≤ gb889)); replace HB := Sh.hb hb; have NB888_889 := am_ (Sh.nl hg BK888.out); have NB889_888 := am_ (Sh.ng hg BK888.out); replace BK888 := Sh.ab BK888 hb; clear hb hbox hg; have hnb8 := NB888_889.out; have hnc8 := NB889_888.out; obtain ⟨hcz9_0, hcz9_1, hfz9_0, hfz9_1⟩ := Sh.b2 BK888.out) | ((with_reducible refine Sh.k 44 ?_); refine Sh.gB (some 5) Try.func44 #[.agg #[.slice Ao4 l0_0.length co4, .slice Ao5 l0_1.length co5]] (spec_GoodLasso.calls k _ _ l0_0 _ _ l0_1 true _ (Sh.cR (Kd.R_reads' HO0_0.out).2.2) (Kd.R_reads' HO0_0.out).2.1 (Sh.cR (Kd.R_reads' HO0_1.out).2.2) (Kd.R_reads' HO0_1.out).2.1 A2.out) fun w10 hb => ?_; replace HO0_0 := am_ (Kd.R_below (Sh.rl HO0_0.out) hb); replace HO0_1 := am_ (Kd.R_below (Sh.rl HO0_1.out) hb); replace BK888 := Sh.ab BK888 hb; replace BK889 := Sh.ab BK889 hb; replace HK := am_ (Kept.below (S := (fun k_ => P0_0_ k_ ∨ P0_1_ k_)) (by repeat (first | (with_reducible first | exact HK.out | apply Kept.alloc | apply Kept.drewN | apply Kept.drew | refine Kept.setCell ?_ (.inr GW888.out) _ | refine Kept.setCell ?_ (.inr GW889.out) _) | exact HK.out)) hb); replace HB := Sh.hb hb; (try clear hb); (try clear hb2); (try clear hk); (try clear hi); obtain ⟨hcz11_0, hcz11_1, hfz11_0, hfz11_1⟩ := Sh.b2 BK888.out; obtain ⟨hcz12_0, hcz12_1, hfz12_0, hfz12_1⟩ := Sh.b2 BK889.out))
  refine bodyPost_ret (results_ct rfl _ _ gb889 37 #[.slice Ao4 l0_0.length co4, .slice Ao5 l0_1.length co5] (0, 0) _ rfl (by refine Sh.pl ?_; refine blk_put (cs := #[.slice Ao4 l0_0.length co4, .slice none 0 0]) ?_ 1 _ rfl; refine Sh.pl ?_; refine blk_put (cs := #[.slice none 0 0, .slice none 0 0]) ?_ 0 _ rfl; refine Sh.pl ?_; exact BK889.out) Try.underlying37 rfl (by kernel_rfl)) rfl ?_
  exact ⟨_, _, by first | rfl | (simp [errW_none, errW_some] <;> rfl) | (simp [*, errW_none, errW_some] <;> rfl), Sh.rl (Kd.R_mono (Kd.R_far (p := ⟨gb889, 1, none⟩) (Kd.R_far (p := ⟨gb889, 0, none⟩) (Kd.R_types HO0_0.out BK889.out (by decide)) (fun _ hk => hk.2) (.slice Ao4 l0_0.length co4)) (fun _ hk => hk.2) (.slice Ao5 l0_1.length co5)) (fun _ h => ⟨h.1.1, h.1.2⟩)), Sh.rl (Kd.R_mono (Kd.R_far (p := ⟨gb889, 1, none⟩) (Kd.R_far (p := ⟨gb889, 0, none⟩) (Kd.R_types HO0_1.out BK889.out (by decide)) (fun _ hk => hk.2) (.slice Ao4 l0_0.length co4)) (fun _ hk => hk.2) (.slice Ao5 l0_1.length co5)) (fun _ h => ⟨h.1.1, h.1.2⟩)), Sh.bw, by repeat (first | (with_reducible first | exact HK.out | apply Kept.alloc | apply Kept.drewN | apply Kept.drew | refine Kept.setCell ?_ (.inr GW888.out) _ | refine Kept.setCell ?_ (.inr GW889.out) _) | exact HK.out)⟩
 ·replace c3 := Bool.eq_false_iff.mpr c3
  subst c3
  rw [Sh.nf] at H
  simp only [Option.some.injEq, Prod.mk.injEq] at H
  obtain ⟨rfl, rfl, rfl⟩ := H
  obtain ⟨Ao13, co13, eo13⟩ := Kd.R_slice HO0_0.out
  subst eo13
  obtain ⟨Ao14, co14, eo14⟩ := Kd.R_slice HO0_1.out
  subst eo14
  go_enter Try.func48, Try.ntmps48
  go_wp2_with (first | ((with_reducible refine Sh.d 1 ?_); refine Sh.bx (N := 1) (cs := #[.slice Ao13 l0_0.length co13, .slice Ao14 l0_1.length co14]) (t := 37) (h := ?_); intro gb888 hg w15 hbox hb; replace HO0_0 := am_ (Kd.R_below (Sh.rl HO0_0.out) hb); replace HO0_1 := am_ (Kd.R_below (Sh.rl HO0_1.out) hb); have BK888 := am_ hbox; have GW888 := am_ ((by rw [hg]; exact (by first | exact HK.out.1 | exact (show Kept w _ (fun k_ => P0_0_ k_ ∨ P0_1_ k_) from by repeat (first | (with_reducible first | exact HK.out | apply Kept.alloc | apply Kept.drewN | apply Kept.drew) | exact HK.out)).1) : w.heap.size ≤ gb888)); replace HK := am_ (Kept.below (S := (fun k_ => P0_0_ k_ ∨ P0_1_ k_)) (by repeat (first | (with_reducible first | exact HK.out | apply Kept.alloc | apply Kept.drewN | apply Kept.drew) | exact HK.out)) hb); have GE888 := am_ ((by rw [hg]; exact (below_size Sh.bw) : w0.heap.size ≤ gb888)); replace HB := Sh.hb hb; clear hb hbox hg) | ((with_reducible refine Sh.d 2 ?_); refine Sh.bx (N := 2) (cs := #[.slice none 0 0, .slice none 0 0]) (t := 37) (h := ?_); intro gb889 hg w16 hbox hb; replace HO0_0 := am_ (Kd.R_below (Sh.rl HO0_0.out) hb); replace HO0_1 := am_ (Kd.R_below (Sh.rl HO0_1.out) hb); have BK889 := am_ hbox; have GW889 := am_ ((by rw [hg]; exact (by first | exact HK.out.1 | exact (show Kept w _ (fun k_ => P0_0_ k_ ∨ P0_1_ k_) from by repeat (first | (with_reducible first | exact HK.out | apply Kept.alloc | apply Kept.drewN | apply Kept.drew | refine Kept.setCell ?_ (.inr GW888.out) _) | exact HK.out)).1) : w.heap.size ≤ gb889)); replace HK := am_ (Kept.below (S := (fun k_ => P0_0_ k_ ∨ P0_1_ k_)) (by repeat (first | (with_reducible first | exact HK.out | apply Kept.alloc | apply Kept.drewN | apply Kept.drew | refine Kept.setCell ?_ (.inr GW888.out) _) | exact HK.out)) hb); have GE889 := am_ ((by rw [hg]; exact (below_size Sh.bw) : w0.heap.size ≤ gb889)); replace HB := Sh.hb hb; have NB888_889 := am_ (Sh.nl hg BK888.out); have NB889_888 := am_ (Sh.ng hg BK888.out); replace BK888 := Sh.ab BK888 hb; clear hb hbox hg; have hnb17 := NB888_889.out; have hnc17 := NB889_888.out; obtain ⟨hcz18_0, hcz18_1, hfz18_0, hfz18_1⟩ := Sh.b2 BK888.out) | ((with_reducible refine Sh.k 44 ?_); refine Sh.gB (some 5) Try.func44 #[.agg #[.slice Ao13 l0_0.length co13, .slice Ao14 l0_1.length co14]] (spec_GoodLasso.calls k _ _ l0_0 _ _ l0_1 false _ (Sh.cR (Kd.R_reads' HO0_0.out).2.2) (Kd.R_reads' HO0_0.out).2.1 (Sh.cR (Kd.R_reads' HO0_1.out).2.2) (Kd.R_reads' HO0_1.out).2.1 A2.out) fun w19 hb => ?_; replace HO0_0 := am_ (Kd.R_below (Sh.rl HO0_0.out) hb); replace HO0_1 := am_ (Kd.R_below (Sh.rl HO0_1.out) hb); replace BK888 := Sh.ab BK888 hb; replace BK889 := Sh.ab BK889 hb; replace HK := am_ (Kept.below (S := (fun k_ => P0_0_ k_ ∨ P0_1_ k_)) (by repeat (first | (with_reducible first | exact HK.out | apply Kept.alloc | apply Kept.drewN | apply Kept.drew | refine Kept.setCell ?_ (.inr GW888.out) _ | refine Kept.setCell ?_ (.inr GW889.out) _) | exact HK.out)) hb); replace HB := Sh.hb hb; (try clear hb); (try clear hb2); (try clear hk); (try clear hi); obtain ⟨hcz20_0, hcz20_1, hfz20_0, hfz20_1⟩ := Sh.b2 BK889.out))
  refine bodyPost_ret (results_ct rfl _ _ gb889 37 #[.slice none 0 0, .slice none 0 0] (0, 0) _ rfl (by refine Sh.pl ?_; refine blk_put (cs := #[.slice none 0 0, .slice none 0 0]) ?_ 1 _ rfl; refine Sh.pl ?_; refine blk_put (cs := #[.slice none 0 0, .slice none 0 0]) ?_ 0 _ rfl; refine Sh.pl ?_; exact BK889.out) Try.underlying37 rfl (by kernel_rfl)) rfl ?_
  exact ⟨_, _, by first | rfl | (simp [errW_none, errW_some] <;> rfl) | (simp [*, errW_none, errW_some] <;> rfl), by first | exact Kd.R_nil _ _ _ _ _ | exact Kd.N_nil _ _ _ _ _ | exact Kd.V_nil _ _ _ _ _ | exact Kd.Q_nil _ _ _ _ _ | exact Kd.S_nil _ _ _ _ _, by first | exact Kd.R_nil _ _ _ _ _ | exact Kd.N_nil _ _ _ _ _ | exact Kd.V_nil _ _ _ _ _ | exact Kd.Q_nil _ _ _ _ _ | exact Kd.S_nil _ _ _ _ _, Sh.bw, by repeat (first | (with_reducible first | exact HK.out | apply Kept.alloc | apply Kept.drewN | apply Kept.drew | refine Kept.setCell ?_ (.inr GW888.out) _ | refine Kept.setCell ?_ (.inr GW889.out) _) | exact HK.out)⟩
def spec_StutterAt.j0 : Nat → Int → Bool → List Int → List Int → Option (List Int × List Int × Bool)
 | 0, _, _, _, _ => none
 | k + 1, x1, x14, x892000, x892001 => if x14 = true then (some (([] : List Int), ([] : List Int), false)) else ((spec_l9First.f k x892000 x892001 0 x1).bind fun t895 => ((spec_l9At.f x892000 x892001 x1).bind fun t898 => (if t895.length < 17592186044416 then ((some (t895 ++ [t898] : List Int)).bind fun y899 => (if x1 < (x892000.length : Int) then (if 0 ≤ x1 then (if x1 ≤ (x892000.length : Int) then (if y899.length + (x892000.drop (x1 : Int).toNat).length < 17592186044416 then ((spec_l1Own.f x892001).bind fun t906 => ((spec_l9Made.f k (y899 ++ (x892000.drop (x1 : Int).toNat)) t906).bind fun bt909 => (some (bt909.1, bt909.2.1, bt909.2.2)))) else (none)) else (none)) else (none)) else ((spec_l9First.f k x892000 x892001 x1 (x892001.length : Int)).bind fun t916 => ((spec_l9Made.f k y899 t916).bind fun bt919 => (some (bt919.1, bt919.2.1, bt919.2.2)))))) else (none))))
def spec_StutterAt.f (k : Nat) (l0_0 : List Int) (l0_1 : List Int) (a1 : Int) : Option (List Int × List Int × Bool) := (spec_GoodLasso.f k l0_0 l0_1).bind fun t893 => (if t893 = true then ((spec_l1In.f a1 0 1000).bind fun t894 => (spec_StutterAt.j0 k a1 (!t894) l0_0 l0_1)) else (spec_StutterAt.j0 k a1 true l0_0 l0_1))
theorem spec_StutterAt.mono_l : ∀ k, (∀ y0 y1 y2 y3, LeO (spec_StutterAt.j0 k y0 y1 y2 y3) (spec_StutterAt.j0 (k + 1) y0 y1 y2 y3))
 | 0 => fun _ _ _ _ r h => by simp [spec_StutterAt.j0] at h
 | k + 1 => by
  have ih0 := spec_StutterAt.mono_l k
  ·intro y0 y1 y2 y3
   unfold spec_StutterAt.j0
   repeat' with_reducible first | apply ih0 | apply spec_GoodLasso.mono | apply spec_l9First.mono | apply spec_l9Made.mono | exact LeO.refl _ | exact LeO.none _ | apply LeO.ite | refine LeO.bind ?_ fun _ => ?_
theorem spec_StutterAt.mono : ∀ a0 a1 a2 k, LeO (spec_StutterAt.f k a0 a1 a2) (spec_StutterAt.f (k + 1) a0 a1 a2) := by
 intro a0 a1 a2 k
 have ih0 := spec_StutterAt.mono_l k
 unfold spec_StutterAt.f
 repeat' with_reducible first | apply ih0 | apply spec_GoodLasso.mono | apply spec_l9First.mono | apply spec_l9Made.mono | exact LeO.refl _ | exact LeO.none _ | apply LeO.ite | refine LeO.bind ?_ fun _ => ?_
def spec_StutterAt.T3 : Bool × List (List Nat × List Nat) := (true, [([], []), ([], []), ([0, 1], [0, 1]), ([], []), ([], []), ([3, 4, 2], [3, 4]), ([5], [5]), ([2, 6, 5], [2, 6]), ([7, 7, 0, 1, 2, 3, 4, 5, 6, 7], [7])])
def spec_StutterAt.B3 : List Nat := [0, 0, 3, 0, 0, 31, 63, 127, 255]
theorem spec_StutterAt.tab3 : rtab .any (opsOf Try.f20 3) = spec_StutterAt.T3 := by kernel_rfl
theorem spec_StutterAt.bits3 : waitsOk spec_StutterAt.T3.2 spec_StutterAt.B3 = true := by kernel_rfl
def spec_StutterAt.T5 : Bool × List (List Nat × List Nat) := (true, [([], []), ([], []), ([1], [1]), ([], []), ([2, 3], [2, 3]), ([0, 4], [0, 4]), ([], []), ([6], [6]), ([7, 5], [7]), ([5, 8], [5, 8]), ([9, 8], [9]), ([10], [10]), ([10], [10]), ([11, 10, 0, 1, 2, 3, 4, 5, 6, 7, 8, 9, 10, 11, 12], [11]), ([12, 13, 0, 1, 2, 3, 4, 5, 6, 7, 8, 9, 10, 11, 12, 13], [12])])
def spec_StutterAt.B5 : List Nat := [0, 0, 2, 0, 14, 31, 0, 64, 255, 511, 1023, 2047, 2047, 8191, 16383]
theorem spec_StutterAt.tab5 : rtab .any (opsOf Try.f20 5) = spec_StutterAt.T5 := by kernel_rfl
theorem spec_StutterAt.bits5 : waitsOk spec_StutterAt.T5.2 spec_StutterAt.B5 = true := by kernel_rfl
theorem spec_StutterAt.calls (k : Nat) (A0_0 : Option Addr) (c0_0 : Nat) (l0_0 : List Int) (A0_1 : Option Addr) (c0_1 : Nat) (l0_1 : List Int) (a1 : Int) (r1 : List Int) (r2 : List Int) (r3 : Bool) (w : World) (hr0_0 : Kd.C (Kd.int .i64) w A0_0 l0_0.length l0_0) (hc0_0 : l0_0.length ≤ c0_0) (hr0_1 : Kd.C (Kd.int .i64) w A0_1 l0_1.length l0_1) (hc0_1 : l0_1.length ≤ c0_1) (h : spec_StutterAt.f k l0_0 l0_1 a1 = some (r1, r2, r3)) :
  Calls Try.prog 20 #[.agg #[.slice A0_0 l0_0.length c0_0, .slice A0_1 l0_1.length c0_1], .int .i64 a1] w fun e w' => ∃ v0_ v1_ : Value, e = .returned (.tuple #[.agg #[v0_, v1_], .bool r3]) ∧ Kd.R (Kd.int .i64) 3 w' w.heap.size (fun k_ => some k_ ≠ (v1_ : Value).ownBlock) v0_ r1 ∧ Kd.R (Kd.int .i64) 3 w' w.heap.size (fun k_ => some k_ ≠ (v0_ : Value).ownBlock) v1_ r2 ∧ Below w.heap.size w w' := by
 have hu37 := Try.underlying37
 have HR0_0 := am_ hr0_0
 have HC0_0 := am_ hc0_0
 clear hr0_0 hc0_0
 have HR0_1 := am_ hr0_1
 have HC0_1 := am_ hc0_1
 clear hr0_1 hc0_1
 have HB := am_ (Below.refl w.heap.size w)
 have H := h
 clear h
 unfold spec_StutterAt.f at H
 have HC3 := am_ H
 clear H
 go_enter Try.func20, Try.ntmps20
 go_upto_region 1 with (first | ((with_reducible refine Sh.d 2 ?_); refine Sh.bz w (N := 2) (cs := #[.slice A0_0 l0_0.length c0_0, .slice A0_1 l0_1.length c0_1]) (t := 37) (h := ?_); clear HB; intro gb891 w4 BK891 GE891 HB) | ((with_reducible refine Sh.d 4 ?_); refine Sh.bx (N := 4) (cs := #[.slice none 0 0, .slice none 0 0]) (t := 37) (h := ?_); intro gb892 hg w5 hbox hb; have BK892 := am_ hbox; have GE892 := Sh.ag w hg; replace HB := Sh.hb hb; have NB891_892 := am_ (Sh.nl hg BK891.out); have NB892_891 := am_ (Sh.ng hg BK891.out); replace BK891 := Sh.ab BK891 hb; clear hb hbox hg))
 (try simp only [Act.put, List.setIfInBounds_toArray, List.set_cons_zero, List.set_cons_succ])
 go_cut [14] (fun v14 wc => ∃ (kq : Nat) (x14_2 : Bool), v14 = .bool x14_2 ∧ Aside0 (spec_StutterAt.j0 kq a1 x14_2 l0_0 l0_1 = some (r1, r2, r3)) ∧ Aside0 (kq ≤ k) ∧ Aside0 (wc.heap[gb891]? = some (.cells #[(.slice A0_0 l0_0.length c0_0), (.slice A0_1 l0_1.length c0_1)] 37 (0, 0))) ∧ Aside0 (wc.heap[gb892]? = some (.cells #[(.slice none 0 0), (.slice none 0 0)] 37 (0, 0))) ∧ Aside0 (Below w.heap.size w wc))
 case first =>
  have H := HC3.out
  clear HC3
  obtain ⟨t893, A6, H⟩ := Sh.ba H
  by_cases c7 : t893 = true
  ·subst c7
   rw [if_pos rfl] at H
   obtain ⟨t894, A8, H⟩ := Sh.ba H
   have H' := am_ H
   clear H
   have hnb9 := NB891_892.out
   have hnc9 := NB892_891.out
   have hcz10_0 := Sh.bc BK891.out 0
   have hcz10_1 := Sh.bc BK891.out 1
   have hfz10_0 := blk_frozen BK891.out 0
   have hfz10_1 := blk_frozen BK891.out 1
   go_wp2_with (first | ((with_reducible refine Sh.k 44 ?_); refine Sh.gB (some 8) Try.func44 #[.agg #[.slice A0_0 l0_0.length c0_0, .slice A0_1 l0_1.length c0_1]] (spec_GoodLasso.calls k _ _ l0_0 _ _ l0_1 true _ (Sh.cB HR0_0.out) HC0_0.out (Sh.cB HR0_1.out) HC0_1.out A6.out) fun w11 hb => ?_; replace BK891 := Sh.ab BK891 hb; replace BK892 := Sh.ab BK892 hb; replace HB := Sh.hb hb; (try clear hb); (try clear hb2); (try clear hk); (try clear hi)) | (go_at_call 45; (with_reducible refine (spec_l1In.calls a1 0 1000 t894 _ A8.out).mono ?_); rintro e w' ⟨rfl, ⟨nd, rfl⟩⟩))
   go_meet
   case rel => exact ⟨_, (!t894), (Sh.es), H', ⟨Sh.om⟩, ⟨by refine Sh.pl ?_; exact BK891.out⟩, ⟨by refine Sh.pl ?_; exact BK892.out⟩, ⟨Sh.bw⟩⟩
  ·replace c7 := Bool.eq_false_iff.mpr c7
   subst c7
   rw [Sh.nf] at H
   have H' := am_ H
   clear H
   have hnb12 := NB891_892.out
   have hnc12 := NB892_891.out
   have hcz13_0 := Sh.bc BK891.out 0
   have hcz13_1 := Sh.bc BK891.out 1
   have hfz13_0 := blk_frozen BK891.out 0
   have hfz13_1 := blk_frozen BK891.out 1
   go_wp2_with (first | ((with_reducible refine Sh.k 44 ?_); refine Sh.gB (some 8) Try.func44 #[.agg #[.slice A0_0 l0_0.length c0_0, .slice A0_1 l0_1.length c0_1]] (spec_GoodLasso.calls k _ _ l0_0 _ _ l0_1 false _ (Sh.cB HR0_0.out) HC0_0.out (Sh.cB HR0_1.out) HC0_1.out A6.out) fun w14 hb => ?_; replace BK891 := Sh.ab BK891 hb; replace BK892 := Sh.ab BK892 hb; replace HB := Sh.hb hb; (try clear hb); (try clear hb2); (try clear hk); (try clear hi)))
   go_meet
   case rel => exact ⟨_, (true), (Sh.es), H', ⟨Sh.om⟩, ⟨by refine Sh.pl ?_; exact BK891.out⟩, ⟨by refine Sh.pl ?_; exact BK892.out⟩, ⟨Sh.bw⟩⟩
 case rest =>
  clear HC3
  try clear hcz10_0
  try clear hcz10_1
  try clear hcz13_0
  try clear hcz13_1
  try clear hfz10_0
  try clear hfz10_1
  try clear hfz13_0
  try clear hfz13_1
  obtain ⟨kq, x14_2, rfl, HA, HJ2, BK891, BK892, HB⟩ := hcut
  cases kq with
  | zero => exact absurd HA.out (by simp [spec_StutterAt.j0])
  | succ kj2 =>
   have H := HA.out
   clear HA
   simp only [spec_StutterAt.j0] at H
   by_cases c15 : x14_2 = true
   ·subst c15
    rw [if_pos rfl] at H
    simp only [Option.some.injEq, Prod.mk.injEq] at H
    obtain ⟨rfl, rfl, rfl⟩ := H
    have hnb16 := NB892_891.out
    have hnc16 := NB891_892.out
    have hcz17_0 := Sh.bc BK892.out 0
    have hcz17_1 := Sh.bc BK892.out 1
    have hfz17_0 := blk_frozen BK892.out 0
    have hfz17_1 := blk_frozen BK892.out 1
    go_wp2
    refine bodyPost_ret (results_ct rfl _ _ gb892 37 #[.slice none 0 0, .slice none 0 0] (0, 0) _ rfl (by refine Sh.pl ?_; refine blk_put (cs := #[.slice none 0 0, .slice none 0 0]) ?_ 1 _ rfl; refine Sh.pl ?_; refine blk_put (cs := #[.slice none 0 0, .slice none 0 0]) ?_ 0 _ rfl; refine Sh.pl ?_; exact BK892.out) Try.underlying37 rfl (by kernel_rfl)) rfl ?_
    exact ⟨_, _, by first | rfl | (simp [errW_none, errW_some] <;> rfl) | (simp [*, errW_none, errW_some] <;> rfl), by first | exact Kd.R_nil _ _ _ _ _ | exact Kd.N_nil _ _ _ _ _ | exact Kd.V_nil _ _ _ _ _ | exact Kd.Q_nil _ _ _ _ _ | exact Kd.S_nil _ _ _ _ _, by first | exact Kd.R_nil _ _ _ _ _ | exact Kd.N_nil _ _ _ _ _ | exact Kd.V_nil _ _ _ _ _ | exact Kd.Q_nil _ _ _ _ _ | exact Kd.S_nil _ _ _ _ _, Sh.bw⟩
   ·replace c15 := Bool.eq_false_iff.mpr c15
    subst c15
    rw [Sh.nf] at H
    obtain ⟨t895, A18, H⟩ := Sh.ba H
    obtain ⟨t898, A19, H⟩ := Sh.ba H
    by_cases c20 : t895.length < 17592186044416
    ·rw [if_pos c20] at H
     have LMc20 := am_ c20
     clear c20
     obtain ⟨y899, hy899⟩ : ∃ y_ : List Int, y_ = (t895 ++ [t898]) := ⟨_, rfl⟩
     replace H : (if a1 < (l0_0.length : Int) then (if 0 ≤ a1 then (if a1 ≤ (l0_0.length : Int) then (if y899.length + (l0_0.drop (a1 : Int).toNat).length < 17592186044416 then ((spec_l1Own.f l0_1).bind fun t906 => ((spec_l9Made.f kj2 (y899 ++ (l0_0.drop (a1 : Int).toNat)) t906).bind fun bt909 => (some (bt909.1, bt909.2.1, bt909.2.2)))) else (none)) else (none)) else (none)) else ((spec_l9First.f kj2 l0_0 l0_1 a1 (l0_1.length : Int)).bind fun t916 => ((spec_l9Made.f kj2 y899 t916).bind fun bt919 => (some (bt919.1, bt919.2.1, bt919.2.2))))) = some (r1, r2, r3) := by first | (rw [hy899]; with_reducible exact H) | (have H2_ := (Option.bind_some _ _).symm.trans H; rw [hy899]; with_reducible exact H2_) | (have H2_ := (Option.bind_some _ _).symm.trans H; with_reducible exact H2_) | with_reducible exact H | (rw [hy899]; exact H) | exact H
     have Ny899 := am_ hy899
     clear hy899
     by_cases c21 : a1 < (l0_0.length : Int)
     ·rw [if_pos c21] at H
      have c21b0 := decide_eq_true c21
      clear c21
      by_cases c22 : 0 ≤ a1
      ·rw [if_pos c22] at H
       have c22b0 := eq_true c22
       have c22b1 := decide_eq_true c22
       clear c22
       by_cases c23 : a1 ≤ (l0_0.length : Int)
       ·rw [if_pos c23] at H
        have c23b0 := eq_true c23
        have c23b1 := decide_eq_true c23
        clear c23
        by_cases c24 : y899.length + (l0_0.drop (a1 : Int).toNat).length < 17592186044416
        ·rw [if_pos c24] at H
         have LMc24 := am_ c24
         clear c24
         obtain ⟨y903, hy903⟩ : ∃ y_ : List Int, y_ = (y899 ++ (l0_0.drop (a1 : Int).toNat)) := ⟨_, rfl⟩
         replace H : ((spec_l1Own.f l0_1).bind fun t906 => ((spec_l9Made.f kj2 y903 t906).bind fun bt909 => (some (bt909.1, bt909.2.1, bt909.2.2)))) = some (r1, r2, r3) := by first | (rw [hy903]; with_reducible exact H) | (have H2_ := (Option.bind_some _ _).symm.trans H; rw [hy903]; with_reducible exact H2_) | (have H2_ := (Option.bind_some _ _).symm.trans H; with_reducible exact H2_) | with_reducible exact H | (rw [hy903]; exact H) | exact H
         have Ny903 := am_ hy903
         clear hy903
         obtain ⟨t906, A25, H⟩ := Sh.ba H
         obtain ⟨⟨t909, t912, t915⟩, A260, H⟩ := Sh.bd H
         have A26 := am_ A260
         clear A260
         simp only [Option.some.injEq, Prod.mk.injEq] at H
         obtain ⟨rfl, rfl, rfl⟩ := H
         try go_wp2
         replace BK891 := am_ (blk_drew BK891.out)
         replace BK892 := am_ (blk_drew BK892.out)
         replace HB := am_ (below_drew1 HB.out)
         refine start_ (n := 9) (S := fun w' => w'.cell? ⟨gb891, 0, none⟩ = some (.slice A0_0 l0_0.length c0_0) ∧ w'.cell? ⟨gb891, 1, none⟩ = some (.slice A0_1 l0_1.length c0_1)) (ds := []) (Sh.nm 9 0) (by kernel_rfl) rfl rfl Sh.cs (fun hHeld => ?_); refine with_tabW spec_StutterAt.tab3 spec_StutterAt.bits3 (fun HT_ HW_ => ?_)
         generalize wc.drew = w27 at BK891 BK892 HB hHeld ⊢
         refine Sh.qA 1 ?_; refine Sh.qA 4 ?_; refine Sh.qT 0 hHeld ?_; refine Sh.qT 3 hHeld ?_
         refine Sh.oC 2 Try.func46 #[.agg #[.slice A0_0 l0_0.length c0_0, .slice A0_1 l0_1.length c0_1], .int .i64 0, .int .i64 a1] fun K hK => ?_
         with_reducible refine (spec_l9First.calls kj2 _ _ l0_0 _ _ l0_1 0 a1 t895 _ (Sh.cB HR0_0.out) HC0_0.out (Sh.cB HR0_1.out) HC0_1.out A18.out).mono ?_
         rintro e w28 ⟨v896, rfl, ho0, hb⟩
         refine ⟨_, rfl, ?_⟩
         have HO897 := am_ (Kd.R_lower ho0 (below_size Sh.bw))
         replace BK891 := Sh.ab BK891 hb
         replace BK892 := Sh.ab BK892 hb
         replace HB := Sh.hb hb
         (try clear hb)
         (try clear hb2)
         (try clear hk)
         (try clear hi)
         (try clear ho0)
         refine Sh.kN hK Sh.cs fun hHeld => ?_
         clear hK K
         refine Sh.oC 5 Try.func47 #[.agg #[.slice A0_0 l0_0.length c0_0, .slice A0_1 l0_1.length c0_1], .int .i64 a1] fun K hK => ?_
         with_reducible refine (spec_l9At.calls _ _ l0_0 _ _ l0_1 a1 t898 _ (Sh.cB HR0_0.out) HC0_0.out (Sh.cB HR0_1.out) HC0_1.out A19.out).mono ?_
         rintro e w29 ⟨rfl, hb⟩
         refine ⟨_, rfl, ?_⟩
         replace HO897 := am_ (Kd.R_below (Sh.rl HO897.out) hb)
         replace BK891 := Sh.ab BK891 hb
         replace BK892 := Sh.ab BK892 hb
         replace HB := Sh.hb hb
         (try clear hb)
         (try clear hb2)
         (try clear hk)
         (try clear hi)
         refine Sh.kN hK Sh.cs fun hHeld => ?_
         clear hK K
         refine one_ (i := 6) (N := some 22) (Sh.nm 9 127) rfl rfl (one_of HT_.out (by kernel_rfl)) (by decide) (fun K hK => ?_)
         refine value_ (w1 := ?_) (v := ?_) (by rfl) rfl ?_ ?_
         rotate_left 2
         ·go_simp
          constructor
          ·rfl
          ·rfl
         refine Sh.kN hK ⟨(blk_cell (blk_alloc BK891.out _) 0).trans rfl, (blk_cell (blk_alloc BK891.out _) 1).trans rfl⟩ fun hHeld => ?_
         clear hK K
         refine one_ (i := 7) (N := some 23) (Sh.nm 9 255) rfl rfl (one_of HT_.out (by kernel_rfl)) (by decide) (fun K hK => ?_)
         refine Kd.R_append_step (Kd.int .i64) (w0 := w) w.heap.size (by rfl) (.tmp 18) (.tmp 22) 24 3 (.int .i64 0) 8 rfl Try.underlying24 info3 rfl (by decide) (by omega) v896 t895 t898 [.int .i64 t898] (fun _ => True) (fun _ => False) rfl rfl ?aP (fun _ hk => hk.elim) ?aF ?aO ?aB ?aS ?aL ?_
         (case aP => exact rfl)
         (case aB => exact Sh.bw)
         (case aF => exact (fun _ _ => trivial))
         (case aO => exact (Sh.rl HO897.out))
         (case aS => exact (below_size Sh.bw))
         (case aL => have := LMc20.out; omega)
         intro v900 w30 ho hb hg hat
         rw [← Ny899.out] at ho
         have n0_ := am_ (blk_grown (g := gb891) (o := .cells #[.slice A0_0 l0_0.length c0_0, .slice A0_1 l0_1.length c0_1] 37 (0, 0)) (Sh.pl BK891.out) hg (Kd.R_ne HO897.out BK891.out (by decide)))
         have n1_ := am_ (blk_grown (g := gb892) (o := .cells #[.slice none 0 0, .slice none 0 0] 37 (0, 0)) (Sh.pl BK892.out) hg (Kd.R_ne HO897.out BK892.out (by decide)))
         have n2_ := am_ hb
         have n3_ := am_ ho
         clear BK891
         clear BK892
         clear HB
         clear HO897
         have BK891 := n0_
         have BK892 := n1_
         have HB := n2_
         have HO901 := n3_
         clear n0_ n1_ n2_ n3_
         clear ho hb hg hat
         refine Sh.kN hK Sh.cs fun hHeld => ?_
         clear hK K
         refine Sh.qA 8 ?_
         refine done_ (done_of HT_.out (by kernel_rfl)) ?_
         have hnb31 := NB891_892.out
         have hnc31 := NB892_891.out
         have hcz32_0 := Sh.bc BK891.out 0
         have hcz32_1 := Sh.bc BK891.out 1
         have hfz32_0 := blk_frozen BK891.out 0
         have hfz32_1 := blk_frozen BK891.out 1
         try go_wp2
         replace HO901 := am_ (Kd.R_drew HO901.out)
         replace BK891 := am_ (blk_drew BK891.out)
         replace BK892 := am_ (blk_drew BK892.out)
         replace HB := am_ (below_drew1 HB.out)
         obtain ⟨i034, hi034, _, hsz34, _⟩ := info_parts info3
         obtain ⟨A34, hcut34, hA34, hC34⟩ := print_drop_of (P := Try.prog) (Value.int .i64) 0 24 3 .i64 Try.underlying24 hi034 hsz34 A0_0 c0_0 l0_0 a1 (of_decide_eq_true (by first | (with_reducible assumption) | assumption)) (of_decide_eq_true (by first | (with_reducible assumption) | assumption)) HC0_0.out
         have HR902 := am_ (Kd.C_of_reads (h1 := fun _ => rfl) (hA34 _ (Kd.reads_of_C HR0_0.out)))
         have HC902 := am_ hC34
         clear hA34 hC34 hi034 hsz34
         refine start_ (n := 15) (S := fun w' => w'.cell? ⟨gb891, 0, none⟩ = some (.slice A0_0 l0_0.length c0_0) ∧ w'.cell? ⟨gb891, 1, none⟩ = some (.slice A0_1 l0_1.length c0_1)) (ds := []) (Sh.nm 15 0) (by kernel_rfl) rfl rfl Sh.cs (fun hHeld => ?_); refine with_tabW spec_StutterAt.tab5 spec_StutterAt.bits5 (fun HT_ HW_ => ?_)
         generalize w30.drew = w33 at HO901 BK891 BK892 HB HR902 hHeld ⊢
         refine Sh.qA 0 ?_; refine Sh.qA 1 ?_; refine Sh.qA 3 ?_; refine Sh.qA 6 ?_; refine Sh.qT 2 hHeld ?_; refine Sh.qA 4 ?_; refine Sh.qT 7 hHeld ?_
         refine one_ (i := 5) (N := some 34) (Sh.nm 15 255) rfl rfl (one_of HT_.out (by kernel_rfl)) (by decide) (fun K hK => ?_)
         refine Kd.R_append_rows_step (Kd.int .i64) (w0 := w) w.heap.size (by rfl) (.tmp 29) (.tmp 33) 24 3 (.int .i64 0) 8 rfl Try.underlying24 info3 rfl (by decide) (by omega) v900 y899 (l0_0.drop (a1 : Int).toNat) _ _ _ (fun _ => True) (fun _ => False) rfl rfl ?aO ?aR (fun _ _ h => h) (fun _ h => h.elim) ?aF ?aB ?aS ?aL ?_
         (case aR => first | (rw [← show (l0_0.drop (a1 : Int).toNat).length = (l0_0.length - a1.toNat) from List.length_drop]; repeat (first | exact (Kd.C_below HR902.out HB.out) | (with_reducible first | refine Kd.C_alloc ?_ _ | refine Kd.C_drewN ?_ _ | refine Kd.C_drew ?_))) | (repeat (first | exact (Kd.C_below HR902.out HB.out) | (with_reducible first | refine Kd.C_alloc ?_ _ | refine Kd.C_drewN ?_ _ | refine Kd.C_drew ?_))))
         (case aB => exact Sh.bw)
         (case aF => exact (fun _ _ => trivial))
         (case aO => exact (Sh.rl HO901.out))
         (case aS => exact (below_size Sh.bw))
         (case aL => have := LMc24.out; have hlx_ := (show (l0_0.drop (a1 : Int).toNat).length = (l0_0.length - a1.toNat) from List.length_drop); omega)
         intro v904 w35 ho hb hg hat
         rw [← Ny903.out] at ho
         have n0_ := am_ (blk_grown (g := gb891) (o := .cells #[.slice A0_0 l0_0.length c0_0, .slice A0_1 l0_1.length c0_1] 37 (0, 0)) (Sh.pl BK891.out) hg (Kd.R_ne HO901.out BK891.out (by decide)))
         have n1_ := am_ (blk_grown (g := gb892) (o := .cells #[.slice none 0 0, .slice none 0 0] 37 (0, 0)) (Sh.pl BK892.out) hg (Kd.R_ne HO901.out BK892.out (by decide)))
         have n2_ := am_ hb
         have n3_ := am_ ho
         clear BK891
         clear BK892
         clear HB
         clear HO901
         have BK891 := n0_
         have BK892 := n1_
         have HB := n2_
         have HO905 := n3_
         clear n0_ n1_ n2_ n3_
         clear ho hb hg hat
         refine Sh.kN hK Sh.cs fun hHeld => ?_
         clear hK K
         refine Sh.oC 8 Try.func49 #[.slice A0_1 l0_1.length c0_1] fun K hK => ?_
         with_reducible refine (spec_l1Own.calls _ _ l0_1 t906 _ (Sh.cB HR0_1.out) HC0_1.out A25.out).mono ?_
         rintro e w36 ⟨v907, rfl, ho0, hb⟩
         refine ⟨_, rfl, ?_⟩
         have HO908 := am_ (Kd.R_lower (Kd.R_new' ho0 (Kd.R_lt (Sh.rl HO905.out))) (below_size Sh.bw))
         replace HO905 := am_ (Kd.R_elder' (Sh.rl HO905.out) (Kd.R_base ho0) hb)
         replace BK891 := Sh.ab BK891 hb
         replace BK892 := Sh.ab BK892 hb
         replace HB := Sh.hb hb
         (try clear hb)
         (try clear hb2)
         (try clear hk)
         (try clear hi)
         (try clear ho0)
         obtain ⟨Ao37, co37, eo37⟩ := Kd.R_slice HO908.out
         (first | subst eo37 | (injection eo37 with f1_ f2_ f3_; have f4_ := f1_.symm; have f5_ := f3_.symm; clear f1_ f2_ f3_; subst f4_; subst f5_))
         obtain ⟨Ao38, co38, eo38⟩ := Kd.R_slice HO905.out
         (first | subst eo38 | (injection eo38 with f1_ f2_ f3_; have f4_ := f1_.symm; have f5_ := f3_.symm; clear f1_ f2_ f3_; subst f4_; subst f5_))
         refine Sh.kN hK Sh.cs fun hHeld => ?_
         clear hK K
         refine Sh.qA 9 ?_
         refine Sh.oC 10 Try.func48 #[.agg #[.slice Ao38 y903.length co38, .slice Ao37 t906.length co37]] fun K hK => ?_
         with_reducible refine (spec_l9Made.calls kj2 (fun k_ => some k_ = (.slice Ao38 y903.length co38 : Value).ownBlock) (.slice Ao38 y903.length co38) y903 (fun k_ => some k_ = (.slice Ao37 t906.length co37 : Value).ownBlock) (.slice Ao37 t906.length co37) t906 t909 t912 t915 w _ ?side1 ?side2 ?side3 ?side4 ?side5 A26.out).mono ?_
         (case side1 => repeat (first | (with_reducible first | exact HB.out | apply below_alloc | apply pw_below_drewN | apply below_drew1 | refine below_set ?_ GE891.out | refine below_set ?_ GE892.out) | exact HB.out))
         (case side2 => exact Kd.R_tight rfl HO905.out)
         (case side3 => exact fun k_ e_ => (HO905.out.1 k_ e_.symm).2)
         (case side4 => exact Kd.R_tight rfl HO908.out)
         (case side5 => exact fun k_ e_ => (HO908.out.1 k_ e_.symm).2)
         rintro e w39 ⟨v910, v913, rfl, ho0, ho1, hb, hkp⟩
         refine ⟨_, rfl, ?_⟩
         have n0_ := am_ (blk_kept (Sh.pl BK891.out) hkp (fun hs_ => Or.elim hs_ (fun e_ => (fun e_ => (Kd.R_ne HO905.out BK891.out (by decide)) e_) e_) (fun e_ => (fun e_ => (Kd.R_ne HO908.out BK891.out (by decide)) e_) e_)))
         have n1_ := am_ (blk_kept (Sh.pl BK892.out) hkp (fun hs_ => Or.elim hs_ (fun e_ => (fun e_ => (Kd.R_ne HO905.out BK892.out (by decide)) e_) e_) (fun e_ => (fun e_ => (Kd.R_ne HO908.out BK892.out (by decide)) e_) e_)))
         have n2_ := am_ (Kd.R_mono (ok' := fun k_ => some k_ ≠ (v913 : Value).ownBlock) ho0 (fun k_ hk_ => hk_.2))
         have n3_ := am_ (Kd.R_mono (ok' := fun k_ => some k_ ≠ (v910 : Value).ownBlock) ho1 (fun k_ hk_ => hk_.2))
         have n4_ := am_ hb
         clear BK891
         clear BK892
         clear HB
         clear HO905
         clear HO908
         have BK891 := n0_
         have BK892 := n1_
         have HO911 := n2_
         have HO914 := n3_
         have HB := n4_
         clear n0_ n1_ n2_ n3_ n4_
         (try clear hb)
         (try clear hkp)
         (try clear ho0)
         (try clear ho1)
         obtain ⟨Ao40, co40, eo40⟩ := Kd.R_slice HO911.out
         (first | subst eo40 | (injection eo40 with f1_ f2_ f3_; have f4_ := f1_.symm; have f5_ := f3_.symm; clear f1_ f2_ f3_; subst f4_; subst f5_))
         obtain ⟨Ao42, co42, eo42⟩ := Kd.R_slice HO914.out
         (first | subst eo42 | (injection eo42 with f1_ f2_ f3_; have f4_ := f1_.symm; have f5_ := f3_.symm; clear f1_ f2_ f3_; subst f4_; subst f5_))
         refine Sh.kN hK Sh.cs fun hHeld => ?_
         clear hK K
         refine Sh.qA 11 ?_; refine Sh.qA 12 ?_
         refine one_ (i := 13) (N := none) (Sh.nm 15 16383) rfl rfl (one_of HT_.out (by kernel_rfl)) (by decide) (fun K hK => ?_)
         have hs41 : w39.cell? ⟨gb892, 0, none⟩ = some (.slice none 0 0) := (blk_cell BK892.out 0).trans rfl
         have hfs41 := blk_frozen BK892.out 0
         have hns41_0 := NB891_892.out
         have hms41_0 := NB892_891.out
         have hs43 : w39.cell? ⟨gb892, 1, none⟩ = some (.slice none 0 0) := (blk_cell BK892.out 1).trans rfl
         have hfs43 := blk_frozen BK892.out 1
         have hns43_0 := NB891_892.out
         have hms43_0 := NB892_891.out
         refine skip_ (w1 := ?_) (by rfl) rfl ?_ ?_
         rotate_left
         ·go_simp
          rfl
         refine hK.out _ _ ⟨((cell_far (p := ⟨gb892, _, none⟩) NB891_892.out _).trans (((cell_far (p := ⟨gb892, _, none⟩) NB891_892.out _).trans (hHeld.1)))), ((cell_far (p := ⟨gb892, _, none⟩) NB891_892.out _).trans (((cell_far (p := ⟨gb892, _, none⟩) NB891_892.out _).trans (hHeld.2))))⟩ (fun hHeld => ?_)
         clear hK K
         refine Sh.qA 14 ?_
         refine done_ (done_of HT_.out (by kernel_rfl)) ?_
         try go_wp2
         refine bodyPost_ret (results_ct rfl _ _ gb892 37 #[.slice Ao40 t909.length co40, .slice Ao42 t912.length co42] (0, 0) _ rfl (by refine Sh.pl ?_; refine blk_put (cs := #[.slice Ao40 t909.length co40, .slice none 0 0]) ?_ 1 _ rfl; refine Sh.pl ?_; refine blk_put (cs := #[.slice none 0 0, .slice none 0 0]) ?_ 0 _ rfl; refine Sh.pl ?_; exact BK892.out) Try.underlying37 rfl (by kernel_rfl)) rfl ?_
         exact ⟨_, _, by first | rfl | (simp [errW_none, errW_some] <;> rfl) | (simp [*, errW_none, errW_some] <;> rfl), Sh.rl (Kd.R_mono (Kd.R_far (p := ⟨gb892, 1, none⟩) (Kd.R_far (p := ⟨gb892, 0, none⟩) (Kd.R_types HO911.out BK892.out (by decide)) (fun _ hk => hk.2) (.slice Ao40 t909.length co40)) (fun _ hk => hk.2) (.slice Ao42 t912.length co42)) (fun _ hk => hk.1)), Sh.rl (Kd.R_mono (Kd.R_far (p := ⟨gb892, 1, none⟩) (Kd.R_far (p := ⟨gb892, 0, none⟩) (Kd.R_types HO914.out BK892.out (by decide)) (fun _ hk => hk.2) (.slice Ao40 t909.length co40)) (fun _ hk => hk.2) (.slice Ao42 t912.length co42)) (fun _ hk => hk.1)), Sh.bw⟩
        ·rw [if_neg c24] at H
         exact absurd H (by simp)
       ·rw [if_neg c23] at H
        exact absurd H (by simp)
      ·rw [if_neg c22] at H
       exact absurd H (by simp)
     ·rw [if_neg c21] at H
      have c21b0 := decide_eq_false c21
      clear c21
      obtain ⟨t916, A44, H⟩ := Sh.ba H
      obtain ⟨⟨t919, t922, t925⟩, A450, H⟩ := Sh.bd H
      have A45 := am_ A450
      clear A450
      simp only [Option.some.injEq, Prod.mk.injEq] at H
      obtain ⟨rfl, rfl, rfl⟩ := H
      try go_wp2
      replace BK891 := am_ (blk_drew BK891.out)
      replace BK892 := am_ (blk_drew BK892.out)
      replace HB := am_ (below_drew1 HB.out)
      refine start_ (n := 9) (S := fun w' => w'.cell? ⟨gb891, 0, none⟩ = some (.slice A0_0 l0_0.length c0_0) ∧ w'.cell? ⟨gb891, 1, none⟩ = some (.slice A0_1 l0_1.length c0_1)) (ds := []) (Sh.nm 9 0) (by kernel_rfl) rfl rfl Sh.cs (fun hHeld => ?_); refine with_tabW spec_StutterAt.tab3 spec_StutterAt.bits3 (fun HT_ HW_ => ?_)
      generalize wc.drew = w46 at BK891 BK892 HB hHeld ⊢
      refine Sh.qA 1 ?_; refine Sh.qA 4 ?_; refine Sh.qT 0 hHeld ?_; refine Sh.qT 3 hHeld ?_
      refine Sh.oC 2 Try.func46 #[.agg #[.slice A0_0 l0_0.length c0_0, .slice A0_1 l0_1.length c0_1], .int .i64 0, .int .i64 a1] fun K hK => ?_
      with_reducible refine (spec_l9First.calls kj2 _ _ l0_0 _ _ l0_1 0 a1 t895 _ (Sh.cB HR0_0.out) HC0_0.out (Sh.cB HR0_1.out) HC0_1.out A18.out).mono ?_
      rintro e w47 ⟨v896, rfl, ho0, hb⟩
      refine ⟨_, rfl, ?_⟩
      have HO897 := am_ (Kd.R_lower ho0 (below_size Sh.bw))
      replace BK891 := Sh.ab BK891 hb
      replace BK892 := Sh.ab BK892 hb
      replace HB := Sh.hb hb
      (try clear hb)
      (try clear hb2)
      (try clear hk)
      (try clear hi)
      (try clear ho0)
      refine Sh.kN hK Sh.cs fun hHeld => ?_
      clear hK K
      refine Sh.oC 5 Try.func47 #[.agg #[.slice A0_0 l0_0.length c0_0, .slice A0_1 l0_1.length c0_1], .int .i64 a1] fun K hK => ?_
      with_reducible refine (spec_l9At.calls _ _ l0_0 _ _ l0_1 a1 t898 _ (Sh.cB HR0_0.out) HC0_0.out (Sh.cB HR0_1.out) HC0_1.out A19.out).mono ?_
      rintro e w48 ⟨rfl, hb⟩
      refine ⟨_, rfl, ?_⟩
      replace HO897 := am_ (Kd.R_below (Sh.rl HO897.out) hb)
      replace BK891 := Sh.ab BK891 hb
      replace BK892 := Sh.ab BK892 hb
      replace HB := Sh.hb hb
      (try clear hb)
      (try clear hb2)
      (try clear hk)
      (try clear hi)
      refine Sh.kN hK Sh.cs fun hHeld => ?_
      clear hK K
      refine one_ (i := 6) (N := some 22) (Sh.nm 9 127) rfl rfl (one_of HT_.out (by kernel_rfl)) (by decide) (fun K hK => ?_)
      refine value_ (w1 := ?_) (v := ?_) (by rfl) rfl ?_ ?_
      rotate_left 2
      ·go_simp
       constructor
       ·rfl
       ·rfl
      refine Sh.kN hK ⟨(blk_cell (blk_alloc BK891.out _) 0).trans rfl, (blk_cell (blk_alloc BK891.out _) 1).trans rfl⟩ fun hHeld => ?_
      clear hK K
      refine one_ (i := 7) (N := some 23) (Sh.nm 9 255) rfl rfl (one_of HT_.out (by kernel_rfl)) (by decide) (fun K hK => ?_)
      refine Kd.R_append_step (Kd.int .i64) (w0 := w) w.heap.size (by rfl) (.tmp 18) (.tmp 22) 24 3 (.int .i64 0) 8 rfl Try.underlying24 info3 rfl (by decide) (by omega) v896 t895 t898 [.int .i64 t898] (fun _ => True) (fun _ => False) rfl rfl ?aP (fun _ hk => hk.elim) ?aF ?aO ?aB ?aS ?aL ?_
      (case aP => exact rfl)
      (case aB => exact Sh.bw)
      (case aF => exact (fun _ _ => trivial))
      (case aO => exact (Sh.rl HO897.out))
      (case aS => exact (below_size Sh.bw))
      (case aL => have := LMc20.out; omega)
      intro v900 w49 ho hb hg hat
      rw [← Ny899.out] at ho
      have n0_ := am_ (blk_grown (g := gb891) (o := .cells #[.slice A0_0 l0_0.length c0_0, .slice A0_1 l0_1.length c0_1] 37 (0, 0)) (Sh.pl BK891.out) hg (Kd.R_ne HO897.out BK891.out (by decide)))
      have n1_ := am_ (blk_grown (g := gb892) (o := .cells #[.slice none 0 0, .slice none 0 0] 37 (0, 0)) (Sh.pl BK892.out) hg (Kd.R_ne HO897.out BK892.out (by decide)))
      have n2_ := am_ hb
      have n3_ := am_ ho
      clear BK891
      clear BK892
      clear HB
      clear HO897
      have BK891 := n0_
      have BK892 := n1_
      have HB := n2_
      have HO901 := n3_
      clear n0_ n1_ n2_ n3_
      clear ho hb hg hat
      refine Sh.kN hK Sh.cs fun hHeld => ?_
      clear hK K
      refine Sh.qA 8 ?_
      refine done_ (done_of HT_.out (by kernel_rfl)) ?_
      have hnb50 := NB891_892.out
      have hnc50 := NB892_891.out
      have hcz51_0 := Sh.bc BK891.out 0
      have hcz51_1 := Sh.bc BK891.out 1
      have hfz51_0 := blk_frozen BK891.out 0
      have hfz51_1 := blk_frozen BK891.out 1
      try go_wp2_with (first | ((with_reducible refine Sh.k 46 ?_); refine Sh.gL (some 48) Try.func46 #[.agg #[.slice A0_0 l0_0.length c0_0, .slice A0_1 l0_1.length c0_1], .int .i64 a1, .int .i64 (l0_1.length : Int)] (h := ?_); (with_reducible refine (spec_l9First.calls kj2 _ _ l0_0 _ _ l0_1 a1 (l0_1.length : Int) t916 _ (Sh.cB HR0_0.out) HC0_0.out (Sh.cB HR0_1.out) HC0_1.out A44.out).mono ?_); rintro e w52 ⟨v917, rfl, ho0, hb⟩; refine ⟨_, rfl, ?_⟩; have HO918 := am_ (Kd.R_lower (Kd.R_new' ho0 (Kd.R_lt (Sh.rl HO901.out))) (below_size Sh.bw)); replace HO901 := am_ (Kd.R_elder' (Sh.rl HO901.out) (Kd.R_base ho0) hb); replace BK891 := Sh.ab BK891 hb; replace BK892 := Sh.ab BK892 hb; replace HB := Sh.hb hb; (try clear hb); (try clear hb2); (try clear hk); (try clear hi); (try clear ho0); obtain ⟨Ao53, co53, eo53⟩ := Kd.R_slice HO918.out; subst eo53; obtain ⟨Ao54, co54, eo54⟩ := Kd.R_slice HO901.out; subst eo54) | ((with_reducible refine Sh.k 48 ?_); refine Sh.gL (some 50) Try.func48 #[.agg #[.slice Ao54 y899.length co54, .slice Ao53 t916.length co53]] (h := ?_); (with_reducible refine (spec_l9Made.calls kj2 (fun k_ => some k_ = (.slice Ao54 y899.length co54 : Value).ownBlock) (.slice Ao54 y899.length co54) y899 (fun k_ => some k_ = (.slice Ao53 t916.length co53 : Value).ownBlock) (.slice Ao53 t916.length co53) t916 t919 t922 t925 w _ ?side1 ?side2 ?side3 ?side4 ?side5 A45.out).mono ?_); (case side1 => repeat (first | (with_reducible first | exact HB.out | apply below_alloc | apply pw_below_drewN | apply below_drew1 | refine below_set ?_ GE891.out | refine below_set ?_ GE892.out) | exact HB.out)); (case side2 => exact Kd.R_tight rfl HO901.out); (case side3 => exact fun k_ e_ => (HO901.out.1 k_ e_.symm).2); (case side4 => exact Kd.R_tight rfl HO918.out); (case side5 => exact fun k_ e_ => (HO918.out.1 k_ e_.symm).2); rintro e w55 ⟨v920, v923, rfl, ho0, ho1, hb, hkp⟩; refine ⟨_, rfl, ?_⟩; have n0_ := am_ (blk_kept (Sh.pl BK891.out) hkp (fun hs_ => Or.elim hs_ (fun e_ => (fun e_ => (Kd.R_ne HO901.out BK891.out (by decide)) e_) e_) (fun e_ => (fun e_ => (Kd.R_ne HO918.out BK891.out (by decide)) e_) e_))); have n1_ := am_ (blk_kept (Sh.pl BK892.out) hkp (fun hs_ => Or.elim hs_ (fun e_ => (fun e_ => (Kd.R_ne HO901.out BK892.out (by decide)) e_) e_) (fun e_ => (fun e_ => (Kd.R_ne HO918.out BK892.out (by decide)) e_) e_))); have n2_ := am_ (Kd.R_mono (ok' := fun k_ => some k_ ≠ (v923 : Value).ownBlock) ho0 (fun k_ hk_ => hk_.2)); have n3_ := am_ (Kd.R_mono (ok' := fun k_ => some k_ ≠ (v920 : Value).ownBlock) ho1 (fun k_ hk_ => hk_.2)); have n4_ := am_ hb; clear BK891; clear BK892; clear HB; clear HO901; clear HO918; have BK891 := n0_; have BK892 := n1_; have HO921 := n2_; have HO924 := n3_; have HB := n4_; clear n0_ n1_ n2_ n3_ n4_; (try clear hb); (try clear hkp); (try clear ho0); (try clear ho1); obtain ⟨Ao56, co56, eo56⟩ := Kd.R_slice HO921.out; subst eo56; obtain ⟨hcz57_0, hcz57_1, hfz57_0, hfz57_1⟩ := Sh.b2 BK892.out; obtain ⟨Ao58, co58, eo58⟩ := Kd.R_slice HO924.out; subst eo58))
      refine bodyPost_ret (results_ct rfl _ _ gb892 37 #[.slice Ao56 t919.length co56, .slice Ao58 t922.length co58] (0, 0) _ rfl (by refine Sh.pl ?_; refine blk_put (cs := #[.slice Ao56 t919.length co56, .slice none 0 0]) ?_ 1 _ rfl; refine Sh.pl ?_; refine blk_put (cs := #[.slice none 0 0, .slice none 0 0]) ?_ 0 _ rfl; refine Sh.pl ?_; exact BK892.out) Try.underlying37 rfl (by kernel_rfl)) rfl ?_
      exact ⟨_, _, by first | rfl | (simp [errW_none, errW_some] <;> rfl) | (simp [*, errW_none, errW_some] <;> rfl), Sh.rl (Kd.R_mono (Kd.R_far (p := ⟨gb892, 1, none⟩) (Kd.R_far (p := ⟨gb892, 0, none⟩) (Kd.R_types HO921.out BK892.out (by decide)) (fun _ hk => hk.2) (.slice Ao56 t919.length co56)) (fun _ hk => hk.2) (.slice Ao58 t922.length co58)) (fun _ hk => hk.1)), Sh.rl (Kd.R_mono (Kd.R_far (p := ⟨gb892, 1, none⟩) (Kd.R_far (p := ⟨gb892, 0, none⟩) (Kd.R_types HO924.out BK892.out (by decide)) (fun _ hk => hk.2) (.slice Ao56 t919.length co56)) (fun _ hk => hk.2) (.slice Ao58 t922.length co58)) (fun _ hk => hk.1)), Sh.bw⟩
    ·rw [if_neg c20] at H
     exact absurd H (by simp)
def impl_checkedLasso.f (l0_0 : List Int) (l0_1 : List Int) : Option (List Int × List Int × Bool) := (impl_GoodLasso.f l0_0 l0_1).bind fun t928 => (if t928 = true then (some (l0_0, l0_1, true)) else (some (([] : List Int), ([] : List Int), false)))
theorem impl_checkedLasso.calls (P0_0_ : Nat → Prop) (u9000_ : Value) (l0_0 : List Int) (P0_1_ : Nat → Prop) (u9001_ : Value) (l0_1 : List Int) (r1 : List Int) (r2 : List Int) (r3 : Bool) (w0 w : World) (hB : Below w0.heap.size w0 w) (ho0_0 : Kd.R (Kd.int .i64) 3 w w0.heap.size P0_0_ u9000_ l0_0) (hp0_0_0_1 : ∀ k_, P0_0_ k_ → ¬ P0_1_ k_) (ho0_1 : Kd.R (Kd.int .i64) 3 w w0.heap.size P0_1_ u9001_ l0_1) (hp0_1_0_0 : ∀ k_, P0_1_ k_ → ¬ P0_0_ k_) (h : impl_checkedLasso.f l0_0 l0_1 = some (r1, r2, r3)) :
  Calls Try.prog 53 #[.agg #[u9000_, u9001_]] w fun e w' => ∃ v0_ v1_ : Value, e = .returned (.tuple #[.agg #[v0_, v1_], .bool r3]) ∧ Kd.R (Kd.int .i64) 3 w' w0.heap.size (fun k_ => ((P0_0_ k_ ∨ P0_1_ k_) ∨ w.heap.size ≤ k_) ∧ some k_ ≠ (v1_ : Value).ownBlock) v0_ r1 ∧ Kd.R (Kd.int .i64) 3 w' w0.heap.size (fun k_ => ((P0_0_ k_ ∨ P0_1_ k_) ∨ w.heap.size ≤ k_) ∧ some k_ ≠ (v0_ : Value).ownBlock) v1_ r2 ∧ Below w0.heap.size w0 w' ∧ Kept w w' (fun k_ => P0_0_ k_ ∨ P0_1_ k_) := by
 have hu37 := Try.underlying37
 have HO0_0 := am_ (show Kd.R (Kd.int .i64) 3 w w0.heap.size (fun k_ => ((P0_0_ k_ ∨ P0_1_ k_) ∨ w.heap.size ≤ k_) ∧ some k_ ≠ (u9001_ : Value).ownBlock) u9000_ l0_0 from Kd.R_mono ho0_0 (fun k_ hk => ⟨(.inl (.inl hk)), fun e_ => hp0_0_0_1 k_ hk (ho0_1.1 k_ e_.symm)⟩))
 have HO0_1 := am_ (show Kd.R (Kd.int .i64) 3 w w0.heap.size (fun k_ => ((P0_0_ k_ ∨ P0_1_ k_) ∨ w.heap.size ≤ k_) ∧ some k_ ≠ (u9000_ : Value).ownBlock) u9001_ l0_1 from Kd.R_mono ho0_1 (fun k_ hk => ⟨(.inl (.inr hk)), fun e_ => hp0_1_0_0 k_ hk (ho0_0.1 k_ e_.symm)⟩))
 have HK := am_ (Kept.refl w (fun k_ => P0_0_ k_ ∨ P0_1_ k_))
 have HW0 := am_ hB.size
 have HB := am_ hB
 clear hB
 have H := h
 clear h
 unfold impl_checkedLasso.f at H
 obtain ⟨t928, A2, H⟩ := Sh.ba H
 by_cases c3 : t928 = true
 ·subst c3
  rw [if_pos rfl] at H
  simp only [Option.some.injEq, Prod.mk.injEq] at H
  obtain ⟨rfl, rfl, rfl⟩ := H
  obtain ⟨Ao4, co4, eo4⟩ := Kd.R_slice HO0_0.out
  subst eo4
  obtain ⟨Ao5, co5, eo5⟩ := Kd.R_slice HO0_1.out
  subst eo5
  go_enter Try.func53, Try.ntmps53
  go_wp2_with (first | ((with_reducible refine Sh.d 1 ?_); refine Sh.bx (N := 1) (cs := #[.slice Ao4 l0_0.length co4, .slice Ao5 l0_1.length co5]) (t := 37) (h := ?_); intro gb926 hg w6 hbox hb; replace HO0_0 := am_ (Kd.R_below (Sh.rl HO0_0.out) hb); replace HO0_1 := am_ (Kd.R_below (Sh.rl HO0_1.out) hb); have BK926 := am_ hbox; have GW926 := am_ ((by rw [hg]; exact (by first | exact HK.out.1 | exact (show Kept w _ (fun k_ => P0_0_ k_ ∨ P0_1_ k_) from by repeat (first | (with_reducible first | exact HK.out | apply Kept.alloc | apply Kept.drewN | apply Kept.drew) | exact HK.out)).1) : w.heap.size ≤ gb926)); replace HK := am_ (Kept.below (S := (fun k_ => P0_0_ k_ ∨ P0_1_ k_)) (by repeat (first | (with_reducible first | exact HK.out | apply Kept.alloc | apply Kept.drewN | apply Kept.drew) | exact HK.out)) hb); have GE926 := am_ ((by rw [hg]; exact (below_size Sh.bw) : w0.heap.size ≤ gb926)); replace HB := Sh.hb hb; clear hb hbox hg) | ((with_reducible refine Sh.d 2 ?_); refine Sh.bx (N := 2) (cs := #[.slice none 0 0, .slice none 0 0]) (t := 37) (h := ?_); intro gb927 hg w7 hbox hb; replace HO0_0 := am_ (Kd.R_below (Sh.rl HO0_0.out) hb); replace HO0_1 := am_ (Kd.R_below (Sh.rl HO0_1.out) hb); have BK927 := am_ hbox; have GW927 := am_ ((by rw [hg]; exact (by first | exact HK.out.1 | exact (show Kept w _ (fun k_ => P0_0_ k_ ∨ P0_1_ k_) from by repeat (first | (with_reducible first | exact HK.out | apply Kept.alloc | apply Kept.drewN | apply Kept.drew | refine Kept.setCell ?_ (.inr GW926.out) _) | exact HK.out)).1) : w.heap.size ≤ gb927)); replace HK := am_ (Kept.below (S := (fun k_ => P0_0_ k_ ∨ P0_1_ k_)) (by repeat (first | (with_reducible first | exact HK.out | apply Kept.alloc | apply Kept.drewN | apply Kept.drew | refine Kept.setCell ?_ (.inr GW926.out) _) | exact HK.out)) hb); have GE927 := am_ ((by rw [hg]; exact (below_size Sh.bw) : w0.heap.size ≤ gb927)); replace HB := Sh.hb hb; have NB926_927 := am_ (Sh.nl hg BK926.out); have NB927_926 := am_ (Sh.ng hg BK926.out); replace BK926 := Sh.ab BK926 hb; clear hb hbox hg; have hnb8 := NB926_927.out; have hnc8 := NB927_926.out; obtain ⟨hcz9_0, hcz9_1, hfz9_0, hfz9_1⟩ := Sh.b2 BK926.out) | ((with_reducible refine Sh.k 51 ?_); refine Sh.gB (some 5) Try.func51 #[.agg #[.slice Ao4 l0_0.length co4, .slice Ao5 l0_1.length co5]] (impl_GoodLasso.calls _ _ l0_0 _ _ l0_1 true _ (Sh.cR (Kd.R_reads' HO0_0.out).2.2) (Kd.R_reads' HO0_0.out).2.1 (Sh.cR (Kd.R_reads' HO0_1.out).2.2) (Kd.R_reads' HO0_1.out).2.1 A2.out) fun w10 hb => ?_; replace HO0_0 := am_ (Kd.R_below (Sh.rl HO0_0.out) hb); replace HO0_1 := am_ (Kd.R_below (Sh.rl HO0_1.out) hb); replace BK926 := Sh.ab BK926 hb; replace BK927 := Sh.ab BK927 hb; replace HK := am_ (Kept.below (S := (fun k_ => P0_0_ k_ ∨ P0_1_ k_)) (by repeat (first | (with_reducible first | exact HK.out | apply Kept.alloc | apply Kept.drewN | apply Kept.drew | refine Kept.setCell ?_ (.inr GW926.out) _ | refine Kept.setCell ?_ (.inr GW927.out) _) | exact HK.out)) hb); replace HB := Sh.hb hb; (try clear hb); (try clear hb2); (try clear hk); (try clear hi); obtain ⟨hcz11_0, hcz11_1, hfz11_0, hfz11_1⟩ := Sh.b2 BK926.out; obtain ⟨hcz12_0, hcz12_1, hfz12_0, hfz12_1⟩ := Sh.b2 BK927.out))
  refine bodyPost_ret (results_ct rfl _ _ gb927 37 #[.slice Ao4 l0_0.length co4, .slice Ao5 l0_1.length co5] (0, 0) _ rfl (by refine Sh.pl ?_; refine blk_put (cs := #[.slice Ao4 l0_0.length co4, .slice none 0 0]) ?_ 1 _ rfl; refine Sh.pl ?_; refine blk_put (cs := #[.slice none 0 0, .slice none 0 0]) ?_ 0 _ rfl; refine Sh.pl ?_; exact BK927.out) Try.underlying37 rfl (by kernel_rfl)) rfl ?_
  exact ⟨_, _, by first | rfl | (simp [errW_none, errW_some] <;> rfl) | (simp [*, errW_none, errW_some] <;> rfl), Sh.rl (Kd.R_mono (Kd.R_far (p := ⟨gb927, 1, none⟩) (Kd.R_far (p := ⟨gb927, 0, none⟩) (Kd.R_types HO0_0.out BK927.out (by decide)) (fun _ hk => hk.2) (.slice Ao4 l0_0.length co4)) (fun _ hk => hk.2) (.slice Ao5 l0_1.length co5)) (fun _ h => ⟨h.1.1, h.1.2⟩)), Sh.rl (Kd.R_mono (Kd.R_far (p := ⟨gb927, 1, none⟩) (Kd.R_far (p := ⟨gb927, 0, none⟩) (Kd.R_types HO0_1.out BK927.out (by decide)) (fun _ hk => hk.2) (.slice Ao4 l0_0.length co4)) (fun _ hk => hk.2) (.slice Ao5 l0_1.length co5)) (fun _ h => ⟨h.1.1, h.1.2⟩)), Sh.bw, by repeat (first | (with_reducible first | exact HK.out | apply Kept.alloc | apply Kept.drewN | apply Kept.drew | refine Kept.setCell ?_ (.inr GW926.out) _ | refine Kept.setCell ?_ (.inr GW927.out) _) | exact HK.out)⟩
 ·replace c3 := Bool.eq_false_iff.mpr c3
  subst c3
  rw [Sh.nf] at H
  simp only [Option.some.injEq, Prod.mk.injEq] at H
  obtain ⟨rfl, rfl, rfl⟩ := H
  obtain ⟨Ao13, co13, eo13⟩ := Kd.R_slice HO0_0.out
  subst eo13
  obtain ⟨Ao14, co14, eo14⟩ := Kd.R_slice HO0_1.out
  subst eo14
  go_enter Try.func53, Try.ntmps53
  go_wp2_with (first | ((with_reducible refine Sh.d 1 ?_); refine Sh.bx (N := 1) (cs := #[.slice Ao13 l0_0.length co13, .slice Ao14 l0_1.length co14]) (t := 37) (h := ?_); intro gb926 hg w15 hbox hb; replace HO0_0 := am_ (Kd.R_below (Sh.rl HO0_0.out) hb); replace HO0_1 := am_ (Kd.R_below (Sh.rl HO0_1.out) hb); have BK926 := am_ hbox; have GW926 := am_ ((by rw [hg]; exact (by first | exact HK.out.1 | exact (show Kept w _ (fun k_ => P0_0_ k_ ∨ P0_1_ k_) from by repeat (first | (with_reducible first | exact HK.out | apply Kept.alloc | apply Kept.drewN | apply Kept.drew) | exact HK.out)).1) : w.heap.size ≤ gb926)); replace HK := am_ (Kept.below (S := (fun k_ => P0_0_ k_ ∨ P0_1_ k_)) (by repeat (first | (with_reducible first | exact HK.out | apply Kept.alloc | apply Kept.drewN | apply Kept.drew) | exact HK.out)) hb); have GE926 := am_ ((by rw [hg]; exact (below_size Sh.bw) : w0.heap.size ≤ gb926)); replace HB := Sh.hb hb; clear hb hbox hg) | ((with_reducible refine Sh.d 2 ?_); refine Sh.bx (N := 2) (cs := #[.slice none 0 0, .slice none 0 0]) (t := 37) (h := ?_); intro gb927 hg w16 hbox hb; replace HO0_0 := am_ (Kd.R_below (Sh.rl HO0_0.out) hb); replace HO0_1 := am_ (Kd.R_below (Sh.rl HO0_1.out) hb); have BK927 := am_ hbox; have GW927 := am_ ((by rw [hg]; exact (by first | exact HK.out.1 | exact (show Kept w _ (fun k_ => P0_0_ k_ ∨ P0_1_ k_) from by repeat (first | (with_reducible first | exact HK.out | apply Kept.alloc | apply Kept.drewN | apply Kept.drew | refine Kept.setCell ?_ (.inr GW926.out) _) | exact HK.out)).1) : w.heap.size ≤ gb927)); replace HK := am_ (Kept.below (S := (fun k_ => P0_0_ k_ ∨ P0_1_ k_)) (by repeat (first | (with_reducible first | exact HK.out | apply Kept.alloc | apply Kept.drewN | apply Kept.drew | refine Kept.setCell ?_ (.inr GW926.out) _) | exact HK.out)) hb); have GE927 := am_ ((by rw [hg]; exact (below_size Sh.bw) : w0.heap.size ≤ gb927)); replace HB := Sh.hb hb; have NB926_927 := am_ (Sh.nl hg BK926.out); have NB927_926 := am_ (Sh.ng hg BK926.out); replace BK926 := Sh.ab BK926 hb; clear hb hbox hg; have hnb17 := NB926_927.out; have hnc17 := NB927_926.out; obtain ⟨hcz18_0, hcz18_1, hfz18_0, hfz18_1⟩ := Sh.b2 BK926.out) | ((with_reducible refine Sh.k 51 ?_); refine Sh.gB (some 5) Try.func51 #[.agg #[.slice Ao13 l0_0.length co13, .slice Ao14 l0_1.length co14]] (impl_GoodLasso.calls _ _ l0_0 _ _ l0_1 false _ (Sh.cR (Kd.R_reads' HO0_0.out).2.2) (Kd.R_reads' HO0_0.out).2.1 (Sh.cR (Kd.R_reads' HO0_1.out).2.2) (Kd.R_reads' HO0_1.out).2.1 A2.out) fun w19 hb => ?_; replace HO0_0 := am_ (Kd.R_below (Sh.rl HO0_0.out) hb); replace HO0_1 := am_ (Kd.R_below (Sh.rl HO0_1.out) hb); replace BK926 := Sh.ab BK926 hb; replace BK927 := Sh.ab BK927 hb; replace HK := am_ (Kept.below (S := (fun k_ => P0_0_ k_ ∨ P0_1_ k_)) (by repeat (first | (with_reducible first | exact HK.out | apply Kept.alloc | apply Kept.drewN | apply Kept.drew | refine Kept.setCell ?_ (.inr GW926.out) _ | refine Kept.setCell ?_ (.inr GW927.out) _) | exact HK.out)) hb); replace HB := Sh.hb hb; (try clear hb); (try clear hb2); (try clear hk); (try clear hi); obtain ⟨hcz20_0, hcz20_1, hfz20_0, hfz20_1⟩ := Sh.b2 BK927.out))
  refine bodyPost_ret (results_ct rfl _ _ gb927 37 #[.slice none 0 0, .slice none 0 0] (0, 0) _ rfl (by refine Sh.pl ?_; refine blk_put (cs := #[.slice none 0 0, .slice none 0 0]) ?_ 1 _ rfl; refine Sh.pl ?_; refine blk_put (cs := #[.slice none 0 0, .slice none 0 0]) ?_ 0 _ rfl; refine Sh.pl ?_; exact BK927.out) Try.underlying37 rfl (by kernel_rfl)) rfl ?_
  exact ⟨_, _, by first | rfl | (simp [errW_none, errW_some] <;> rfl) | (simp [*, errW_none, errW_some] <;> rfl), by first | exact Kd.R_nil _ _ _ _ _ | exact Kd.N_nil _ _ _ _ _ | exact Kd.V_nil _ _ _ _ _ | exact Kd.Q_nil _ _ _ _ _ | exact Kd.S_nil _ _ _ _ _, by first | exact Kd.R_nil _ _ _ _ _ | exact Kd.N_nil _ _ _ _ _ | exact Kd.V_nil _ _ _ _ _ | exact Kd.Q_nil _ _ _ _ _ | exact Kd.S_nil _ _ _ _ _, Sh.bw, by repeat (first | (with_reducible first | exact HK.out | apply Kept.alloc | apply Kept.drewN | apply Kept.drew | refine Kept.setCell ?_ (.inr GW926.out) _ | refine Kept.setCell ?_ (.inr GW927.out) _) | exact HK.out)⟩
def slices_Insert_int_int.f (l0 : List Int) (a1 : Int) (l2 : List Int) : Option (List Int) := if 0 ≤ a1 ∧ a1 < (l0.length : Int) ∧ l2.length = 1 ∧ l0.length < 1099511627776 then some (l0.take a1.toNat ++ l2 ++ l0.drop a1.toNat) else none
theorem slices_Insert_int_int.at_ {cur : Array Value} {n : Nat} {xs : List Value} (h : cur.toList.take n = xs) (j : Nat) (v : Value) (hv : xs[j]? = some v) : cur[j]? = some v := by
 rw [← h, List.getElem?_take] at hv
 split at hv
 ·simpa using hv
 ·cases hv
theorem slices_Insert_int_int.one_ {l : List Int} {v : Value} (hv : v ∈ l.map (Value.int .i64)) : v.oneCell' = true := by
 obtain ⟨x, _, rfl⟩ := List.mem_map.1 hv
 rfl
theorem slices_Insert_int_int.in_ {X V U c1 c2 : List Value} {n i : Nat} (hV : X.take n = V) (hn : V.length = n) (hi : i < n) (hX : n + 1 ≤ X.length) (hU : U.length = 1) (h1 : c1 = X.take (0 + (i + 1)) ++ V.drop i ++ X.drop (0 + (i + 1) + (V.drop i).length)) (h2 : c2 = c1.take (0 + i) ++ U ++ c1.drop (0 + i + U.length)) : c2.take (n + 1) = V.take i ++ U ++ V.drop i := by
 have lt : (X.take (i + 1)).length = i + 1 := by rw [List.length_take]; omega
 have B : (c1.drop (i + 1)).take (n - i) = V.drop i := by rw [h1, Nat.zero_add, List.append_assoc, List.drop_left' lt, List.take_left' (by rw [List.length_drop]; omega)]
 have A : c1.take i = V.take i := by rw [h1, Nat.zero_add, List.append_assoc, List.take_append_of_le_length (by omega), List.take_take, Nat.min_eq_left (by omega), ← hV, List.take_take, Nat.min_eq_left (by omega)]
 have hl : (V.take i ++ U).length = i + 1 := by rw [List.length_append, List.length_take]; omega
 rw [h2, Nat.zero_add, hU, A, List.take_append, List.take_of_length_le (by omega), hl, show n + 1 - (i + 1) = n - i by omega, B]
theorem slices_Insert_int_int.new_ {X V U c1 c2 : List Value} {n i : Nat} (hA : X.take i = V.take i) (hn : V.length = n) (hi : i < n) (hU : U.length = 1) (h1 : c1 = X.take i ++ U ++ X.drop (i + U.length)) (h2 : c2 = c1.take (i + 1) ++ V.drop i ++ c1.drop (i + 1 + (V.drop i).length)) : c2.take (n + 1) = V.take i ++ U ++ V.drop i := by
 have hl : (V.take i ++ U).length = i + 1 := by rw [List.length_append, List.length_take]; omega
 have A : c1.take (i + 1) = V.take i ++ U := by rw [h1, hA, List.take_left' hl]
 rw [h2, A, List.take_left' (by rw [List.length_append, hl, List.length_drop]; omega)]
theorem slices_Insert_int_int.map_ (l0 l2 : List Int) (i : Nat) : (l0.map (Value.int .i64)).take i ++ l2.map (Value.int .i64) ++ (l0.map (Value.int .i64)).drop i = (l0.take i ++ l2 ++ l0.drop i).map (Value.int .i64) := by
 rw [List.map_append, List.map_append, List.map_take, List.map_drop]
theorem slices_Insert_int_int.calls (P0_ : Nat → Prop) (u9000_ : Value) (l0 : List Int) (a1 : Int) (P2_ : Nat → Prop) (u9001_ : Value) (l2 : List Int) (r1 : List Int) (w0 w : World) (hB : Below w0.heap.size w0 w) (ho0 : Kd.R (Kd.int .i64) 3 w w0.heap.size P0_ u9000_ l0) (hp0_2 : ∀ k_, P0_ k_ → ¬ P2_ k_) (ho2 : Kd.R (Kd.int .i64) 3 w w0.heap.size P2_ u9001_ l2) (hp2_0 : ∀ k_, P2_ k_ → ¬ P0_ k_) (h : slices_Insert_int_int.f l0 a1 l2 = some r1) :
  Calls Try.prog 54 #[u9000_, .int .i64 a1, u9001_] w fun e w' => ∃ v0_ : Value, e = .returned (v0_) ∧ Kd.R (Kd.int .i64) 3 w' w0.heap.size (fun k_ => ((P0_ k_ ∨ P2_ k_) ∨ w.heap.size ≤ k_)) v0_ r1 ∧ Below w0.heap.size w0 w' ∧ Kept w w' (fun k_ => P0_ k_ ∨ P2_ k_) := by
 have hf : 0 ≤ a1 ∧ a1 < (l0.length : Int) ∧ l2.length = 1 ∧ l0.length < 1099511627776 := by
  rcases Decidable.em (0 ≤ a1 ∧ a1 < (l0.length : Int) ∧ l2.length = 1 ∧ l0.length < 1099511627776) with h1 | h1
  ·exact h1
  ·rw [slices_Insert_int_int.f, if_neg h1] at h; cases h
 rw [slices_Insert_int_int.f, if_pos hf] at h
 obtain rfl := Option.some.inj h
 obtain ⟨h0, h1, h2, h3⟩ := hf
 obtain ⟨i, rfl⟩ := Int.eq_ofNat_of_zero_le h0
 have hi : i < l0.length := by omega
 have hok0 := ho0.1
 have hok2 := ho2.1
 obtain ⟨hl0, ⟨_, hz⟩ | ⟨g, cap, cur, rfl, hbase, hb, k1, k2, k3, k4⟩⟩ := Kd.own_of_R ho0
 ·omega
 obtain ⟨hl2, ⟨_, hz⟩ | ⟨g2, cap2, cur2, rfl, hbase2, hb2, q1, q2, q3, q4⟩⟩ := Kd.own_of_R ho2
 ·omega
 have hne : g2 ≠ g := fun e => hp0_2 g (hok0 g rfl) (e ▸ hok2 g2 rfl)
 have t0 : cur.toList.take l0.length = l0.map (Value.int .i64) := by rw [Nat.mul_one] at k4; exact k4
 have t2 : cur2.toList.take l2.length = l2.map (Value.int .i64) := by rw [Nat.mul_one] at q4; exact q4
 have hs0 : ∀ j v, (l0.map (Value.int .i64))[j]? = some v → w.cell? ⟨g, 0 + j, none⟩ = some v := fun j v hv => by rw [Nat.zero_add, blk_cell hb]; exact slices_Insert_int_int.at_ t0 j v hv
 have hs2 : ∀ j v, (l2.map (Value.int .i64))[j]? = some v → w.cell? ⟨g2, 0 + j, none⟩ = some v := fun j v hv => by rw [Nat.zero_add, blk_cell hb2]; exact slices_Insert_int_int.at_ t2 j v hv
 have hlen : (l0.take i ++ l2 ++ l0.drop i).length = l0.length + 1 := by simp; omega
 have htn : ((i : Nat) : Int).toNat = i := Int.toNat_natCast i
 rw [htn]
 rw [Nat.mul_one] at k3 q3
 have hm : cap ≤ 9223372036854775807 := by unfold maxLen at k2; omega
 by_cases hroom : l0.length + 1 ≤ cap
 ·have C := Any2.slices_Insert_int_shift Try.laysNm221 g 0 l0.length cap i g2 0 1 cap2 (l0.map (Value.int .i64)) (l2.map (Value.int .i64)) w hi (by omega) hroom hm hne (by simp) (by simpa using h2) hs0
   (fun j hj => by rw [Nat.zero_add, blk_cell hb, Array.getElem?_eq_getElem (show j < cur.size by omega)]; rfl) (fun j _ => blk_frozen hb _) hs2 (fun v hv => slices_Insert_int_int.one_ hv) (fun v hv => slices_Insert_int_int.one_ hv) 3 3 cur2.size cur.size (by simp [World.shape?, hb2]) (by simp [World.shape?, hb]) (by omega) (blk_frozen hb2 _) (blk_frozen hb2 _)
  rw [h2]
  refine C.mono ?_
  rintro e w' ⟨rfl, rfl⟩
  have e3 : cur.toList.length = cap := by rw [Array.length_toList, k3]
  have hbd : w.drew.heap[g]? = some (.cells cur 3 (0, 0)) := hb
  obtain ⟨c1, x1, x2, x3⟩ := setCells_row ((l0.map (Value.int .i64)).drop i) (0 + (i + 1)) w.drew cur hbd (by simp; omega)
  obtain ⟨c2, y1, y2, y3⟩ := setCells_row (l2.map (Value.int .i64)) (0 + i) _ c1 x1 (by simp; omega)
  have hg : w.grownBy ((w.drew.setCells g (0 + (i + 1)) ((l0.map (Value.int .i64)).drop i)).setCells g (0 + i) (l2.map (Value.int .i64))) (some g) := by
   obtain ⟨a1, a2, a3, a4⟩ := setCells_same g ((l0.map (Value.int .i64)).drop i) (0 + (i + 1)) w.drew
   obtain ⟨b1, b2, b3, b4⟩ := setCells_same g (l2.map (Value.int .i64)) (0 + i) (w.drew.setCells g (0 + (i + 1)) ((l0.map (Value.int .i64)).drop i))
   refine ⟨b1.trans a1, b2.trans a2, b3.trans a3, by rw [b4, a4]; exact Nat.le_refl _, fun k hk hn => ?_⟩
   have hkg : k ≠ g := fun e => hn (by rw [e])
   rw [setCells_far _ _ k hkg, setCells_far _ _ k hkg]; rfl
  have hc : c2.toList.take (l0.length + 1) = (l0.take i ++ l2 ++ l0.drop i).map (Value.int .i64) := by
   rw [← slices_Insert_int_int.map_]
   exact slices_Insert_int_int.in_ t0 (by simp) hi (by omega) (by simpa using h2) x3 y3
  have own : ((w.drew.setCells g (0 + (i + 1)) ((l0.map (Value.int .i64)).drop i)).setCells g (0 + i) (l2.map (Value.int .i64))).ownsRow w0.heap.size 3 1 (.slice (some ⟨g, 0, none⟩) (l0.length + 1) cap) (l0.take i ++ l2 ++ l0.drop i).length (encs (Value.int .i64) (l0.take i ++ l2 ++ l0.drop i)) :=
   ⟨by show (List.map _ _).length = _; rw [List.length_map, Nat.mul_one], .inr ⟨g, cap, c2, by rw [hlen], hbase, y1, by rw [hlen]; exact hroom, k2, by rw [y2, x2, k3, Nat.mul_one], by rw [Nat.mul_one, hlen]; exact hc⟩⟩
  refine ⟨_, rfl, Kd.R_of_own (h1 := fun _ => rfl) own (fun k hk => .inl (.inl (hok0 k hk))), hB.grown hg hB.size (fun k hk => by cases hk; exact hbase), Kept.of_grown (S := fun k_ => P0_ k_ ∨ P2_ k_) hg (Kept.refl _ _) (fun k e_ => .inl (.inl (hok0 k e_)))⟩
 ·have C : Calls Try.prog 54 #[.slice (some ⟨g, 0, none⟩) l0.length cap, .int .i64 i, .slice (some ⟨g2, 0, none⟩) 1 cap2] w fun e w' => e = .returned (.slice (some ⟨w.heap.size, 0, none⟩) (l0.length + 1) (grownCap w (l0.length + 1) cap 3)) ∧
    w' = (((w.alloc (.cells (((l0.map (Value.int .i64)).take i).toArray ++ Builtin.zeroCells (Value.int .i64 0).cells (l0.length + 1 - i) ++ Builtin.zeroCells (Value.int .i64 0).cells (grownCap w (l0.length + 1) cap 3 - (l0.length + 1))) 3)).drew.setCells w.heap.size i (l2.map (Value.int .i64))).drew).setCells w.heap.size (i + 1) ((l0.map (Value.int .i64)).drop i) :=
   Any2.slices_Insert_int_grow Try.laysNm221 g 0 l0.length cap i g2 0 1 cap2 (l0.map (Value.int .i64)) (l2.map (Value.int .i64)) w hi (by omega) k1 (by omega) (by omega) (by simp) (by simpa using h2) hs0 hs2 (fun v hv => slices_Insert_int_int.one_ hv) (fun v hv => slices_Insert_int_int.one_ hv)
  rw [h2]
  have g1 := grownCap_ge w (l0.length + 1) cap 3
  have g2_ := grownCap_le_maxLen w (l0.length + 1) cap 3 (by unfold maxLen; omega)
  generalize grownCap w (l0.length + 1) cap 3 = G at g1 g2_ C
  have hz1 : ∀ n, (Builtin.zeroCells (Value.int .i64 0).cells n).size = n := fun n => by simp [Builtin.zeroCells, Value.cells]
  generalize hA : ((l0.map (Value.int .i64)).take i).toArray ++ Builtin.zeroCells (Value.int .i64 0).cells (l0.length + 1 - i) ++ Builtin.zeroCells (Value.int .i64 0).cells (G - (l0.length + 1)) = Ar at C
  refine C.mono ?_
  rintro e w' ⟨rfl, rfl⟩
  have hAs : Ar.size = G := by rw [← hA, Array.size_append, Array.size_append, hz1, hz1, List.size_toArray, List.length_take, List.length_map]; omega
  have hAt : Ar.toList.take i = (l0.map (Value.int .i64)).take i := by
   rw [← hA, Array.toList_append, Array.toList_append, List.append_assoc, List.toList_toArray, List.take_left' (by rw [List.length_take, List.length_map]; omega)]
  have hb0 : ((w.alloc (.cells Ar 3)).drew).heap[w.heap.size]? = some (.cells Ar 3 (0, 0)) := heap_alloc_new w _
  obtain ⟨c1, x1, x2, x3⟩ := setCells_row (l2.map (Value.int .i64)) i _ Ar hb0 (by simp; omega)
  have x1d : (((w.alloc (.cells Ar 3)).drew.setCells w.heap.size i (l2.map (Value.int .i64))).drew).heap[w.heap.size]? = some (.cells c1 3 (0, 0)) := x1
  obtain ⟨c2, y1, y2, y3⟩ := setCells_row ((l0.map (Value.int .i64)).drop i) (i + 1) _ c1 x1d (by simp; omega)
  have hg : w.grownBy ((((w.alloc (.cells Ar 3)).drew.setCells w.heap.size i (l2.map (Value.int .i64))).drew).setCells w.heap.size (i + 1) ((l0.map (Value.int .i64)).drop i)) none := by
   obtain ⟨a1, a2, a3, a4⟩ := setCells_same w.heap.size (l2.map (Value.int .i64)) i (w.alloc (.cells Ar 3)).drew
   obtain ⟨b1, b2, b3, b4⟩ := setCells_same w.heap.size ((l0.map (Value.int .i64)).drop i) (i + 1) (((w.alloc (.cells Ar 3)).drew.setCells w.heap.size i (l2.map (Value.int .i64))).drew)
   refine ⟨b1.trans a1, b2.trans a2, b3.trans a3, by rw [b4]; show w.heap.size ≤ ((w.alloc (.cells Ar 3)).drew.setCells w.heap.size i (l2.map (Value.int .i64))).heap.size; rw [a4]; exact (below_alloc (Below.refl _ w) _).size, fun k hk hn => ?_⟩
   have hkg : k ≠ w.heap.size := by omega
   rw [setCells_far _ _ k hkg]
   show ((w.alloc (.cells Ar 3)).drew.setCells w.heap.size i (l2.map (Value.int .i64))).heap[k]? = _
   rw [setCells_far _ _ k hkg]
   exact heap_alloc_old w _ hk
  have hc : c2.toList.take (l0.length + 1) = (l0.take i ++ l2 ++ l0.drop i).map (Value.int .i64) := by
   rw [← slices_Insert_int_int.map_]
   exact slices_Insert_int_int.new_ hAt (by simp) hi (by simpa using h2) x3 y3
  have own : ((((w.alloc (.cells Ar 3)).drew.setCells w.heap.size i (l2.map (Value.int .i64))).drew).setCells w.heap.size (i + 1) ((l0.map (Value.int .i64)).drop i)).ownsRow w0.heap.size 3 1 (.slice (some ⟨w.heap.size, 0, none⟩) (l0.length + 1) G) (l0.take i ++ l2 ++ l0.drop i).length (encs (Value.int .i64) (l0.take i ++ l2 ++ l0.drop i)) :=
   ⟨by show (List.map _ _).length = _; rw [List.length_map, Nat.mul_one], .inr ⟨w.heap.size, G, c2, by rw [hlen], hB.size, y1, by rw [hlen]; exact g1, g2_, by rw [y2, x2, hAs, Nat.mul_one], by rw [Nat.mul_one, hlen]; exact hc⟩⟩
  refine ⟨_, rfl, Kd.R_of_own (h1 := fun _ => rfl) own (fun k hk => .inr (by cases hk; exact Nat.le_refl _)), hB.grown hg hB.size (fun k hk => by cases hk), Kept.of_grown (S := fun k_ => P0_ k_ ∨ P2_ k_) hg (Kept.refl _ _) (fun k e_ => by cases e_)⟩
def impl_Lasso_unroll.l0 : Nat → List Int → Int → Int → List Int → List Int → Option (List Int)
 | 0, _, _, _, _, _ => none
 | k + 1, x5, x8, x9, x938000, x938001 => if x9 < x8 then ((impl_Lasso_letterAt.f x938000 x938001 x9).bind fun t941 => (if x5.length < 17592186044416 then (impl_Lasso_unroll.l0 k (x5 ++ [t941]) x8 (wrap64 (x9 + 1)) x938000 x938001) else (none))) else (some x5)
def impl_Lasso_unroll.f (k : Nat) (l0_0 : List Int) (l0_1 : List Int) (a1 : Int) : Option (List Int) := impl_Lasso_unroll.l0 k (([] : List Int)) a1 0 l0_0 l0_1
theorem impl_Lasso_unroll.mono_l : ∀ k, (∀ y0 y1 y2 y3 y4, LeO (impl_Lasso_unroll.l0 k y0 y1 y2 y3 y4) (impl_Lasso_unroll.l0 (k + 1) y0 y1 y2 y3 y4))
 | 0 => fun _ _ _ _ _ r h => by simp [impl_Lasso_unroll.l0] at h
 | k + 1 => by
  have ih0 := impl_Lasso_unroll.mono_l k
  ·intro y0 y1 y2 y3 y4
   unfold impl_Lasso_unroll.l0
   repeat' with_reducible first | apply ih0 | exact LeO.refl _ | exact LeO.none _ | apply LeO.ite | refine LeO.bind ?_ fun _ => ?_
theorem impl_Lasso_unroll.mono : ∀ a0 a1 a2 k, LeO (impl_Lasso_unroll.f k a0 a1 a2) (impl_Lasso_unroll.f (k + 1) a0 a1 a2) := by
 intro a0 a1 a2 k
 have ih0 := impl_Lasso_unroll.mono_l k
 unfold impl_Lasso_unroll.f
 repeat' with_reducible first | apply ih0 | exact LeO.refl _ | exact LeO.none _ | apply LeO.ite | refine LeO.bind ?_ fun _ => ?_
theorem impl_Lasso_unroll.calls (k : Nat) (A0_0 : Option Addr) (c0_0 : Nat) (l0_0 : List Int) (A0_1 : Option Addr) (c0_1 : Nat) (l0_1 : List Int) (a1 : Int) (r : List Int) (w : World) (hr0_0 : Kd.C (Kd.int .i64) w A0_0 l0_0.length l0_0) (hc0_0 : l0_0.length ≤ c0_0) (hr0_1 : Kd.C (Kd.int .i64) w A0_1 l0_1.length l0_1) (hc0_1 : l0_1.length ≤ c0_1) (h : impl_Lasso_unroll.f k l0_0 l0_1 a1 = some r) :
  Calls Try.prog 56 #[.agg #[.slice A0_0 l0_0.length c0_0, .slice A0_1 l0_1.length c0_1], .int .i64 a1] w fun e w' => ∃ v0_ : Value, e = .returned (v0_) ∧ Kd.R (Kd.int .i64) 3 w' w.heap.size (fun _ => True) v0_ r ∧ Below w.heap.size w w' := by
 have hu37 := Try.underlying37
 have HR0_0 := am_ hr0_0
 have HC0_0 := am_ hc0_0
 clear hr0_0 hc0_0
 have HR0_1 := am_ hr0_1
 have HC0_1 := am_ hc0_1
 clear hr0_1 hc0_1
 have HB := am_ (Below.refl w.heap.size w)
 have H := h
 clear h
 unfold impl_Lasso_unroll.f at H
 obtain ⟨y938, hy938⟩ : ∃ y_ : List Int, y_ = (([] : List Int)) := ⟨_, rfl⟩
 replace H : (impl_Lasso_unroll.l0 k y938 a1 0 l0_0 l0_1) = some r := by first | (rw [hy938]; with_reducible exact H) | (have H2_ := (Option.bind_some _ _).symm.trans H; rw [hy938]; with_reducible exact H2_) | (have H2_ := (Option.bind_some _ _).symm.trans H; with_reducible exact H2_) | with_reducible exact H | (rw [hy938]; exact H) | exact H
 have Ny938 := am_ hy938
 clear hy938
 have H' := am_ H
 clear H
 go_enter Try.func56, Try.ntmps56
 go_wp2_with (first | ((with_reducible refine Sh.d 2 ?_); refine Sh.bz w (N := 2) (cs := #[.slice A0_0 l0_0.length c0_0, .slice A0_1 l0_1.length c0_1]) (t := 37) (h := ?_); clear HB; intro gb937 w3 BK937 GE937 HB) | ((with_reducible refine Sh.d 7 ?_); refine Kd.R_lit (Kd.int .i64) _ 3 ?hg (N := 7) ?hd (xs := ([] : List Int)) (inner := []) (ok := fun _ => True) (okp := fun _ => True) ?hr ?hp (fun _ hk => hk) trivial (Below.refl _ _) (Nat.le_refl _) (by simp) ?_; (case hd => rfl); (case hg => rfl); (case hr => first | (go_simp; done) | (go_simp; rfl)); (case hp => exact (Reps.none _ _)); intro v939 w4 ho5 hb hg_ hnew_; clear hg_ hnew_; (first | rw [← Ny938.out] at ho5 | (simp only [Int.reduceToNat] at ho5; rw [← Ny938.out] at ho5)); have HO940 := am_ (Kd.R_lower ho5 (below_size Sh.bw)); replace BK937 := Sh.ab BK937 hb; replace HB := Sh.hb hb; clear hb ho5))
 go_loopg [5, 9] k (fun kq v5 v9 w' => ∃ (x5_1 : List Int) (x9_1 : Int), v9 = .int .i64 x9_1 ∧ Aside0 (impl_Lasso_unroll.l0 kq x5_1 a1 x9_1 l0_0 l0_1 = some r) ∧ Aside0 (kq ≤ k) ∧ Aside0 (Kd.R (Kd.int .i64) 3 w' w.heap.size (fun _ => True) v5 x5_1) ∧ Aside0 (w'.heap[gb937]? = some (.cells #[(.slice A0_0 l0_0.length c0_0), (.slice A0_1 l0_1.length c0_1)] 37 (0, 0))) ∧ Aside0 (Below w.heap.size w w'))
 case atStart => exact ⟨(y938), (0), (Sh.es), H', ⟨Nat.le_refl _⟩, ⟨Sh.rl HO940.out⟩, ⟨by refine Sh.pl ?_; exact BK937.out⟩, ⟨Sh.bw⟩⟩
 case round =>
  clear H'
  obtain ⟨x5_1, x9_1, rfl, HA, HK1, HO_5, BK937, HB⟩ := hrel
  cases gk with
  | zero => exact absurd HA.out (by simp [impl_Lasso_unroll.l0])
  | succ k1 =>
   have H := HA.out
   clear HA
   simp only [impl_Lasso_unroll.l0] at H
   by_cases c6 : x9_1 < a1
   ·rw [if_pos c6] at H
    have c6b0 := decide_eq_true c6
    clear c6
    obtain ⟨t941, A7, H⟩ := Sh.ba H
    by_cases c8 : x5_1.length < 17592186044416
    ·rw [if_pos c8] at H
     have LMc8 := am_ c8
     clear c8
     obtain ⟨y942, hy942⟩ : ∃ y_ : List Int, y_ = (x5_1 ++ [t941]) := ⟨_, rfl⟩
     replace H : (impl_Lasso_unroll.l0 k1 y942 a1 (wrap64 (x9_1 + 1)) l0_0 l0_1) = some r := by first | (rw [hy942]; with_reducible exact H) | (have H2_ := (Option.bind_some _ _).symm.trans H; rw [hy942]; with_reducible exact H2_) | (have H2_ := (Option.bind_some _ _).symm.trans H; with_reducible exact H2_) | with_reducible exact H | (rw [hy942]; exact H) | exact H
     have Ny942 := am_ hy942
     clear hy942
     have H' := am_ H
     clear H
     have hcz9_0 := Sh.bc BK937.out 0
     have hcz9_1 := Sh.bc BK937.out 1
     have hfz9_0 := blk_frozen BK937.out 0
     have hfz9_1 := blk_frozen BK937.out 1
     go_wp2_with (first | ((with_reducible refine Sh.k 79 ?_); refine Sh.gB (some 15) Try.func79 #[.agg #[.slice A0_0 l0_0.length c0_0, .slice A0_1 l0_1.length c0_1], .int .i64 x9_1] (impl_Lasso_letterAt.calls _ _ l0_0 _ _ l0_1 x9_1 t941 _ (Sh.cB HR0_0.out) HC0_0.out (Sh.cB HR0_1.out) HC0_1.out A7.out) fun w10 hb => ?_; replace HO_5 := am_ (Kd.R_below (Sh.rl HO_5.out) hb); replace BK937 := Sh.ab BK937 hb; replace HB := Sh.hb hb; (try clear hb); (try clear hb2); (try clear hk); (try clear hi)) | ((with_reducible refine gate_builtin (b := .append) (xs := #[.tmp 12, .tmp 16]) rfl ?_); at_builtin; refine Kd.R_append (Kd.int .i64) (w0 := w) w.heap.size rfl (.tmp 12) (.tmp 16) 24 3 (.int .i64 0) 8 rfl Try.underlying24 info3 rfl (by decide) (by omega) u5 x5_1 t941 [.int .i64 t941] (fun _ => True) (fun _ => False) rfl rfl ?aP (fun _ hk => hk.elim) ?aF ?aO ?aB ?aS ?aL ?_; (case aP => exact rfl); (case aB => exact Sh.bw); (case aF => exact (fun _ _ => trivial)); (case aO => exact (Sh.rl HO_5.out)); (case aS => exact (below_size Sh.bw)); (case aL => have := LMc8.out; omega); intro v943 w11 ho hb hg hat; rw [← Ny942.out] at ho; have n0_ := am_ (blk_grown (g := gb937) (o := .cells #[.slice A0_0 l0_0.length c0_0, .slice A0_1 l0_1.length c0_1] 37 (0, 0)) (Sh.pl BK937.out) hg (Kd.R_ne HO_5.out BK937.out (by decide))); have n1_ := am_ hb; have n2_ := am_ ho; clear BK937; clear HB; clear HO_5; have BK937 := n0_; have HB := n1_; have HO944 := n2_; clear n0_ n1_ n2_; clear ho hb hg hat))
     go_roundg k1
     case measure => have := HK1.out; omega
     case rel => exact ⟨(y942), (wrap64 (x9_1 + 1)), (Sh.es), H', ⟨by have := HK1.out; omega⟩, ⟨Sh.rl HO944.out⟩, ⟨by refine Sh.pl ?_; exact BK937.out⟩, ⟨Sh.bw⟩⟩
    ·rw [if_neg c8] at H
     exact absurd H (by simp)
   ·rw [if_neg c6] at H
    have c6b0 := decide_eq_false c6
    clear c6
    obtain rfl := Option.some.inj H
    go_wp2
    go_ret
    exact ⟨_, Sh.eR, Sh.rl HO_5.out, Sh.bw⟩
def slices_Grow_int_int.f (n : Int) : Option (List (Int)) := if 0 ≤ n then (if n.toNat < 17592186044416 then some [] else none) else none
theorem slices_Grow_int_int.calls (a1 : Int) (r : List (Int)) (w : World) (h : slices_Grow_int_int.f a1 = some r) :
  Calls Try.prog 98 #[.slice none 0 0, .int .i64 a1] w fun e w' => ∃ v0_ : Value, e = .returned (v0_) ∧ Kd.R (Kd.int .i64) 3 w' w.heap.size (fun _ => True) v0_ r ∧ Below w.heap.size w w' := by
 have h0 : 0 ≤ a1 := by
  rcases Int.lt_or_le a1 0 with h1 | h1
  ·rw [slices_Grow_int_int.f, if_neg (by omega)] at h; cases h
  ·exact h1
 have hlim : a1.toNat < 17592186044416 := by
  rcases Nat.lt_or_ge a1.toNat 17592186044416 with h1 | h1
  ·exact h1
  ·rw [slices_Grow_int_int.f, if_pos h0, if_neg (by omega)] at h; cases h
 rw [slices_Grow_int_int.f, if_pos h0, if_pos hlim] at h
 obtain rfl := Option.some.inj h
 clear h
 have n0 : ¬ (a1 < 0) := by omega
 have ew : wrap64 a1 = a1 := by unfold wrap64; omega
 by_cases hp : a1 > 0
 ·have HB := am_ (Below.refl w.heap.size w)
  have LM := am_ hlim
  clear hlim n0
  obtain ⟨i0, hi0, _, hsz, _⟩ := info_parts info3
  have hcut := cut_to (P := Try.prog) 24 3 .i64 Try.underlying24 hi0 none 0 0 0 (by omega) (by omega) (by omega)
  clear hsz
  have HI := am_ hi0
  clear hi0
  go_enter Try.func98, Try.ntmps98
  go_wp2_with (first | (at_builtin; refine Kd.R_append_zeros (Kd.int .i64) (w0 := w) w.heap.size rfl (.tmp 20) (.tmp 21) 24 3 3 (.int .i64 0) 8 rfl Try.underlying24 Try.underlying3 info3 rfl (by decide) (by omega) (.slice none 0 0) [] 0 (wrap64 a1) (fun _ => True) rfl rfl rfl ?aF ?aO (by rw [ew]; exact h0) ?aB ?aS ?aL ?_; (case aF => exact (fun _ _ => trivial)); (case aO => exact (Kd.R_nil _ _ _ _ _)); (case aB => exact HB.out); (case aS => exact Nat.le_refl _); (case aL => have := LM.out; rw [ew]; simp only [List.length_nil]; omega); intro v1 w1 ho hb hg hat; clear hg hat HB; obtain ⟨A1, c1, e1⟩ := Kd.R_slice ho; subst e1; have hcut2 := cut_to (P := Try.prog) 24 3 .i64 Try.underlying24 HI.out A1 _ c1 0 (by omega) (by omega) (Kd.R_reads' ho).2.1; have HO := am_ (Kd.R_take (m := 0) ho (Nat.zero_le _)); clear ho; have HB := am_ hb; clear hb))
  go_ret
  exact ⟨_, rfl, HO.out, HB.out⟩
 ·have ha : a1 = 0 := by omega
  subst ha
  go_enter Try.func98, Try.ntmps98
  go_wp2
  go_ret
  exact ⟨_, rfl, Kd.R_nil _ _ _ _ _, Below.refl _ _⟩
mutual
def slices_Concat_int_int.l0 : Nat → List (List Int) → Int → List (List Int) → Int → Int → Option (List Int)
 | 0, _, _, _, _, _ => none
 | k + 1, x0, x3, x9, x10, x11 => if x11 < x10 then (if 0 ≤ x11 then (if x11 < (x9.length : Int) then (if (wrap64 (x3 + ((rd_L7 x9 x11).length : Int))) < 0 then (none) else (slices_Concat_int_int.l0 k x0 (wrap64 (x3 + ((rd_L7 x9 x11).length : Int))) x9 x10 (wrap64 (x11 + 1)))) else (none)) else (none)) else ((slices_Grow_int_int.f x3).bind fun t946 => (slices_Concat_int_int.l1 k t946 x0 (x0.length : Int) 0))
def slices_Concat_int_int.l1 : Nat → List Int → List (List Int) → Int → Int → Option (List Int)
 | 0, _, _, _, _ => none
 | k + 1, x6, x25, x26, x27 => if x27 < x26 then (if 0 ≤ x27 then (if x27 < (x25.length : Int) then (if x6.length + (rd_L7 x25 x27).length < 17592186044416 then (slices_Concat_int_int.l1 k (x6 ++ (rd_L7 x25 x27)) x25 x26 (wrap64 (x27 + 1))) else (none)) else (none)) else (none)) else (some x6)
end
def slices_Concat_int_int.f (k : Nat) (l0 : List (List Int)) : Option (List Int) := slices_Concat_int_int.l0 k l0 0 l0 (l0.length : Int) 0
theorem slices_Concat_int_int.mono_l : ∀ k, (∀ y0 y1 y2 y3 y4, LeO (slices_Concat_int_int.l0 k y0 y1 y2 y3 y4) (slices_Concat_int_int.l0 (k + 1) y0 y1 y2 y3 y4)) ∧ (∀ y0 y1 y2 y3, LeO (slices_Concat_int_int.l1 k y0 y1 y2 y3) (slices_Concat_int_int.l1 (k + 1) y0 y1 y2 y3))
 | 0 => ⟨fun _ _ _ _ _ r h => by simp [slices_Concat_int_int.l0] at h, fun _ _ _ _ r h => by simp [slices_Concat_int_int.l1] at h⟩
 | k + 1 => by
  obtain ⟨ih0, ih1⟩ := slices_Concat_int_int.mono_l k
  and_intros <;> intros
  all_goals (first | unfold slices_Concat_int_int.l0 | unfold slices_Concat_int_int.l1)
  all_goals repeat' with_reducible first | apply ih0 | apply ih1 | exact LeO.refl _ | exact LeO.none _ | apply LeO.ite | refine LeO.bind ?_ fun _ => ?_
theorem slices_Concat_int_int.mono : ∀ a0 k, LeO (slices_Concat_int_int.f k a0) (slices_Concat_int_int.f (k + 1) a0) := by
 intro a0 k
 obtain ⟨ih0, ih1⟩ := slices_Concat_int_int.mono_l k
 unfold slices_Concat_int_int.f
 repeat' with_reducible first | apply ih0 | apply ih1 | exact LeO.refl _ | exact LeO.none _ | apply LeO.ite | refine LeO.bind ?_ fun _ => ?_
theorem slices_Concat_int_int.calls (k : Nat) (A0 : Option Addr) (c0 : Nat) (l0 : List (List Int)) (r : List Int) (w : World) (hr0 : Kd.C (Kd.slice 3 (Kd.int .i64)) w A0 l0.length l0) (hc0 : l0.length ≤ c0) (h : slices_Concat_int_int.f k l0 = some r) :
  Calls Try.prog 80 #[.slice A0 l0.length c0] w fun e w' => ∃ v0_ : Value, e = .returned (v0_) ∧ Kd.R (Kd.int .i64) 3 w' w.heap.size (fun _ => True) v0_ r ∧ Below w.heap.size w w' := by
 have HR0 := am_ hr0
 have HC0 := am_ hc0
 clear hr0 hc0
 have HB := am_ (Below.refl w.heap.size w)
 have H := h
 clear h
 unfold slices_Concat_int_int.f at H
 have H' := am_ H
 clear H
 go_enter Try.func80, Try.ntmps80
 go_wp2
 go_loopg [3, 11] k (fun kq v3 v11 w' => ∃ (x3_1 : Int) (x11_1 : Int), v3 = .int .i64 x3_1 ∧ v11 = .int .i64 x11_1 ∧ Aside0 (slices_Concat_int_int.l0 kq l0 x3_1 l0 (l0.length : Int) x11_1 = some r) ∧ Aside0 (kq ≤ k) ∧ Aside0 (Below w.heap.size w w'))
 case atStart => exact ⟨(0), (0), (Sh.es), (Sh.es), H', ⟨Nat.le_refl _⟩, ⟨Sh.bw⟩⟩
 case round =>
  clear H'
  obtain ⟨x3_1, x11_1, rfl, rfl, HA, HK1, HB⟩ := hrel
  cases gk with
  | zero => exact absurd HA.out (by simp [slices_Concat_int_int.l0])
  | succ k1 =>
   have H := HA.out
   clear HA
   simp only [slices_Concat_int_int.l0] at H
   by_cases c2 : x11_1 < (l0.length : Int)
   ·rw [if_pos c2] at H
    have c2b0 := decide_eq_true c2
    clear c2
    by_cases c3 : 0 ≤ x11_1
    ·rw [if_pos c3] at H
     have c3b0 := decide_eq_true c3
     clear c3
     by_cases c4 : x11_1 < (l0.length : Int)
     ·rw [if_pos c4] at H
      have c4b0 := decide_eq_true c4
      clear c4
      by_cases c5 : (wrap64 (x3_1 + ((rd_L7 l0 x11_1).length : Int))) < 0
      ·rw [if_pos c5] at H
       exact absurd H (by simp)
      ·rw [if_neg c5] at H
       have c5b0 := decide_eq_false c5
       clear c5
       have H' := am_ H
       clear H
       have p945 : 0 ≤ (x11_1 : Int) := Sh.od
       have q945 : x11_1 < (l0.length : Int) := Sh.od
       obtain ⟨ad945, A945_0, c945_0, e945, hx945_0, hl945_0, hi945_0⟩ := at_L7 HR0.out x11_1 p945 q945
       cases e945
       try replace hx945_0 := Sh.cw hx945_0
       have HR945_0 := am_ hi945_0
       have HC945_0 := am_ hl945_0
       clear hi945_0 hl945_0
       replace p945 := eq_true p945
       replace q945 := eq_true q945
       go_wp2
       go_roundg k1
       case measure => have := HK1.out; omega
       case rel => exact ⟨(wrap64 (x3_1 + ((rd_L7 l0 x11_1).length : Int))), (wrap64 (x11_1 + 1)), (Sh.es), (Sh.es), H', ⟨by have := HK1.out; omega⟩, ⟨Sh.bw⟩⟩
     ·rw [if_neg c4] at H
      exact absurd H (by simp)
    ·rw [if_neg c3] at H
     exact absurd H (by simp)
   ·rw [if_neg c2] at H
    have c2b0 := decide_eq_false c2
    clear c2
    obtain ⟨t946, A6, H⟩ := Sh.ba H
    have H' := am_ H
    clear H
    go_wp2_with (first | ((with_reducible refine Sh.k 98 ?_); refine Sh.gL (some 24) Try.func98 #[.slice none 0 0, .int .i64 x3_1] (h := ?_); (with_reducible refine (slices_Grow_int_int.calls  x3_1 t946 _ A6.out).mono ?_); rintro e w7 ⟨v947, rfl, ho0, hb⟩; refine ⟨_, rfl, ?_⟩; have HO948 := am_ (Kd.R_lower ho0 (below_size Sh.bw)); replace HB := Sh.hb hb; (try clear hb); (try clear hb2); (try clear hk); (try clear hi); (try clear ho0)))
    go_loopg [6, 27] k1 (fun kq v6 v27 w' => ∃ (x6_2 : List Int) (x27_2 : Int), v27 = .int .i64 x27_2 ∧ Aside0 (slices_Concat_int_int.l1 kq x6_2 l0 (l0.length : Int) x27_2 = some r) ∧ Aside0 (kq ≤ k1) ∧ Aside0 (Kd.R (Kd.int .i64) 3 w' w.heap.size (fun _ => True) v6 x6_2) ∧ Aside0 (Below w.heap.size w w'))
    case atStart => exact ⟨(t946), (0), (Sh.es), H', ⟨Nat.le_refl _⟩, ⟨Sh.rl HO948.out⟩, ⟨Sh.bw⟩⟩
    case round =>
     clear H'
     try clear hx945_0
     obtain ⟨x6_2, x27_2, rfl, HA, HK2, HO_6, HB⟩ := hrel
     cases gk with
     | zero => exact absurd HA.out (by simp [slices_Concat_int_int.l1])
     | succ k2 =>
      have H := HA.out
      clear HA
      simp only [slices_Concat_int_int.l1] at H
      by_cases c8 : x27_2 < (l0.length : Int)
      ·rw [if_pos c8] at H
       have c8b0 := decide_eq_true c8
       clear c8
       by_cases c9 : 0 ≤ x27_2
       ·rw [if_pos c9] at H
        have c9b0 := decide_eq_true c9
        clear c9
        by_cases c10 : x27_2 < (l0.length : Int)
        ·rw [if_pos c10] at H
         have c10b0 := decide_eq_true c10
         clear c10
         by_cases c11 : x6_2.length + (rd_L7 l0 x27_2).length < 17592186044416
         ·rw [if_pos c11] at H
          have LMc11 := am_ c11
          clear c11
          obtain ⟨y950, hy950⟩ : ∃ y_ : List Int, y_ = (x6_2 ++ (rd_L7 l0 x27_2)) := ⟨_, rfl⟩
          replace H : (slices_Concat_int_int.l1 k2 y950 l0 (l0.length : Int) (wrap64 (x27_2 + 1))) = some r := by first | (rw [hy950]; with_reducible exact H) | (have H2_ := (Option.bind_some _ _).symm.trans H; rw [hy950]; with_reducible exact H2_) | (have H2_ := (Option.bind_some _ _).symm.trans H; with_reducible exact H2_) | with_reducible exact H | (rw [hy950]; exact H) | exact H
          have Ny950 := am_ hy950
          clear hy950
          have H' := am_ H
          clear H
          have p949 : 0 ≤ (x27_2 : Int) := Sh.od
          have q949 : x27_2 < (l0.length : Int) := Sh.od
          obtain ⟨ad949, A949_0, c949_0, e949, hx949_0, hl949_0, hi949_0⟩ := at_L7 HR0.out x27_2 p949 q949
          cases e949
          try replace hx949_0 := Sh.cw hx949_0
          have HR949_0 := am_ hi949_0
          have HC949_0 := am_ hl949_0
          clear hi949_0 hl949_0
          replace p949 := eq_true p949
          replace q949 := eq_true q949
          go_wp2_with (first | ((with_reducible refine gate_builtin (b := .append) (xs := #[.tmp 31, .tmp 32]) rfl ?_); at_builtin; refine Kd.R_append_rows (Kd.int .i64) (w0 := w) w.heap.size rfl (.tmp 31) (.tmp 32) 24 3 (.int .i64 0) 8 rfl Try.underlying24 info3 rfl (by decide) (by omega) u6 x6_2 (rd_L7 l0 x27_2) _ _ _ (fun _ => True) (fun _ => False) rfl rfl ?aO ?aR (fun _ _ h => h) (fun _ h => h.elim) ?aF ?aB ?aS ?aL ?_; (case aR => repeat (first | exact (Kd.C_below HR949_0.out HB.out) | (with_reducible first | refine Kd.C_alloc ?_ _ | refine Kd.C_drewN ?_ _ | refine Kd.C_drew ?_))); (case aB => exact Sh.bw); (case aF => exact (fun _ _ => trivial)); (case aO => exact (Sh.rl HO_6.out)); (case aS => exact (below_size Sh.bw)); (case aL => have := LMc11.out; omega); intro v951 w12 ho hb hg hat; rw [← Ny950.out] at ho; have n0_ := am_ hb; have n1_ := am_ ho; clear HB; clear HO_6; have HB := n0_; have HO952 := n1_; clear n0_ n1_; clear ho hb hg hat))
          go_roundg k2
          case measure => have := HK1.out; have := HK2.out; omega
          case rel => exact ⟨(y950), (wrap64 (x27_2 + 1)), (Sh.es), H', ⟨by have := HK1.out; have := HK2.out; omega⟩, ⟨Sh.rl HO952.out⟩, ⟨Sh.bw⟩⟩
         ·rw [if_neg c11] at H
          exact absurd H (by simp)
        ·rw [if_neg c10] at H
         exact absurd H (by simp)
       ·rw [if_neg c9] at H
        exact absurd H (by simp)
      ·rw [if_neg c8] at H
       have c8b0 := decide_eq_false c8
       clear c8
       obtain rfl := Option.some.inj H
       go_wp2
       go_ret
       exact ⟨_, Sh.eR, Sh.rl HO_6.out, Sh.bw⟩
def impl_Lasso_loopFrom.f (k : Nat) (l0_0 : List Int) (l0_1 : List Int) (a1 : Int) : Option (List Int) := if (l0_1.length : Int) = 0 then (none) else (if 0 ≤ (Int.tmod (wrap64 (a1 - (l0_0.length : Int))) (l0_1.length : Int)) then (if (Int.tmod (wrap64 (a1 - (l0_0.length : Int))) (l0_1.length : Int)) ≤ (l0_1.length : Int) then ((slices_Concat_int_int.f k (([(l0_1.drop ((Int.tmod (wrap64 (a1 - (l0_0.length : Int))) (l0_1.length : Int)) : Int).toNat), (l0_1.take ((Int.tmod (wrap64 (a1 - (l0_0.length : Int))) (l0_1.length : Int)) : Int).toNat)] : List (List Int)))).bind fun t967 => (some t967)) else (none)) else (none))
theorem impl_Lasso_loopFrom.mono : ∀ a0 a1 a2 k, LeO (impl_Lasso_loopFrom.f k a0 a1 a2) (impl_Lasso_loopFrom.f (k + 1) a0 a1 a2) := by
 intro a0 a1 a2 k
 unfold impl_Lasso_loopFrom.f
 repeat' with_reducible first | apply slices_Concat_int_int.mono | exact LeO.refl _ | exact LeO.none _ | apply LeO.ite | refine LeO.bind ?_ fun _ => ?_
def impl_Lasso_loopFrom.T2 : Bool × List (List Nat × List Nat) := (true, [([], []), ([0], [0]), ([], []), ([1, 2], [1, 2]), ([], []), ([4], [4]), ([], []), ([5, 6], [5, 6]), ([3, 7], [3, 7]), ([8], [8]), ([9, 9, 0, 1, 2, 3, 4, 5, 6, 7, 8, 9], [9])])
def impl_Lasso_loopFrom.B2 : List Nat := [0, 1, 0, 7, 0, 16, 0, 112, 255, 511, 1023]
theorem impl_Lasso_loopFrom.tab2 : rtab .any (opsOf Try.f57 2) = impl_Lasso_loopFrom.T2 := by kernel_rfl
theorem impl_Lasso_loopFrom.bits2 : waitsOk impl_Lasso_loopFrom.T2.2 impl_Lasso_loopFrom.B2 = true := by kernel_rfl
theorem impl_Lasso_loopFrom.calls (k : Nat) (A0_0 : Option Addr) (c0_0 : Nat) (l0_0 : List Int) (P0_1_ : Nat → Prop) (A0_1 : Option Addr) (c0_1 : Nat) (l0_1 : List Int) (a1 : Int) (r : List Int) (w : World) (hr0_0 : Kd.C (Kd.int .i64) w A0_0 l0_0.length l0_0) (hc0_0 : l0_0.length ≤ c0_0) (hs0_1 : Kd.V (Kd.int .i64) 3 w w.heap.size (fun k_ => P0_1_ k_) (.slice A0_1 l0_1.length c0_1) l0_1) (h : impl_Lasso_loopFrom.f k l0_0 l0_1 a1 = some r) :
  Calls Try.prog 57 #[.agg #[.slice A0_0 l0_0.length c0_0, .slice A0_1 l0_1.length c0_1], .int .i64 a1] w fun e w' => ∃ v0_ : Value, e = .returned (v0_) ∧ Kd.R (Kd.int .i64) 3 w' w.heap.size (fun k_ => (w.heap.size ≤ k_)) v0_ r ∧ Below w.heap.size w w' := by
 have hu37 := Try.underlying37
 have HR0_0 := am_ hr0_0
 have HC0_0 := am_ hc0_0
 clear hr0_0 hc0_0
 have HO0_1 := am_ (show Kd.V (Kd.int .i64) 3 w w.heap.size (fun k_ => (P0_1_ k_ ∨ w.heap.size ≤ k_)) (.slice A0_1 l0_1.length c0_1) l0_1 from Kd.V_mono hs0_1 (fun k_ hk => .inl hk))
 have HB := am_ (Below.refl w.heap.size w)
 have H := h
 clear h
 unfold impl_Lasso_loopFrom.f at H
 by_cases c3 : (l0_1.length : Int) = 0
 ·rw [if_pos c3] at H
  exact absurd H (by simp)
 ·rw [if_neg c3] at H
  have c3b0 : ((l0_1.length : Int) == 0) = false := beq_eq_false_iff_ne.mpr c3
  have c3b1 : ((l0_1.length : Int) != 0) = true := bne_iff_ne.mpr c3
  have c3b2 : ¬ (l0_1 = []) := fun h_ => c3 (by rw [h_]; rfl)
  obtain ⟨ji4, hj1⟩ : ∃ j_ : Int, (Int.tmod (wrap64 (a1 - (l0_0.length : Int))) (l0_1.length : Int)) = j_ := ⟨_, rfl⟩
  replace H : (if 0 ≤ (ji4) then (if (ji4) ≤ (l0_1.length : Int) then ((slices_Concat_int_int.f k (([(l0_1.drop ((ji4) : Int).toNat), (l0_1.take ((ji4) : Int).toNat)] : List (List Int)))).bind fun t967 => (some t967)) else (none)) else (none)) = some r := by first | (rw [hj1] at H; exact H) | (simp only [hj1] at H ⊢; exact H)
  by_cases c5 : 0 ≤ (ji4)
  ·rw [if_pos c5] at H
   have c5b0 := eq_true c5
   have c5b1 := decide_eq_true c5
   clear c5
   by_cases c6 : (ji4) ≤ (l0_1.length : Int)
   ·rw [if_pos c6] at H
    have c6b0 := eq_true c6
    have c6b1 := decide_eq_true c6
    clear c6
    obtain ⟨y954, hy954⟩ : ∃ y_ : List Int, y_ = (l0_1.drop ((ji4) : Int).toNat) := ⟨_, rfl⟩
    replace H : ((slices_Concat_int_int.f k (([y954, (l0_1.take ((ji4) : Int).toNat)] : List (List Int)))).bind fun t967 => (some t967)) = some r := by first | (rw [hy954]; with_reducible exact H) | (have H2_ := (Option.bind_some _ _).symm.trans H; rw [hy954]; with_reducible exact H2_) | (have H2_ := (Option.bind_some _ _).symm.trans H; with_reducible exact H2_) | with_reducible exact H | (rw [hy954]; exact H) | exact H
    have Ny954 := am_ hy954
    clear hy954
    have c7b0 := eq_true (of_decide_eq_true (by first | (with_reducible assumption) | assumption) : 0 ≤ (ji4))
    have c8b0 := eq_true (of_decide_eq_true (by first | (with_reducible assumption) | assumption) : (ji4) ≤ (l0_1.length : Int))
    obtain ⟨y959, hy959⟩ : ∃ y_ : List Int, y_ = (l0_1.take ((ji4) : Int).toNat) := ⟨_, rfl⟩
    replace H : ((slices_Concat_int_int.f k (([y954, y959] : List (List Int)))).bind fun t967 => (some t967)) = some r := by first | (rw [hy959]; with_reducible exact H) | (have H2_ := (Option.bind_some _ _).symm.trans H; rw [hy959]; with_reducible exact H2_) | (have H2_ := (Option.bind_some _ _).symm.trans H; with_reducible exact H2_) | with_reducible exact H | (rw [hy959]; exact H) | exact H
    have Ny959 := am_ hy959
    clear hy959
    obtain ⟨y964, hy964⟩ : ∃ y_ : List (List Int), y_ = (([y954, y959] : List (List Int))) := ⟨_, rfl⟩
    replace H : ((slices_Concat_int_int.f k y964).bind fun t967 => (some t967)) = some r := by first | (rw [hy964]; with_reducible exact H) | (have H2_ := (Option.bind_some _ _).symm.trans H; rw [hy964]; with_reducible exact H2_) | (have H2_ := (Option.bind_some _ _).symm.trans H; with_reducible exact H2_) | with_reducible exact H | (rw [hy964]; exact H) | exact H
    have Ny964 := am_ hy964
    clear hy964
    obtain ⟨t967, A9, H⟩ := Sh.ba H
    obtain rfl := Option.some.inj H
    go_enter Try.func57, Try.ntmps57
    try go_wp2_with (first | ((with_reducible refine Sh.d 2 ?_); refine Sh.bx (N := 2) (cs := #[.slice A0_0 l0_0.length c0_0, .slice A0_1 l0_1.length c0_1]) (t := 37) (h := ?_); intro gb953 hg w10 hbox hb; replace HO0_1 := am_ (Kd.V_below (Kd.V_elderB (by (with_reducible repeat (first | apply Kd.V_alloc | apply Kd.V_drewN | apply Kd.V_drew)); exact HO0_1.out) gb953 (Nat.le_of_eq hg.symm)) hb); have BK953 := am_ hbox; have GE953 := Sh.ag w hg; replace HB := Sh.hb hb; clear hb hbox hg; obtain ⟨hcz11_0, hcz11_1, hfz11_0, hfz11_1⟩ := Sh.b2 BK953.out))
    replace HO0_1 := am_ (Kd.V_drew HO0_1.out)
    replace BK953 := am_ (blk_drew BK953.out)
    replace HB := am_ (below_drew1 HB.out)
    have q13 : ((ji4) : Int) ≤ ((l0_1.length : Int) : Int) := Sh.od
    obtain ⟨i013, hi013, _, hsz13, _⟩ := info_parts info3
    have hroom13 : l0_1.length ≤ c0_1 := (Kd.V_reads' HO0_1.out).2.1
    have hC13 : Kd.F (Kd.int .i64) _ _ A0_1 l0_1.length l0_1 := (Kd.V_at (base := w.heap.size) HO0_1.out).2.2
    have q013 : (0 : Int) ≤ ((ji4) : Int) := Sh.od
    have hcut13 := cut_from (P := Try.prog) 24 3 .i64 Try.underlying24 hi013 1 hsz13 A0_1 l0_1.length c0_1 (ji4) q013 q13
    have hr13 := Kd.F_cut (m := ((ji4) : Int).toNat) (c := c0_1) hC13 (by omega) hroom13
    obtain ⟨A13, hA13⟩ : ∃ A1, A1 = (if c0_1 = ((ji4) : Int).toNat then A0_1 else (A0_1 : Option Addr).map (·.add (((ji4) : Int).toNat * 1))) := ⟨_, rfl⟩
    obtain ⟨c13, hc13⟩ : ∃ c1, c1 = c0_1 - ((ji4) : Int).toNat := ⟨_, rfl⟩
    have hy13 : y954.length = l0_1.length - ((ji4) : Int).toNat := (by rw [Ny954.out, List.length_drop] <;> omega)
    rw [show (l0_1).drop ((ji4) : Int).toNat = y954 from Ny954.out.symm] at hr13
    replace hr13 : Kd.F (Kd.int .i64) _ _ A13 y954.length y954 := (by rw [hA13]; exact hr13)
    rw [← hy13, ← hA13, ← hc13] at hcut13
    have HO958 := am_ (show Kd.V (Kd.int .i64) 3 _ w.heap.size _ (.slice A13 y954.length c13) y954 from Kd.V_mk (by rw [hy13, hc13]; exact Nat.sub_le_sub_right hroom13 _) hr13)
    have HC958 := am_ (show y954.length ≤ c13 from by rw [hy13, hc13]; exact Nat.sub_le_sub_right hroom13 _)
    clear hr13 hC13 hroom13 hi013 hsz13 hc13
    have KY13 := am_ hy13
    have KA13 := am_ hA13
    clear hy13 hA13
    replace q13 := eq_true q13
    have q14 : ((ji4) : Int) ≤ ((l0_1.length : Int) : Int) := Sh.od
    obtain ⟨i014, hi014, _, hsz14, _⟩ := info_parts info3
    have hroom14 : l0_1.length ≤ c0_1 := (Kd.V_reads' HO0_1.out).2.1
    have hC14 : Kd.F (Kd.int .i64) _ _ A0_1 l0_1.length l0_1 := (Kd.V_at (base := w.heap.size) HO0_1.out).2.2
    have hcut14 := cut_to (P := Try.prog) 24 3 .i64 Try.underlying24 hi014 A0_1 l0_1.length c0_1 (ji4) (of_decide_eq_true (by first | (with_reducible assumption) | assumption)) q14 hroom14
    have hr14 := Kd.F_take (m := ((ji4) : Int).toNat) hC14 (by omega)
    have hy14 : y959.length = ((ji4) : Int).toNat := (by rw [Ny959.out, List.length_take]; omega)
    rw [← Ny959.out] at hr14
    rw [← hy14] at hcut14
    have HO963 := am_ (show Kd.V (Kd.int .i64) 3 _ w.heap.size _ (.slice A0_1 y959.length c0_1) y959 from Kd.V_mk (by omega) hr14)
    have HC963 := am_ (show y959.length ≤ c0_1 from by omega)
    clear hr14 hC14 hroom14 hi014 hsz14
    have KY14 := am_ hy14
    clear hy14
    replace q14 := eq_true q14
    refine start_ (n := 11) (S := fun w' => w'.cell? ⟨gb953, 0, none⟩ = some (.slice A0_0 l0_0.length c0_0) ∧ w'.cell? ⟨gb953, 1, none⟩ = some (.slice A0_1 l0_1.length c0_1)) (ds := []) (Sh.nm 11 0) (by kernel_rfl) rfl rfl Sh.cs (fun hHeld => ?_); refine with_tabW impl_Lasso_loopFrom.tab2 impl_Lasso_loopFrom.bits2 (fun HT_ HW_ => ?_)
    generalize w10.drew = w12 at HO0_1 BK953 HB HO958 HO963 hHeld ⊢
    refine Sh.qA 0 ?_; refine Sh.qA 2 ?_; refine Sh.qA 4 ?_; refine Sh.qA 6 ?_; refine Sh.qT 1 hHeld ?_; refine Sh.qA 3 ?_; refine Sh.qT 5 hHeld ?_; refine Sh.qA 7 ?_
    refine one_ (i := 8) (N := some 23) (Sh.nm 11 511) rfl rfl (one_of HT_.out (by kernel_rfl)) (by decide) (fun K hK => ?_)
    refine Kd.N_lit_step (Kd.slice 3 (Kd.int .i64)) _ 24 ?hg (N' := 23) ?hd (xs := ([y954, y959] : List (List Int))) (inner := [.slice A13 y954.length c13, .slice A0_1 y959.length c0_1]) (ok := (fun k_ => (P0_1_ k_ ∨ w.heap.size ≤ k_) ∧ k_ ≠ gb953)) (okp := (fun k_ => (P0_1_ k_ ∨ w.heap.size ≤ k_) ∧ k_ ≠ gb953)) ?hr ?hp (fun _ hk => hk) ((show ∀ k_, w12.heap.size ≤ k_ → (fun k_ => (P0_1_ k_ ∨ w.heap.size ≤ k_) ∧ k_ ≠ gb953) k_ from fun k_ hk => ⟨(.inr (Nat.le_trans (below_size Sh.bw) hk)), Kd.freshB (g := gb953) (o := .cells #[.slice A0_0 l0_0.length c0_0, .slice A0_1 l0_1.length c0_1] 37 (0, 0)) (Sh.pl BK953.out) k_ hk⟩) _ (Nat.le_refl _)) (Below.refl _ _) (Nat.le_refl _) (by simp) ?_; (case hd => rfl); (case hg => rfl); (case hr => first | (go_simp; done) | (go_simp; rfl)); (case hp => exact (Reps.one (show Kd.FK (Kd.slice 3 (Kd.int .i64)) _ _ y954 [.slice A13 y954.length c13] from (Kd.FK_slice_mk (Kd.V_reads' (Kd.V_mono (ok' := (fun k_ => (P0_1_ k_ ∨ w.heap.size ≤ k_) ∧ k_ ≠ gb953)) (HO958.out) (fun k_ h => ⟨h.1, h.2⟩))).2.1 (Kd.V_F (Kd.V_mono (ok' := (fun k_ => (P0_1_ k_ ∨ w.heap.size ≤ k_) ∧ k_ ≠ gb953)) (HO958.out) (fun k_ h => ⟨h.1, h.2⟩))))) (Reps.one (show Kd.FK (Kd.slice 3 (Kd.int .i64)) _ _ y959 [.slice A0_1 y959.length c0_1] from (Kd.FK_slice_mk (Kd.V_reads' (Kd.V_mono (ok' := (fun k_ => (P0_1_ k_ ∨ w.heap.size ≤ k_) ∧ k_ ≠ gb953)) (HO963.out) (fun k_ h => ⟨h.1, h.2⟩))).2.1 (Kd.V_F (Kd.V_mono (ok' := (fun k_ => (P0_1_ k_ ∨ w.heap.size ≤ k_) ∧ k_ ≠ gb953)) (HO963.out) (fun k_ h => ⟨h.1, h.2⟩))))) (Reps.none _ _))))
    intro v965 w15 ho16 hb hg_ hnew_
    clear hg_ hnew_
    (first | rw [← Ny964.out] at ho16 | (simp only [Int.reduceToNat] at ho16; rw [← Ny964.out] at ho16))
    replace HO0_1 := am_ (Kd.V_elder' (by (with_reducible repeat (first | apply Kd.V_alloc | apply Kd.V_drewN | apply Kd.V_drew)); exact HO0_1.out) (Kd.N_base ho16) hb)
    replace HO958 := am_ (Kd.V_elder' (by (with_reducible repeat (first | apply Kd.V_alloc | apply Kd.V_drewN | apply Kd.V_drew)); exact HO958.out) (Kd.N_base ho16) hb)
    replace HO963 := am_ (Kd.V_elder' (by (with_reducible repeat (first | apply Kd.V_alloc | apply Kd.V_drewN | apply Kd.V_drew)); exact HO963.out) (Kd.N_base ho16) hb)
    have HO966 := am_ (Kd.N_lower ho16 (below_size Sh.bw))
    replace BK953 := Sh.ab BK953 hb
    replace HB := Sh.hb hb
    clear hb ho16
    obtain ⟨Ao17, co17, eo17⟩ := Kd.N_slice HO966.out
    (first | subst eo17 | (injection eo17 with f1_ f2_ f3_; have f4_ := f1_.symm; have f5_ := f3_.symm; clear f1_ f2_ f3_; subst f4_; subst f5_))
    refine Sh.kN hK Sh.cs fun hHeld => ?_
    clear hK K
    refine Sh.oC 9 Try.func80 #[.slice Ao17 y964.length co17] fun K hK => ?_
    with_reducible refine (slices_Concat_int_int.calls k _ _ y964 t967 _ (Sh.cR (Kd.N_reads' HO966.out).2.2) (Kd.N_reads' HO966.out).2.1 A9.out).mono ?_
    rintro e w18 ⟨v968, rfl, ho0, hb⟩
    refine ⟨_, rfl, ?_⟩
    replace HO0_1 := am_ (Kd.V_elder' (by (with_reducible repeat (first | apply Kd.V_alloc | apply Kd.V_drewN | apply Kd.V_drew)); exact HO0_1.out) (Kd.R_base ho0) hb)
    replace HO958 := am_ (Kd.V_elder' (by (with_reducible repeat (first | apply Kd.V_alloc | apply Kd.V_drewN | apply Kd.V_drew)); exact HO958.out) (Kd.R_base ho0) hb)
    replace HO963 := am_ (Kd.V_elder' (by (with_reducible repeat (first | apply Kd.V_alloc | apply Kd.V_drewN | apply Kd.V_drew)); exact HO963.out) (Kd.R_base ho0) hb)
    replace HO966 := am_ (Kd.N_elder' (by (with_reducible repeat (first | apply Kd.N_alloc | apply Kd.N_drewN | apply Kd.N_drew)); exact HO966.out) (Kd.R_base ho0) hb)
    have HO969 := am_ (Kd.R_lower (Kd.R_newM (M := fun k_ => (w.heap.size ≤ k_)) ho0 (below_size Sh.bw) (fun k_ h_ => h_)) (below_size Sh.bw))
    replace BK953 := Sh.ab BK953 hb
    replace HB := Sh.hb hb
    (try clear hb)
    (try clear hb2)
    (try clear hk)
    (try clear hi)
    (try clear ho0)
    refine Sh.kN hK Sh.cs fun hHeld => ?_
    clear hK K
    refine Sh.qA 10 ?_
    refine done_ (done_of HT_.out (by kernel_rfl)) ?_
    try go_wp2
    go_ret
    exact ⟨_, by first | rfl | (simp [errW_none, errW_some] <;> rfl) | (simp only [← hj1]; first | rfl | (simp [errW_none, errW_some] <;> rfl)) | (simp [*, errW_none, errW_some] <;> rfl), Sh.rl (Kd.R_mono HO969.out (fun _ hk => hk.1)), Sh.bw⟩
   ·rw [if_neg c6] at H
    exact absurd H (by simp)
  ·rw [if_neg c5] at H
   exact absurd H (by simp)
end Go.Proofs.Ytaacldndbjmekaa.P
