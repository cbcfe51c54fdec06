/- Go functions of this seat as Lean functions, and the proofs that the calls come to what these say; printed by a program of this session. No condition. -/
import Derived.Test.YtngefmofelengaaGreatP0
import Derived.Test.YtngefmofelengaaGreatMFnExactBackFrom2
set_option linter.unusedVariables false
set_option linter.unusedSimpArgs false
set_option maxHeartbeats 40000000
set_option maxRecDepth 100000
namespace Go.Proofs.YtngefmofelengaaGreat.P
open Go.RowKit Go.Proofs.YtngefmofelengaaGreatW.PrintWords Go.Proofs.YtngefmofelengaaGreatW.PrintLast Go.Proofs.YtngefmofelengaaGreatW.PrintMore Go.Proofs.YtngefmofelengaaGreat.Hof
attribute [local go_sem] max2_int min2_int max_two min_two max_three min_three max_four min_four
def spec_l7Do.l0 : Nat → List Int → List Int → List (S124) → Int → Int → Int → Int → List (S79) → List (S95) → Option (List Int)
 | 0, _, _, _, _, _, _, _, _, _ => none
 | k + 1, x1, x7, x18, x19, x20, x350000, x350001, x350002, x350003 => if x20 < x19 then (if 0 ≤ x20 then (if x20 < (x18.length : Int) then ((spec_l2Value.f k x350000 ((rd_T124 x18 x20).f1) (wrap64 ((((rd_T124 x18 x20).f1).length : Int) - 1)) x1).bind fun t359 => (if 0 ≤ ((rd_T124 x18 x20).f0) then (if ((rd_T124 x18 x20).f0) < (x7.length : Int) then (spec_l7Do.l0 k x1 (x7.set (((rd_T124 x18 x20).f0) : Int).toNat t359) x18 x19 (wrap64 (x20 + 1)) x350000 x350001 x350002 x350003) else (none)) else (none))) else (none)) else (none)) else (some x7)
def spec_l7Do.f (k : Nat) (a0_0 : Int) (a0_1 : Int) (l0_2 : List (S79)) (l0_3 : List (S95)) (l1 : List Int) (a2 : Int) : Option (List Int) := (some (([] : List Int) : List Int)).bind fun y350 => (if y350.length + l1.length < 17592186044416 then (if 0 ≤ a2 then (if a2 < (l0_3.length : Int) then (spec_l7Do.l0 k l1 (y350 ++ l1) ((rd_T95 l0_3 a2).f1) (((rd_T95 l0_3 a2).f1).length : Int) 0 a0_0 a0_1 l0_2 l0_3) else (none)) else (none)) else (none))
theorem spec_l7Do.mono_l : ∀ k, (∀ y0 y1 y2 y3 y4 y5 y6 y7 y8, LeO (spec_l7Do.l0 k y0 y1 y2 y3 y4 y5 y6 y7 y8) (spec_l7Do.l0 (k + 1) y0 y1 y2 y3 y4 y5 y6 y7 y8))
 | 0 => fun _ _ _ _ _ _ _ _ _ r h => by simp [spec_l7Do.l0] at h
 | k + 1 => by
  have ih0 := spec_l7Do.mono_l k
  ·intro y0 y1 y2 y3 y4 y5 y6 y7 y8
   unfold spec_l7Do.l0
   repeat' with_reducible first | apply ih0 | apply spec_l2Value.mono | exact LeO.refl _ | exact LeO.none _ | apply LeO.ite | refine LeO.bind ?_ fun _ => ?_
theorem spec_l7Do.mono : ∀ a0 a1 a2 a3 a4 a5 k, LeO (spec_l7Do.f k a0 a1 a2 a3 a4 a5) (spec_l7Do.f (k + 1) a0 a1 a2 a3 a4 a5) := by
 intro a0 a1 a2 a3 a4 a5 k
 have ih0 := spec_l7Do.mono_l k
 unfold spec_l7Do.f
 repeat' with_reducible first | apply ih0 | apply spec_l2Value.mono | exact LeO.refl _ | exact LeO.none _ | apply LeO.ite | refine LeO.bind ?_ fun _ => ?_
def spec_l7Do.T5 : Bool × List (List Nat × List Nat) := (true, [([], []), ([], []), ([1], [1]), ([], []), ([3], [3]), ([], []), ([5], [5]), ([], []), ([7], [7]), ([8], [8]), ([9], [9]), ([], []), ([4, 6, 10, 11], [4, 6, 10, 11]), ([0, 2, 0, 1, 2, 3, 4, 5, 6, 7, 8, 9, 10, 11, 12], [0, 2]), ([13, 12, 12, 0, 1, 2, 3, 4, 5, 6, 7, 8, 9, 10, 11, 12], [12, 13])])
def spec_l7Do.B5 : List Nat := [0, 0, 2, 0, 8, 0, 32, 0, 128, 384, 896, 0, 4088, 8191, 16383]
theorem spec_l7Do.tab5 : rtab .any (opsOf Tryz.f87 5) = spec_l7Do.T5 := by kernel_rfl
theorem spec_l7Do.bits5 : waitsOk spec_l7Do.T5.2 spec_l7Do.B5 = true := by kernel_rfl
theorem spec_l7Do.calls (k : Nat) (a0_0 : Int) (a0_1 : Int) (A0_2 : Option Addr) (c0_2 : Nat) (l0_2 : List (S79)) (A0_3 : Option Addr) (c0_3 : Nat) (l0_3 : List (S95)) (A1 : Option Addr) (c1 : Nat) (l1 : List Int) (a2 : Int) (r : List Int) (w : World) (hr0_2 : Kd.C k79 w A0_2 l0_2.length l0_2) (hc0_2 : l0_2.length ≤ c0_2) (hr0_3 : Kd.C k95 w A0_3 l0_3.length l0_3) (hc0_3 : l0_3.length ≤ c0_3) (hr1 : Kd.C (Kd.int .u64) w A1 l1.length l1) (hc1 : l1.length ≤ c1) (h : spec_l7Do.f k a0_0 a0_1 l0_2 l0_3 l1 a2 = some r) :
  Calls Tryz.prog 87 #[.agg #[.int .i64 a0_0, .int .i64 a0_1, .slice A0_2 l0_2.length c0_2, .slice A0_3 l0_3.length c0_3], .slice A1 l1.length c1, .int .i64 a2] w fun e w' => ∃ v0_ : Value, e = .returned (v0_) ∧ Kd.R (Kd.int .u64) 77 w' w.heap.size (fun _ => True) v0_ r ∧ Below w.heap.size w w' := by
 have hu33 := Tryz.underlying33
 have hu124 := Tryz.underlying124
 have HR0_2 := am_ hr0_2
 have HC0_2 := am_ hc0_2
 clear hr0_2 hc0_2
 have HR0_3 := am_ hr0_3
 have HC0_3 := am_ hc0_3
 clear hr0_3 hc0_3
 have HR1 := am_ hr1
 have HC1 := am_ hc1
 clear hr1 hc1
 have HB := am_ (Below.refl w.heap.size w)
 have H := h
 clear h
 unfold spec_l7Do.f at H
 obtain ⟨y350, hy350⟩ : ∃ y_ : List Int, y_ = (([] : List Int)) := ⟨_, rfl⟩
 replace H : (if y350.length + l1.length < 17592186044416 then (if 0 ≤ a2 then (if a2 < (l0_3.length : Int) then (spec_l7Do.l0 k l1 (y350 ++ l1) ((rd_T95 l0_3 a2).f1) (((rd_T95 l0_3 a2).f1).length : Int) 0 a0_0 a0_1 l0_2 l0_3) else (none)) else (none)) else (none)) = some r := by first | (rw [hy350]; with_reducible exact H) | (have H2_ := (Option.bind_some _ _).symm.trans H; rw [hy350]; with_reducible exact H2_) | (have H2_ := (Option.bind_some _ _).symm.trans H; with_reducible exact H2_) | with_reducible exact H | (rw [hy350]; exact H) | exact H
 have Ny350 := am_ hy350
 clear hy350
 by_cases c4 : y350.length + l1.length < 17592186044416
 ·rw [if_pos c4] at H
  have LMc4 := am_ c4
  clear c4
  obtain ⟨y353, hy353⟩ : ∃ y_ : List Int, y_ = (y350 ++ l1) := ⟨_, rfl⟩
  replace H : (if 0 ≤ a2 then (if a2 < (l0_3.length : Int) then (spec_l7Do.l0 k l1 y353 ((rd_T95 l0_3 a2).f1) (((rd_T95 l0_3 a2).f1).length : Int) 0 a0_0 a0_1 l0_2 l0_3) else (none)) else (none)) = some r := by first | (rw [hy353]; with_reducible exact H) | (have H2_ := (Option.bind_some _ _).symm.trans H; rw [hy353]; with_reducible exact H2_) | (have H2_ := (Option.bind_some _ _).symm.trans H; with_reducible exact H2_) | with_reducible exact H | (rw [hy353]; exact H) | exact H
  have Ny353 := am_ hy353
  clear hy353
  by_cases c5 : 0 ≤ a2
  ·rw [if_pos c5] at H
   replace c5 := decide_eq_true c5
   by_cases c6 : a2 < (l0_3.length : Int)
   ·rw [if_pos c6] at H
    replace c6 := decide_eq_true c6
    have H' := am_ H
    clear H
    go_enter Tryz.func87, Tryz.ntmps87
    go_wp2_with (first | ((with_reducible refine Sh.d 3 ?_); refine Sh.bz w (N := 3) (cs := #[.int .i64 a0_0, .int .i64 a0_1, .slice A0_2 l0_2.length c0_2, .slice A0_3 l0_3.length c0_3]) (t := 33) (h := ?_); clear HB; intro gb349 w7 BK349 GE349 HB) | ((with_reducible refine Sh.d 10 ?_); refine Kd.R_lit (Kd.int .u64) _ 77 ?hg (N := 10) ?hd (xs := ([] : List Int)) (inner := []) (ok := fun _ => True) (okp := fun _ => True) ?hr ?hp (fun _ hk => hk) trivial (Below.refl _ _) (Nat.le_refl _) (by simp) ?_; (case hd => rfl); (case hg => rfl); (case hr => first | (go_simp; done) | (go_simp; rfl)); (case hp => exact (Reps.none _ _)); intro v351 w8 ho9 hb hg_ hnew_; clear hg_ hnew_; (first | rw [← Ny350.out] at ho9 | (simp only [Int.reduceToNat] at ho9; rw [← Ny350.out] at ho9)); have HO352 := am_ (Kd.R_lower ho9 (below_size Sh.bw)); replace BK349 := Sh.ab BK349 hb; replace HB := Sh.hb hb; clear hb ho9) | ((with_reducible refine gate_builtin (b := .append) (xs := #[.tmp 10, .tmp 11]) rfl ?_); at_builtin; refine Kd.R_append_rows (Kd.int .u64) (w0 := w) w.heap.size rfl (.tmp 10) (.tmp 11) 71 77 (.int .u64 0) 8 rfl Tryz.underlying71 info77 rfl (by decide) (by omega) v351 y350 l1 _ _ _ (fun _ => True) (fun _ => False) rfl rfl ?aO ?aR (fun _ _ h => h) (fun _ h => h.elim) ?aF ?aB ?aS ?aL ?_; (case aR => repeat (first | exact (Kd.C_below HR1.out HB.out) | (with_reducible first | refine Kd.C_alloc ?_ _ | refine Kd.C_drewN ?_ _ | refine Kd.C_drew ?_))); (case aB => exact Sh.bw); (case aF => exact (fun _ _ => trivial)); (case aO => exact (Sh.rl HO352.out)); (case aS => exact (below_size Sh.bw)); (case aL => have := LMc4.out; omega); intro v354 w10 ho hb hg hat; rw [← Ny353.out] at ho; have n0_ := am_ (blk_grown (g := gb349) (o := .cells #[.int .i64 a0_0, .int .i64 a0_1, .slice A0_2 l0_2.length c0_2, .slice A0_3 l0_3.length c0_3] 33 (0, 0)) (Sh.pl BK349.out) hg (Kd.R_ne HO352.out BK349.out (by decide))); have n1_ := am_ hb; have n2_ := am_ ho; clear BK349; clear HB; clear HO352; have BK349 := n0_; have HB := n1_; have HO355 := n2_; clear n0_ n1_ n2_; clear ho hb hg hat; obtain ⟨hcz11_0, hcz11_1, hcz11_2, hcz11_3, hfz11_0, hfz11_1, hfz11_2, hfz11_3⟩ := Sh.b4 BK349.out; have p356 : 0 ≤ (a2 : Int) := Sh.od; have q356 : a2 < (l0_3.length : Int) := Sh.od; obtain ⟨ad356, A356_0, c356_0, A356_1, c356_1, e356, hx356_0, hx356_1, hl356_0, hi356_0, hl356_1, hi356_1⟩ := at_T95 HR0_3.out a2 p356 q356; cases e356; replace hx356_0 := (HB.out.cell (World.block_lt_of_cell? w _ hx356_0)).trans hx356_0; replace hx356_1 := (HB.out.cell (World.block_lt_of_cell? w _ hx356_1)).trans hx356_1; have HR356_0 := am_ hi356_0; have HC356_0 := am_ hl356_0; clear hi356_0 hl356_0; have HR356_1 := am_ hi356_1; have HC356_1 := am_ hl356_1; clear hi356_1 hl356_1; replace p356 := eq_true p356; replace q356 := eq_true q356))
    go_loopg [20] k (fun kq v20 w' => ∃ (x7_1 : List Int) (x20_1 : Int), v20 = .int .i64 x20_1 ∧ Aside0 (spec_l7Do.l0 kq l1 x7_1 ((rd_T95 l0_3 a2).f1) (((rd_T95 l0_3 a2).f1).length : Int) x20_1 a0_0 a0_1 l0_2 l0_3 = some r) ∧ Aside0 (kq ≤ k) ∧ Aside0 (Kd.R (Kd.int .u64) 77 w' w.heap.size (fun _ => True) v354 x7_1) ∧ Aside0 (w'.heap[gb349]? = some (.cells #[.int .i64 a0_0, .int .i64 a0_1, (.slice A0_2 l0_2.length c0_2), (.slice (some ad356) l0_3.length c0_3)] 33 (0, 0))) ∧ Aside0 (Below w.heap.size w w'))
    case atStart => exact ⟨(y353), (0), (Sh.es), H', ⟨Nat.le_refl _⟩, ⟨Sh.rl HO355.out⟩, ⟨by refine Sh.pl ?_; exact BK349.out⟩, ⟨Sh.bw⟩⟩
    case round =>
     clear H'
     try clear hx3
     try clear hcz11_0
     try clear hcz11_1
     try clear hcz11_2
     try clear hcz11_3
     try clear hfz11_0
     try clear hfz11_1
     try clear hfz11_2
     try clear hfz11_3
     try clear hx356_0
     try clear hx356_1
     obtain ⟨x7_1, x20_1, rfl, HA, HK1, HO_7, BK349, HB⟩ := hrel
     cases gk with
     | zero => exact absurd HA.out (by simp [spec_l7Do.l0])
     | succ k1 =>
      have H := HA.out
      clear HA
      simp only [spec_l7Do.l0] at H
      by_cases c12 : x20_1 < (((rd_T95 l0_3 a2).f1).length : Int)
      ·rw [if_pos c12] at H
       replace c12 := decide_eq_true c12
       by_cases c13 : 0 ≤ x20_1
       ·rw [if_pos c13] at H
        replace c13 := decide_eq_true c13
        by_cases c14 : x20_1 < (((rd_T95 l0_3 a2).f1).length : Int)
        ·rw [if_pos c14] at H
         replace c14 := decide_eq_true c14
         obtain ⟨t359, A15, H⟩ := Sh.ba H
         by_cases c16 : 0 ≤ ((rd_T124 ((rd_T95 l0_3 a2).f1) x20_1).f0)
         ·rw [if_pos c16] at H
          replace c16 := decide_eq_true c16
          by_cases c17 : ((rd_T124 ((rd_T95 l0_3 a2).f1) x20_1).f0) < (x7_1.length : Int)
          ·rw [if_pos c17] at H
           replace c17 := decide_eq_true c17
           obtain ⟨y360, hy360⟩ : ∃ y_ : List Int, y_ = (x7_1.set (((rd_T124 ((rd_T95 l0_3 a2).f1) x20_1).f0) : Int).toNat t359) := ⟨_, rfl⟩
           replace H : (spec_l7Do.l0 k1 l1 y360 ((rd_T95 l0_3 a2).f1) (((rd_T95 l0_3 a2).f1).length : Int) (wrap64 (x20_1 + 1)) a0_0 a0_1 l0_2 l0_3) = some r := by first | (rw [hy360]; with_reducible exact H) | (have H2_ := (Option.bind_some _ _).symm.trans H; rw [hy360]; with_reducible exact H2_) | (have H2_ := (Option.bind_some _ _).symm.trans H; with_reducible exact H2_) | with_reducible exact H | (rw [hy360]; exact H) | exact H
           have Ny360 := am_ hy360
           clear hy360
           have H' := am_ H
           clear H
           have p357 : 0 ≤ (x20_1 : Int) := Sh.od
           have q357 : x20_1 < (((rd_T95 l0_3 a2).f1).length : Int) := Sh.od
           obtain ⟨ad357, A357_1, c357_1, e357, hx357_0, hx357_1, hl357_1, hi357_1⟩ := at_T124 HR356_1.out x20_1 p357 q357
           cases e357
           try replace hx357_0 := Sh.cw hx357_0
           try replace hx357_1 := Sh.cw hx357_1
           have HR357_1 := am_ hi357_1
           have HC357_1 := am_ hl357_1
           clear hi357_1 hl357_1
           replace p357 := eq_true p357
           replace q357 := eq_true q357
           try go_wp2_with (first | ((with_reducible refine Sh.d 9 ?_); refine Sh.bx (N := 9) (cs := #[.int .i64 0, .slice none 0 0]) (t := 124) (h := ?_); intro gb358 hg w19 hbox hb; replace HO_7 := am_ (Kd.R_below (Sh.rl HO_7.out) hb); have BK358 := am_ hbox; have GE358 := Sh.ag w hg; replace HB := Sh.hb hb; have NB349_358 := am_ (Sh.nl hg BK349.out); have NB358_349 := am_ (Sh.ng hg BK349.out); replace BK349 := Sh.ab BK349 hb; clear hb hbox hg; have hnb20 := NB358_349.out; have hnc20 := NB349_358.out; obtain ⟨hcz21_0, hcz21_1, hfz21_0, hfz21_1⟩ := Sh.b2 BK358.out))
           have n0_ : Aside0 (Kd.R (Kd.int .u64) 77 ((w19.setCell ⟨gb358, 0, none⟩ (.int .i64 ((rd_T124 ((rd_T95 l0_3 a2).f1) x20_1).f0))).setCell ⟨gb358, 1, none⟩ (.slice A357_1 ((rd_T124 ((rd_T95 l0_3 a2).f1) x20_1).f1).length c357_1)) w.heap.size (fun _ => True) v354 x7_1) := ⟨Sh.rl (Kd.R_mono (Kd.R_far (p := ⟨gb358, 1, none⟩) (Kd.R_far (p := ⟨gb358, 0, none⟩) (Kd.R_types HO_7.out BK358.out (by decide)) (fun _ hk => hk.2) (.int .i64 ((rd_T124 ((rd_T95 l0_3 a2).f1) x20_1).f0))) (fun _ hk => hk.2) (.slice A357_1 ((rd_T124 ((rd_T95 l0_3 a2).f1) x20_1).f1).length c357_1)) (fun _ hk => trivial))⟩
           have n1_ : Aside0 (((w19.setCell ⟨gb358, 0, none⟩ (.int .i64 ((rd_T124 ((rd_T95 l0_3 a2).f1) x20_1).f0))).setCell ⟨gb358, 1, none⟩ (.slice A357_1 ((rd_T124 ((rd_T95 l0_3 a2).f1) x20_1).f1).length c357_1)).heap[gb349]? = some (.cells #[.int .i64 a0_0, .int .i64 a0_1, .slice A0_2 l0_2.length c0_2, .slice (some ad356) l0_3.length c0_3] 33 (0, 0))) := ⟨by refine Sh.pl ?_; refine blk_far ?_ NB349_358.out _; refine Sh.pl ?_; refine blk_far ?_ NB349_358.out _; refine Sh.pl ?_; exact BK349.out⟩
           have n2_ : Aside0 (((w19.setCell ⟨gb358, 0, none⟩ (.int .i64 ((rd_T124 ((rd_T95 l0_3 a2).f1) x20_1).f0))).setCell ⟨gb358, 1, none⟩ (.slice A357_1 ((rd_T124 ((rd_T95 l0_3 a2).f1) x20_1).f1).length c357_1)).heap[gb358]? = some (.cells #[.int .i64 ((rd_T124 ((rd_T95 l0_3 a2).f1) x20_1).f0), .slice A357_1 ((rd_T124 ((rd_T95 l0_3 a2).f1) x20_1).f1).length c357_1] 124 (0, 0))) := ⟨by refine Sh.pl ?_; refine blk_put (cs := #[.int .i64 ((rd_T124 ((rd_T95 l0_3 a2).f1) x20_1).f0), .slice none 0 0]) ?_ 1 _ rfl; refine Sh.pl ?_; refine blk_put (cs := #[.int .i64 0, .slice none 0 0]) ?_ 0 _ rfl; refine Sh.pl ?_; exact BK358.out⟩
           have n3_ : Aside0 (Below w.heap.size w ((w19.setCell ⟨gb358, 0, none⟩ (.int .i64 ((rd_T124 ((rd_T95 l0_3 a2).f1) x20_1).f0))).setCell ⟨gb358, 1, none⟩ (.slice A357_1 ((rd_T124 ((rd_T95 l0_3 a2).f1) x20_1).f1).length c357_1))) := ⟨Sh.bw⟩
           (try clear HO_7)
           (try clear BK349)
           (try clear BK358)
           (try clear HB)
           generalize ((w19.setCell ⟨gb358, 0, none⟩ (.int .i64 ((rd_T124 ((rd_T95 l0_3 a2).f1) x20_1).f0))).setCell ⟨gb358, 1, none⟩ (.slice A357_1 ((rd_T124 ((rd_T95 l0_3 a2).f1) x20_1).f1).length c357_1)) = w22 at n0_ n1_ n2_ n3_ ⊢
           have HO_7 := n0_
           have BK349 := n1_
           have BK358 := n2_
           have HB := n3_
           clear n0_ n1_ n2_ n3_
           replace HO_7 := am_ (Kd.R_drew HO_7.out)
           replace BK349 := am_ (blk_drew BK349.out)
           replace BK358 := am_ (blk_drew BK358.out)
           replace HB := am_ (below_drew1 HB.out)
           refine start_ (n := 15) (S := fun w' => w'.cell? ⟨gb358, 0, none⟩ = some (.int .i64 ((rd_T124 ((rd_T95 l0_3 a2).f1) x20_1).f0)) ∧ w'.cell? ⟨gb358, 1, none⟩ = some (.slice A357_1 ((rd_T124 ((rd_T95 l0_3 a2).f1) x20_1).f1).length c357_1) ∧ w'.cell? ⟨gb349, 0, none⟩ = some (.int .i64 a0_0) ∧ w'.cell? ⟨gb349, 1, none⟩ = some (.int .i64 a0_1) ∧ w'.cell? ⟨gb349, 2, none⟩ = some (.slice A0_2 l0_2.length c0_2) ∧ w'.cell? ⟨gb349, 3, none⟩ = some (.slice (some ad356) l0_3.length c0_3)) (ds := [14]) (Sh.nm 15 0) (by kernel_rfl) rfl rfl Sh.cs (fun hHeld => ?_); refine with_tabW spec_l7Do.tab5 spec_l7Do.bits5 (fun HT_ HW_ => ?_)
           generalize w22.drew = w23 at HO_7 BK349 BK358 HB hHeld ⊢
           refine Sh.qA 0 ?_; refine Sh.qA 1 ?_; refine Sh.qA 3 ?_; refine Sh.qA 5 ?_; refine Sh.qA 7 ?_; refine Sh.qA 11 ?_; refine Sh.qT 2 hHeld ?_; refine Sh.qT 4 hHeld ?_; refine Sh.qT 6 hHeld ?_; refine Sh.qT 8 hHeld ?_; refine Sh.qA 9 ?_; refine Sh.qA 10 ?_
           refine Sh.oC 12 Tryz.func101 #[.int .i64 a0_0, .slice A357_1 ((rd_T124 ((rd_T95 l0_3 a2).f1) x20_1).f1).length c357_1, .int .i64 (wrap64 ((((rd_T124 ((rd_T95 l0_3 a2).f1) x20_1).f1).length : Int) - 1)), .slice A1 l1.length c1] fun K hK => ?_
           with_reducible refine (spec_l2Value.calls k1 a0_0 _ _ ((rd_T124 ((rd_T95 l0_3 a2).f1) x20_1).f1) (wrap64 ((((rd_T124 ((rd_T95 l0_3 a2).f1) x20_1).f1).length : Int) - 1)) _ _ l1 t359 _ (Sh.cB HR357_1.out) HC357_1.out (Sh.cB HR1.out) HC1.out A15.out).mono ?_
           rintro e w24 ⟨rfl, hb⟩
           refine ⟨_, rfl, ?_⟩
           replace HO_7 := am_ (Kd.R_below (Sh.rl HO_7.out) hb)
           replace BK349 := Sh.ab BK349 hb
           replace BK358 := Sh.ab BK358 hb
           replace HB := Sh.hb hb
           (try clear hb)
           have p18 : 0 ≤ (((rd_T124 ((rd_T95 l0_3 a2).f1) x20_1).f0) : Int) := Sh.od
           have q18 : (((rd_T124 ((rd_T95 l0_3 a2).f1) x20_1).f0) : Int) < ((x7_1.length : Int) : Int) := Sh.od
           obtain ⟨go18, co18, eo18, gb18, gl18, cl18, HG18⟩ := Kd.R_form HO_7.out (by omega)
           (first | cases eo18 | (injection eo18 with ea_ en_ ec_; (first | subst ea_ | (injection ea_ with ea_; subst ea_)); subst ec_; clear en_))
           have GB18 := am_ gb18
           have GG18 := am_ HG18
           clear gb18 gl18 HG18
           obtain ⟨hx18_0, hf18_0⟩ := Kd.R_celln 0 HO_7.out (((rd_T124 ((rd_T95 l0_3 a2).f1) x20_1).f0) : Int) p18 q18
           replace p18 := eq_true p18
           replace q18 := eq_true q18
           have HP25 := Kd.R_putn HO_7.out (((rd_T124 ((rd_T95 l0_3 a2).f1) x20_1).f0) : Int) t359
           rw [← Ny360.out] at HP25
           have HQ25 := am_ HP25
           clear HP25
           refine Sh.kN hK Sh.cs fun hHeld => ?_
           clear hK K
           refine Sh.qA 13 ?_
           refine last_ (i := 14) (N := none) (Sh.nm 15 32767) rfl rfl (one_of HT_.out (by kernel_rfl)) (by decide) (fun K hK => ?_)
           refine skip_ (w1 := ?_) (by rfl) rfl ?_ ?_
           rotate_left
           ·go_simp
            rfl
           refine hK.out _ _ ?_
           clear hK K
           refine done_ (done_of HT_.out (by kernel_rfl)) ?_
           try go_wp2
           go_roundg k1
           case measure => have := HK1.out; omega
           case rel => exact ⟨(y360), (wrap64 (x20_1 + 1)), (Sh.es), H', ⟨by have := HK1.out; omega⟩, ⟨by (with_reducible repeat (first | apply Kd.R_alloc | apply Kd.R_drewN | apply Kd.R_drew)); exact HQ25.out⟩, ⟨by refine Sh.pl ?_; refine blk_far ?_ (by have h_ := Kd.R_ne HO_7.out BK349.out (by decide); intro e_; exact h_ (by rw [e_]; rfl)) _; refine Sh.pl ?_; exact BK349.out⟩, ⟨Sh.bw⟩⟩
          ·rw [if_neg c17] at H
           cases H
         ·rw [if_neg c16] at H
          cases H
        ·rw [if_neg c14] at H
         cases H
       ·rw [if_neg c13] at H
        cases H
      ·rw [if_neg c12] at H
       replace c12 := decide_eq_false c12
       obtain rfl := Option.some.inj H
       go_wp2
       go_ret
       exact ⟨_, Sh.eR, Sh.rl HO_7.out, Sh.bw⟩
   ·rw [if_neg c6] at H
    cases H
  ·rw [if_neg c5] at H
   cases H
 ·rw [if_neg c4] at H
  cases H
def spec_l8Next.l0 : Nat → Int → List Int → List Int → List Int → Int → Int → Int → Int → List (S79) → List (S95) → Option (List Int)
 | 0, _, _, _, _, _, _, _, _, _, _ => none
 | k + 1, x1, x5, x6, x14, x15, x16, x362000, x362001, x362002, x362003 => if x16 < x15 then (if 0 ≤ x16 then (if x16 < (x14.length : Int) then ((spec_l7Do.f k x362000 x362001 x362002 x362003 x5 (rd x14 x16)).bind fun t369 => ((spec_l7No.f k x362000 x362001 x362002 x362003 t369).bind fun t372 => ((spec_l1Put.f k x6 t372).bind fun t373 => (spec_l8Next.l0 k x1 x5 t373 x14 x15 (wrap64 (x16 + 1)) x362000 x362001 x362002 x362003)))) else (none)) else (none)) else (if (x6.length : Int) = 0 then (some (([x1] : List Int))) else (some x6))
def spec_l8Next.f (k : Nat) (a0_0 : Int) (a0_1 : Int) (l0_2 : List (S79)) (l0_3 : List (S95)) (a1 : Int) : Option (List Int) := (spec_l7Of.f k a0_0 a0_1 l0_2 l0_3 a1).bind fun t362 => ((spec_l7Enabled.f k a0_0 a0_1 l0_2 l0_3 t362).bind fun t365 => (spec_l8Next.l0 k a1 t362 ([] : List Int) t365 (t365.length : Int) 0 a0_0 a0_1 l0_2 l0_3))
theorem spec_l8Next.mono_l : ∀ k, (∀ y0 y1 y2 y3 y4 y5 y6 y7 y8 y9, LeO (spec_l8Next.l0 k y0 y1 y2 y3 y4 y5 y6 y7 y8 y9) (spec_l8Next.l0 (k + 1) y0 y1 y2 y3 y4 y5 y6 y7 y8 y9))
 | 0 => fun _ _ _ _ _ _ _ _ _ _ r h => by simp [spec_l8Next.l0] at h
 | k + 1 => by
  have ih0 := spec_l8Next.mono_l k
  ·intro y0 y1 y2 y3 y4 y5 y6 y7 y8 y9
   unfold spec_l8Next.l0
   repeat' with_reducible first | apply ih0 | apply spec_l1Put.mono | apply spec_l7Do.mono | apply spec_l7Enabled.mono | apply spec_l7No.mono | apply spec_l7Of.mono | exact LeO.refl _ | exact LeO.none _ | apply LeO.ite | refine LeO.bind ?_ fun _ => ?_
theorem spec_l8Next.mono : ∀ a0 a1 a2 a3 a4 k, LeO (spec_l8Next.f k a0 a1 a2 a3 a4) (spec_l8Next.f (k + 1) a0 a1 a2 a3 a4) := by
 intro a0 a1 a2 a3 a4 k
 have ih0 := spec_l8Next.mono_l k
 unfold spec_l8Next.f
 repeat' with_reducible first | apply ih0 | apply spec_l1Put.mono | apply spec_l7Do.mono | apply spec_l7Enabled.mono | apply spec_l7No.mono | apply spec_l7Of.mono | exact LeO.refl _ | exact LeO.none _ | apply LeO.ite | refine LeO.bind ?_ fun _ => ?_
def spec_l8Next.T6 : Bool × List (List Nat × List Nat) := (true, [([], []), ([], []), ([], []), ([], []), ([], []), ([2, 3, 4], [2, 3, 4]), ([1, 5, 5], [1, 5]), ([0, 6, 6], [0, 6]), ([7, 7, 0, 1, 2, 3, 4, 5, 6, 7], [0, 7])])
def spec_l8Next.B6 : List Nat := [0, 0, 0, 0, 0, 28, 62, 127, 255]
theorem spec_l8Next.tab6 : rtab .any (opsOf Tryz.f40 6) = spec_l8Next.T6 := by kernel_rfl
theorem spec_l8Next.bits6 : waitsOk spec_l8Next.T6.2 spec_l8Next.B6 = true := by kernel_rfl
theorem spec_l8Next.calls (k : Nat) (a0_0 : Int) (a0_1 : Int) (A0_2 : Option Addr) (c0_2 : Nat) (l0_2 : List (S79)) (A0_3 : Option Addr) (c0_3 : Nat) (l0_3 : List (S95)) (a1 : Int) (r : List Int) (w : World) (hr0_2 : Kd.C k79 w A0_2 l0_2.length l0_2) (hc0_2 : l0_2.length ≤ c0_2) (hr0_3 : Kd.C k95 w A0_3 l0_3.length l0_3) (hc0_3 : l0_3.length ≤ c0_3) (h : spec_l8Next.f k a0_0 a0_1 l0_2 l0_3 a1 = some r) :
  Calls Tryz.prog 40 #[.agg #[.int .i64 a0_0, .int .i64 a0_1, .slice A0_2 l0_2.length c0_2, .slice A0_3 l0_3.length c0_3], .int .i64 a1] w fun e w' => ∃ v0_ : Value, e = .returned (v0_) ∧ Kd.R (Kd.int .i64) 3 w' w.heap.size (fun _ => True) v0_ r ∧ Below w.heap.size w w' := by
 have hu33 := Tryz.underlying33
 have HR0_2 := am_ hr0_2
 have HC0_2 := am_ hc0_2
 clear hr0_2 hc0_2
 have HR0_3 := am_ hr0_3
 have HC0_3 := am_ hc0_3
 clear hr0_3 hc0_3
 have HB := am_ (Below.refl w.heap.size w)
 have H := h
 clear h
 unfold spec_l8Next.f at H
 obtain ⟨t362, A3, H⟩ := Sh.ba H
 obtain ⟨t365, A4, H⟩ := Sh.ba H
 have H' := am_ H
 clear H
 go_enter Tryz.func40, Tryz.ntmps40
 go_wp2_with (first | ((with_reducible refine Sh.d 2 ?_); refine Sh.bz w (N := 2) (cs := #[.int .i64 a0_0, .int .i64 a0_1, .slice A0_2 l0_2.length c0_2, .slice A0_3 l0_3.length c0_3]) (t := 33) (h := ?_); clear HB; intro gb361 w5 BK361 GE361 HB; obtain ⟨hcz6_0, hcz6_1, hcz6_2, hcz6_3, hfz6_0, hfz6_1, hfz6_2, hfz6_3⟩ := Sh.b4 BK361.out) | ((with_reducible refine Sh.k 61 ?_); refine Sh.gL (some 11) Tryz.func61 #[.agg #[.int .i64 a0_0, .int .i64 a0_1, .slice A0_2 l0_2.length c0_2, .slice A0_3 l0_3.length c0_3], .int .i64 a1] (h := ?_); (with_reducible refine (spec_l7Of.calls k a0_0 a0_1 _ _ l0_2 _ _ l0_3 a1 t362 _ (Sh.cB HR0_2.out) HC0_2.out (Sh.cB HR0_3.out) HC0_3.out A3.out).mono ?_); rintro e w7 ⟨v363, rfl, ho0, hb⟩; refine ⟨_, rfl, ?_⟩; have HO364 := am_ (Kd.R_lower ho0 (below_size Sh.bw)); replace BK361 := Sh.ab BK361 hb; replace HB := Sh.hb hb; (try clear hb); (try clear ho0); obtain ⟨hcz8_0, hcz8_1, hcz8_2, hcz8_3, hfz8_0, hfz8_1, hfz8_2, hfz8_3⟩ := Sh.b4 BK361.out; obtain ⟨Ao9, co9, eo9⟩ := Kd.R_slice HO364.out; subst eo9) | ((with_reducible refine Sh.k 73 ?_); refine Sh.gL (some 14) Tryz.func73 #[.agg #[.int .i64 a0_0, .int .i64 a0_1, .slice A0_2 l0_2.length c0_2, .slice A0_3 l0_3.length c0_3], .slice Ao9 t362.length co9] (h := ?_); (with_reducible refine (spec_l7Enabled.calls k a0_0 a0_1 _ _ l0_2 _ _ l0_3 _ _ t362 t365 _ (Sh.cB HR0_2.out) HC0_2.out (Sh.cB HR0_3.out) HC0_3.out (Sh.cR (Kd.R_reads' HO364.out).2.2) (Kd.R_reads' HO364.out).2.1 A4.out).mono ?_); rintro e w10 ⟨v366, rfl, ho0, hb⟩; refine ⟨_, rfl, ?_⟩; replace HO364 := am_ (Kd.R_below (Sh.rl HO364.out) hb); have HO367 := am_ (Kd.R_lower ho0 (below_size Sh.bw)); replace BK361 := Sh.ab BK361 hb; replace HB := Sh.hb hb; (try clear hb); (try clear ho0); obtain ⟨Ao11, co11, eo11⟩ := Kd.R_slice HO367.out; subst eo11))
 go_loopg [6, 16] k (fun kq v6 v16 w' => ∃ (x6_1 : List Int) (x16_1 : Int), v16 = .int .i64 x16_1 ∧ Aside0 (spec_l8Next.l0 kq a1 t362 x6_1 t365 (t365.length : Int) x16_1 a0_0 a0_1 l0_2 l0_3 = some r) ∧ Aside0 (kq ≤ k) ∧ Aside0 (Kd.R (Kd.int .u64) 77 w' w.heap.size (fun _ => True) (.slice Ao9 t362.length co9) t362) ∧ Aside0 (Kd.R (Kd.int .i64) 3 w' w.heap.size (fun k_ => some k_ ≠ ((.slice Ao11 t365.length co11) : Value).ownBlock) v6 x6_1) ∧ Aside0 (Kd.R (Kd.int .i64) 3 w' w.heap.size (fun k_ => some k_ ≠ (v6 : Value).ownBlock) (.slice Ao11 t365.length co11) t365) ∧ Aside0 (w'.heap[gb361]? = some (.cells #[.int .i64 a0_0, .int .i64 a0_1, (.slice A0_2 l0_2.length c0_2), (.slice A0_3 l0_3.length c0_3)] 33 (0, 0))) ∧ Aside0 (Below w.heap.size w w'))
 case atStart => exact ⟨(([] : List Int)), (0), (Sh.es), H', ⟨Nat.le_refl _⟩, ⟨Sh.rl HO364.out⟩, ⟨by first | exact Kd.R_nil _ _ _ _ _ | exact Kd.N_nil _ _ _ _ _ | exact Kd.V_nil _ _ _ _ _ | exact Kd.Q_nil _ _ _ _ _ | exact Kd.S_nil _ _ _ _ _⟩, ⟨Sh.rl (Kd.R_mono HO367.out (fun _ hk => (by simp [Value.ownBlock])))⟩, ⟨by refine Sh.pl ?_; exact BK361.out⟩, ⟨Sh.bw⟩⟩
 case round =>
  clear H'
  try clear hcz6_0
  try clear hcz6_1
  try clear hcz6_2
  try clear hcz6_3
  try clear hcz8_0
  try clear hcz8_1
  try clear hcz8_2
  try clear hcz8_3
  try clear hfz6_0
  try clear hfz6_1
  try clear hfz6_2
  try clear hfz6_3
  try clear hfz8_0
  try clear hfz8_1
  try clear hfz8_2
  try clear hfz8_3
  obtain ⟨x6_1, x16_1, rfl, HA, HK1, HO_5, HO_6, HO_14, BK361, HB⟩ := hrel
  cases gk with
  | zero => exact absurd HA.out (by simp [spec_l8Next.l0])
  | succ k1 =>
   have H := HA.out
   clear HA
   simp only [spec_l8Next.l0] at H
   by_cases c12 : x16_1 < (t365.length : Int)
   ·rw [if_pos c12] at H
    replace c12 := decide_eq_true c12
    by_cases c13 : 0 ≤ x16_1
    ·rw [if_pos c13] at H
     replace c13 := decide_eq_true c13
     by_cases c14 : x16_1 < (t365.length : Int)
     ·rw [if_pos c14] at H
      replace c14 := decide_eq_true c14
      obtain ⟨t369, A15, H⟩ := Sh.ba H
      obtain ⟨t372, A16, H⟩ := Sh.ba H
      obtain ⟨t373, A17, H⟩ := Sh.ba H
      have H' := am_ H
      clear H
      have p368 : 0 ≤ (x16_1 : Int) := Sh.od
      have q368 : x16_1 < (t365.length : Int) := Sh.od
      obtain ⟨ad368, e368, hx368_0⟩ := Kd.at_int (Kd.R_reads' HO_14.out).2.2 x16_1 p368 q368
      cases e368
      replace p368 := eq_true p368
      replace q368 := eq_true q368
      try go_wp2
      replace HO_5 := am_ (Kd.R_drew HO_5.out)
      replace HO_6 := am_ (Kd.R_drew HO_6.out)
      replace HO_14 := am_ (Kd.R_drew HO_14.out)
      replace BK361 := am_ (blk_drew BK361.out)
      replace HB := am_ (below_drew1 HB.out)
      refine start_ (n := 9) (S := fun w' => w'.cell? ⟨gb361, 0, none⟩ = some (.int .i64 a0_0) ∧ w'.cell? ⟨gb361, 1, none⟩ = some (.int .i64 a0_1) ∧ w'.cell? ⟨gb361, 2, none⟩ = some (.slice A0_2 l0_2.length c0_2) ∧ w'.cell? ⟨gb361, 3, none⟩ = some (.slice A0_3 l0_3.length c0_3)) (ds := []) (Sh.nm 9 0) (by kernel_rfl) rfl rfl Sh.cs (fun hHeld => ?_); refine with_tabW spec_l8Next.tab6 spec_l8Next.bits6 (fun HT_ HW_ => ?_)
      generalize wr.drew = w18 at HO_5 HO_6 HO_14 BK361 HB hHeld ⊢
      refine Sh.qA 0 ?_; refine Sh.qA 3 ?_; refine Sh.qA 4 ?_; refine Sh.qT 1 hHeld ?_; refine Sh.qT 2 hHeld ?_
      refine Sh.oC 5 Tryz.func87 #[.agg #[.int .i64 a0_0, .int .i64 a0_1, .slice A0_2 l0_2.length c0_2, .slice A0_3 l0_3.length c0_3], .slice Ao9 t362.length co9, .int .i64 (rd t365 x16_1)] fun K hK => ?_
      with_reducible refine (spec_l7Do.calls k1 a0_0 a0_1 _ _ l0_2 _ _ l0_3 _ _ t362 (rd t365 x16_1) t369 _ (Sh.cB HR0_2.out) HC0_2.out (Sh.cB HR0_3.out) HC0_3.out (Sh.cR (Kd.R_reads' HO_5.out).2.2) (Kd.R_reads' HO_5.out).2.1 A15.out).mono ?_
      rintro e w19 ⟨v370, rfl, ho0, hb⟩
      refine ⟨_, rfl, ?_⟩
      replace HO_6 := am_ (Kd.R_below (Sh.rl HO_6.out) hb)
      replace HO_14 := am_ (Kd.R_below (Sh.rl HO_14.out) hb)
      have HO371 := am_ (Kd.R_lower (Kd.R_new' ho0 (Kd.R_lt (Sh.rl HO_5.out))) (below_size Sh.bw))
      replace HO_5 := am_ (Kd.R_elder' (Sh.rl HO_5.out) (Kd.R_base ho0) hb)
      replace BK361 := Sh.ab BK361 hb
      replace HB := Sh.hb hb
      (try clear hb)
      (try clear hk)
      (try clear ho0)
      obtain ⟨Ao20, co20, eo20⟩ := Kd.R_slice HO371.out
      (first | subst eo20 | (injection eo20 with f1_ f2_ f3_; have f4_ := f1_.symm; have f5_ := f3_.symm; clear f1_ f2_ f3_; subst f4_; subst f5_))
      refine Sh.kN hK Sh.cs fun hHeld => ?_
      clear hK K
      refine Sh.oC 6 Tryz.func86 #[.agg #[.int .i64 a0_0, .int .i64 a0_1, .slice A0_2 l0_2.length c0_2, .slice A0_3 l0_3.length c0_3], .slice Ao20 t369.length co20] fun K hK => ?_
      with_reducible refine (spec_l7No.calls k1 a0_0 a0_1 _ _ l0_2 _ _ l0_3 _ _ t369 t372 _ (Sh.cB HR0_2.out) HC0_2.out (Sh.cB HR0_3.out) HC0_3.out (Sh.cR (Kd.R_reads' HO371.out).2.2) (Kd.R_reads' HO371.out).2.1 A16.out).mono ?_
      rintro e w21 ⟨rfl, hb⟩
      refine ⟨_, rfl, ?_⟩
      replace HO_5 := am_ (Kd.R_below (Sh.rl HO_5.out) hb)
      replace HO_6 := am_ (Kd.R_below (Sh.rl HO_6.out) hb)
      replace HO_14 := am_ (Kd.R_below (Sh.rl HO_14.out) hb)
      replace HO371 := am_ (Kd.R_below (Sh.rl HO371.out) hb)
      replace BK361 := Sh.ab BK361 hb
      replace HB := Sh.hb hb
      (try clear hb)
      obtain ⟨Ao22, co22, eo22⟩ := Kd.R_slice HO_6.out
      (first | subst eo22 | (injection eo22 with f1_ f2_ f3_; have f4_ := f1_.symm; have f5_ := f3_.symm; clear f1_ f2_ f3_; subst f4_; subst f5_))
      refine Sh.kN hK Sh.cs fun hHeld => ?_
      clear hK K
      refine Sh.oC 7 Tryz.func85 #[.slice Ao22 x6_1.length co22, .int .i64 t372] fun K hK => ?_
      with_reducible refine (spec_l1Put.calls k1 (fun k_ => some k_ = (.slice Ao22 x6_1.length co22 : Value).ownBlock) (.slice Ao22 x6_1.length co22) x6_1 t372 t373 w _ ?side1 ?side2 A17.out).mono ?_
      (case side1 => repeat (first | (with_reducible first | exact HB.out | apply below_alloc | apply pw_below_drewN | apply below_drew1 | refine below_set ?_ GE361.out) | exact HB.out))
      (case side2 => exact Kd.R_tight rfl HO_6.out)
      rintro e w23 ⟨v374, rfl, ho0, hb, hkp⟩
      refine ⟨_, rfl, ?_⟩
      have n0_ := am_ (Kd.R_mono (ok' := fun k_ => some k_ ≠ (.slice Ao20 t369.length co20 : Value).ownBlock) (Kd.R_keptB ((Kd.R_apart' HO_5.out (Kd.R_typed HO_6.out) (by decide))) hkp (fun k_ hk_ hs_ => (hk_.2) hs_)) (fun k_ hk_ => hk_.1.1.2))
      have n1_ := am_ (Kd.R_mono (ok' := fun k_ => some k_ ≠ (v374 : Value).ownBlock) (Kd.R_keptB (HO_14.out) hkp (fun k_ hk_ hs_ => (hk_) hs_)) (fun k_ hk_ => fun e_ => Or.elim (ho0.1 k_ e_.symm) (fun hs_ => hk_.2.1 hs_) (fun hn_ => Nat.not_le.2 hk_.2.2 hn_)))
      have n2_ := am_ (blk_kept (Sh.pl BK361.out) hkp (fun hs_ => (fun e_ => (Kd.R_ne HO_6.out BK361.out (by decide)) e_) hs_))
      have n3_ := am_ (Kd.R_mono (ok' := fun k_ => some k_ ≠ (.slice Ao9 t362.length co9 : Value).ownBlock) (Kd.R_keptB ((Kd.R_apart' HO371.out (Kd.R_typed HO_6.out) (by decide))) hkp (fun k_ hk_ hs_ => (hk_.2) hs_)) (fun k_ hk_ => hk_.1.1.2))
      have n4_ := am_ (Kd.R_mono (ok' := fun k_ => some k_ ≠ (.slice (some ad368) t365.length co11 : Value).ownBlock) ho0 (fun k_ hk_ => Or.elim hk_ (fun hs_ => fun e_ => (((HO_14.out).1 k_ e_.symm)) hs_) (fun hn_ => (Kd.fresh' (Kd.R_lt (Sh.rl HO_14.out)) k_ hn_))))
      have n5_ := am_ hb
      clear HO_5
      clear HO_14
      clear BK361
      clear HO371
      clear HB
      clear HO_6
      have HO_5 := n0_
      have HO_14 := n1_
      have BK361 := n2_
      have HO371 := n3_
      have HO375 := n4_
      have HB := n5_
      clear n0_ n1_ n2_ n3_ n4_ n5_
      (try clear hb)
      (try clear hkp)
      (try clear ho0)
      refine Sh.kN hK Sh.cs fun hHeld => ?_
      clear hK K
      refine Sh.qA 8 ?_
      refine done_ (done_of HT_.out (by kernel_rfl)) ?_
      try go_wp2
      go_roundg k1
      case measure => have := HK1.out; omega
      case rel => exact ⟨(t373), (wrap64 (x16_1 + 1)), (Sh.es), H', ⟨by have := HK1.out; omega⟩, ⟨Sh.rl (Kd.R_mono HO_5.out (fun _ hk => trivial))⟩, ⟨Sh.rl HO375.out⟩, ⟨Sh.rl HO_14.out⟩, ⟨by refine Sh.pl ?_; exact BK361.out⟩, ⟨Sh.bw⟩⟩
     ·rw [if_neg c14] at H
      cases H
    ·rw [if_neg c13] at H
     cases H
   ·rw [if_neg c12] at H
    replace c12 := decide_eq_false c12
    by_cases c24 : (x6_1.length : Int) = 0
    ·rw [if_pos c24] at H
     have c24b0 : ((x6_1.length : Int) == 0) = true := beq_iff_eq.mpr c24
     have c24b1 : ((x6_1.length : Int) != 0) = false := bne_eq_false_iff_eq.mpr c24
     clear c24
     obtain ⟨y376, hy376⟩ : ∃ y_ : List Int, y_ = (([a1] : List Int)) := ⟨_, rfl⟩
     replace H : (some y376) = some r := by first | (rw [hy376]; with_reducible exact H) | (have H2_ := (Option.bind_some _ _).symm.trans H; rw [hy376]; with_reducible exact H2_) | (have H2_ := (Option.bind_some _ _).symm.trans H; with_reducible exact H2_) | with_reducible exact H | (rw [hy376]; exact H) | exact H
     have Ny376 := am_ hy376
     clear hy376
     obtain rfl := Option.some.inj H
     obtain ⟨Ao25, co25, eo25⟩ := Kd.R_slice HO_6.out
     subst eo25
     go_wp2_with (first | ((with_reducible refine Sh.d 33 ?_); refine Kd.R_lit (Kd.int .i64) _ 3 ?hg (N := 33) ?hd (xs := ([a1] : List Int)) (inner := [.int .i64 a1]) (ok := fun _ => True) (okp := fun _ => True) ?hr ?hp (fun _ hk => hk) trivial (Below.refl _ _) (Nat.le_refl _) (by simp) ?_; (case hd => rfl); (case hg => rfl); (case hr => first | (go_simp; done) | (go_simp; rfl)); (case hp => exact (Reps.one (show Kd.M (Kd.int .i64) _ _ _ a1 [.int .i64 a1] from rfl) (Reps.none _ _))); intro v377 w26 ho27 hb hg_ hnew_; clear hg_ hnew_; (first | rw [← Ny376.out] at ho27 | (simp only [Int.reduceToNat] at ho27; rw [← Ny376.out] at ho27)); replace HO_5 := am_ (Kd.R_below (Sh.rl HO_5.out) hb); have HO378 := am_ (Kd.R_lower (Kd.R_new' (Kd.R_new' ho27 (Kd.R_lt (Sh.rl HO_6.out))) (Kd.R_lt (Sh.rl HO_14.out))) (below_size Sh.bw)); replace HO_6 := am_ (Kd.R_elder' (Sh.rl HO_6.out) (Kd.R_base ho27) hb); replace HO_14 := am_ (Kd.R_elder' (Sh.rl HO_14.out) (Kd.R_base ho27) hb); replace BK361 := Sh.ab BK361 hb; replace HB := Sh.hb hb; clear hb ho27))
     go_ret
     exact ⟨_, Sh.eR, Sh.rl (Kd.R_mono HO378.out (fun _ hk => trivial)), Sh.bw⟩
    ·rw [if_neg c24] at H
     have c24b0 : ((x6_1.length : Int) == 0) = false := beq_eq_false_iff_ne.mpr c24
     have c24b1 : ((x6_1.length : Int) != 0) = true := bne_iff_ne.mpr c24
     have c24b2 : ¬ (x6_1 = []) := fun h_ => c24 (by rw [h_]; rfl)
     obtain rfl := Option.some.inj H
     obtain ⟨Ao28, co28, eo28⟩ := Kd.R_slice HO_6.out
     subst eo28
     go_wp2
     go_ret
     exact ⟨_, Sh.eR, Sh.rl (Kd.R_mono HO_6.out (fun _ hk => trivial)), Sh.bw⟩
theorem slices_IndexFunc_int_int.gen (g : Nat) (lb : Array Value) (eg : ∀ args w, (callFunc g args).run Tryz.prog w = .ok (.enter g args) w) (q : Int → Option Bool) (A0 : Option Addr) (c0 : Nat) (l0 : List (Int)) (r : Int) (w : World) (hr0 : Kd.C (Kd.int .i64) w A0 l0.length l0) (hc0 : l0.length ≤ c0)
  (hp : ∀ (W : World) (x : Int) (b : Bool), Below w.heap.size w W → x ∈ l0 → q x = some b → Calls Tryz.prog g (#[.int .i64 x] ++ lb) W fun e w' => e = .returned (.bool b) ∧ Below W.heap.size W w')
  (h : idxO q l0 0 = some r) : Calls Tryz.prog 96 #[.slice A0 l0.length c0, .func (.func g) #[] lb] w fun e w' => e = .returned (.int .i64 r) ∧ Below w.heap.size w w' := by
 have HR := am_ hr0
 have HP := am_ hp
 have HH := am_ h
 have hn : l0.length ≤ 9223372036854775807 := hr0.2.1
 clear hr0 hp h
 go_enter Tryz.func96, Tryz.ntmps96
 go_wp2
 go_loopg [5, 8] l0.length (fun gg _ s8 wr => ∃ kk : Nat, kk ≤ l0.length ∧ l0.length - kk ≤ gg ∧ s8 = .int .i64 kk ∧ Aside0 (idxO q (l0.drop kk) kk = some r) ∧ Aside0 (Below w.heap.size w wr))
 case atStart => exact ⟨0, Nat.zero_le _, by omega, rfl, HH, ⟨Below.refl _ _⟩⟩
 case round =>
  obtain ⟨kk, hkk, hg, rfl, HA, HB⟩ := hrel
  clear HH
  by_cases hlt : kk < l0.length
  ·have hltz : (kk : Int) < (l0.length : Int) := by omega
   have h0z : 0 ≤ (kk : Int) := by omega
   obtain ⟨ad, e, hx⟩ := Kd.at_int HR.out (kk : Int) h0z hltz
   have er : rd l0 (kk : Int) = l0.getD kk 0 := by simp [rd]
   rw [er] at hx
   have hA := HA.out
   rw [drop_getD hlt 0] at hA
   obtain ⟨b, hb, hA2⟩ := Option.bind_eq_some_iff.mp hA
   have HA2 := am_ hA2
   have hin := getD_in hlt (0 : Int)
   have hcall := HP.out wr _ b HB.out hin hb
   generalize l0.getD kk 0 = y at hx hcall
   clear HA hA hA2 hb er hin
   skip
   cases e
   simp only [Int.toNat_natCast] at hx
   replace hx := (HB.out.cell (World.block_lt_of_cell? w _ hx)).trans hx
   cases b with
   | true =>
    go_wp2_with (go_at_fn g; refine hcall.mono ?_; rintro e w' ⟨rfl, hb2⟩)
    go_ret
    have h3 := HA2.out
    simp only [if_true] at h3
    exact ⟨by rw [← Option.some.inj h3]; rfl, below_step HB.out hb2⟩
   | false =>
    go_wp2_with (go_at_fn g; refine hcall.mono ?_; rintro e w' ⟨rfl, hb2⟩)
    go_roundg (l0.length - (kk + 1))
    case measure => omega
    case rel =>
     refine ⟨kk + 1, by omega, by omega, by go_num, ⟨by have h3 := HA2.out; simpa using h3⟩, ⟨below_step HB.out hb2⟩⟩
  ·have hltz : ¬ (kk : Int) < (l0.length : Int) := by omega
   have hA := HA.out
   rw [List.drop_of_length_le (by omega)] at hA
   have h4 : (-1 : Int) = r := Option.some.inj hA
   subst h4
   clear HA hA
   have : kk = l0.length := by omega
   subst this
   go_wp2
   go_ret
   exact ⟨rfl, HB.out⟩
theorem slices_ContainsFunc_int_int.gen (g : Nat) (lb : Array Value) (eg : ∀ args w, (callFunc g args).run Tryz.prog w = .ok (.enter g args) w) (q : Int → Option Bool) (A0 : Option Addr) (c0 : Nat) (l0 : List (Int)) (r : Bool) (w : World) (hr0 : Kd.C (Kd.int .i64) w A0 l0.length l0) (hc0 : l0.length ≤ c0)
  (hp : ∀ (W : World) (x : Int) (b : Bool), Below w.heap.size w W → x ∈ l0 → q x = some b → Calls Tryz.prog g (#[.int .i64 x] ++ lb) W fun e w' => e = .returned (.bool b) ∧ Below W.heap.size W w')
  (h : anyO q l0 = some r) : Calls Tryz.prog 53 #[.slice A0 l0.length c0, .func (.func g) #[] lb] w fun e w' => e = .returned (.bool r) ∧ Below w.heap.size w w' := by
 obtain ⟨i, hi, hd⟩ := idxO_of_anyO l0 r 0 (Int.le_refl 0) h
 have HC := am_ (slices_IndexFunc_int_int.gen g lb eg q A0 c0 l0 i w hr0 hc0 hp hi)
 have HD := am_ hd
 clear hr0 hp h hi hd
 go_enter Tryz.func53, Tryz.ntmps53
 go_wp2_with (go_at_call 96; refine HC.out.mono ?_; rintro e w' ⟨rfl, hb2⟩)
 go_ret
 exact ⟨by rw [← HD.out]; rfl, hb2⟩
def impl_isWide.f (a0 : Int) : Option (Bool) := if a0 ≥ 1 then (some (decide (a0 ≤ 64))) else (some false)
theorem impl_isWide.calls (a0 : Int) (r : Bool) (w : World) (h : impl_isWide.f a0 = some r) :
  Calls Tryz.prog 124 #[.int .i64 a0] w fun e w' => e = .returned (.bool r) ∧ Drawn0 w w' := by
 have H := h
 clear h
 unfold impl_isWide.f at H
 by_cases c2 : a0 ≥ 1
 ·rw [if_pos c2] at H
  have c2b0 : decide (1 ≤ a0) = true := decide_eq_true c2
  clear c2
  obtain rfl := Option.some.inj H
  go_enter Tryz.func124, Tryz.ntmps124
  go_wp2
  go_ret
  exact ⟨Sh.es, Sh.dr⟩
 ·rw [if_neg c2] at H
  have c2b0 : decide (1 ≤ a0) = false := decide_eq_false c2
  clear c2
  obtain rfl := Option.some.inj H
  go_enter Tryz.func124, Tryz.ntmps124
  go_wp2
  go_ret
  exact ⟨Sh.es, Sh.dr⟩
def impl_isVars.f (a0 : Int) : Option (Bool) := if a0 ≥ 1 then (some (decide (a0 ≤ 4))) else (some false)
theorem impl_isVars.calls (a0 : Int) (r : Bool) (w : World) (h : impl_isVars.f a0 = some r) :
  Calls Tryz.prog 125 #[.int .i64 a0] w fun e w' => e = .returned (.bool r) ∧ Drawn0 w w' := by
 have H := h
 clear h
 unfold impl_isVars.f at H
 by_cases c2 : a0 ≥ 1
 ·rw [if_pos c2] at H
  have c2b0 : decide (1 ≤ a0) = true := decide_eq_true c2
  clear c2
  obtain rfl := Option.some.inj H
  go_enter Tryz.func125, Tryz.ntmps125
  go_wp2
  go_ret
  exact ⟨Sh.es, Sh.dr⟩
 ·rw [if_neg c2] at H
  have c2b0 : decide (1 ≤ a0) = false := decide_eq_false c2
  clear c2
  obtain rfl := Option.some.inj H
  go_enter Tryz.func125, Tryz.ntmps125
  go_wp2
  go_ret
  exact ⟨Sh.es, Sh.dr⟩
mutual
def impl_operandsOf.j0 : Nat → Int → Bool → Option (Int × Int × Int)
 | 0, _, _ => none
 | k + 1, x0, x5 => if x5 = true then (some (0, 0, 1)) else (if x0 = 20 then (some (0, 0, 2)) else (if x0 = 13 then (some (1, 1, 1)) else (if x0 = 19 then (some (1, 2, 2)) else (if x0 ≥ 3 then (impl_operandsOf.j1 k x0 (decide (x0 ≤ 12))) else (impl_operandsOf.j1 k x0 false)))))
def impl_operandsOf.j1 : Nat → Int → Bool → Option (Int × Int × Int)
 | 0, _, _ => none
 | k + 1, x0, x21 => if x21 = true then (some (2, 1, 1)) else (if x0 ≥ 14 then (impl_operandsOf.j2 k x0 (decide (x0 ≤ 16))) else (impl_operandsOf.j2 k x0 false))
def impl_operandsOf.j2 : Nat → Int → Bool → Option (Int × Int × Int)
 | 0, _, _ => none
 | k + 1, x0, x28 => if x28 = true then (some (2, 1, 2)) else (if x0 = 17 then (some (2, 2, 2)) else (if x0 = 18 then (some (2, 2, 2)) else (some (0, 0, 0))))
end
def impl_operandsOf.f (k : Nat) (a0 : Int) : Option (Int × Int × Int) := if a0 = 1 then (impl_operandsOf.j0 k a0 true) else (impl_operandsOf.j0 k a0 (a0 == 2))
theorem impl_operandsOf.mono_l : ∀ k, (∀ y0 y1, LeO (impl_operandsOf.j0 k y0 y1) (impl_operandsOf.j0 (k + 1) y0 y1)) ∧ (∀ y0 y1, LeO (impl_operandsOf.j1 k y0 y1) (impl_operandsOf.j1 (k + 1) y0 y1)) ∧ (∀ y0 y1, LeO (impl_operandsOf.j2 k y0 y1) (impl_operandsOf.j2 (k + 1) y0 y1))
 | 0 => ⟨fun _ _ r h => by simp [impl_operandsOf.j0] at h, fun _ _ r h => by simp [impl_operandsOf.j1] at h, fun _ _ r h => by simp [impl_operandsOf.j2] at h⟩
 | k + 1 => by
  obtain ⟨ih0, ih1, ih2⟩ := impl_operandsOf.mono_l k
  and_intros <;> intros
  all_goals (first | unfold impl_operandsOf.j0 | unfold impl_operandsOf.j1 | unfold impl_operandsOf.j2)
  all_goals repeat' with_reducible first | apply ih0 | apply ih1 | apply ih2 | exact LeO.refl _ | exact LeO.none _ | apply LeO.ite | refine LeO.bind ?_ fun _ => ?_
theorem impl_operandsOf.mono : ∀ a0 k, LeO (impl_operandsOf.f k a0) (impl_operandsOf.f (k + 1) a0) := by
 intro a0 k
 obtain ⟨ih0, ih1, ih2⟩ := impl_operandsOf.mono_l k
 unfold impl_operandsOf.f
 repeat' with_reducible first | apply ih0 | apply ih1 | apply ih2 | exact LeO.refl _ | exact LeO.none _ | apply LeO.ite | refine LeO.bind ?_ fun _ => ?_
theorem impl_operandsOf.calls (k : Nat) (a0 : Int) (r1 : Int) (r2 : Int) (r3 : Int) (w : World) (h : impl_operandsOf.f k a0 = some (r1, r2, r3)) :
  Calls Tryz.prog 154 #[.int .i64 a0] w fun e w' => e = .returned (.tuple #[.int .i64 r1, .int .i64 r2, .int .i64 r3]) ∧ Drawn0 w w' := by
 have H := h
 clear h
 unfold impl_operandsOf.f at H
 have HC2 := am_ H
 clear H
 go_enter Tryz.func154, Tryz.ntmps154
 go_upto_region 1 with (fail)
 go_cut [5] (fun v5 wc => ∃ (kq : Nat) (x5_1 : Bool), v5 = .bool x5_1 ∧ Aside0 (impl_operandsOf.j0 kq a0 x5_1 = some (r1, r2, r3)) ∧ Aside0 (kq ≤ k) ∧ Drawn0 w wc)
 case first =>
  have H := HC2.out
  clear HC2
  by_cases c3 : a0 = 1
  ·rw [if_pos c3] at H
   have c3b0 : (a0 == 1) = true := beq_iff_eq.mpr c3
   have c3b1 : (a0 != 1) = false := bne_eq_false_iff_eq.mpr c3
   clear c3
   first | rw [c3b0] | (simp only [i64_w, i32_w]; rw [c3b0]) | skip
   have H' := am_ H
   clear H
   go_wp2
   go_meet
   case rel => exact ⟨_, (true), (Sh.es), H', ⟨Sh.om⟩, Sh.dr⟩
  ·rw [if_neg c3] at H
   have c3b0 : (a0 == 1) = false := beq_eq_false_iff_ne.mpr c3
   have c3b1 : (a0 != 1) = true := bne_iff_ne.mpr c3
   first | rw [c3b0] | (simp only [i64_w, i32_w]; rw [c3b0]) | skip
   have H' := am_ H
   clear H
   go_wp2
   go_meet
   case rel => exact ⟨_, ((a0 == 2)), (Sh.es), H', ⟨Sh.om⟩, Sh.dr⟩
 case rest =>
  clear HC2
  obtain ⟨kq, x5_1, rfl, HA, HJ1, ⟨mc1, rfl⟩⟩ := hcut
  cases kq with
  | zero => exact absurd HA.out (by simp [impl_operandsOf.j0])
  | succ kj1 =>
   have H := HA.out
   clear HA
   simp only [impl_operandsOf.j0] at H
   by_cases c4 : x5_1 = true
   ·subst c4
    rw [if_pos rfl] at H
    simp only [Option.some.injEq, Prod.mk.injEq] at H
    obtain ⟨rfl, rfl, rfl⟩ := H
    go_wp2
    go_ret3
    exact ⟨Sh.es, Sh.dr⟩
   ·replace c4 := Bool.eq_false_iff.mpr c4
    subst c4
    rw [Sh.nf] at H
    by_cases c5 : a0 = 20
    ·rw [if_pos c5] at H
     have c5b0 : (a0 == 20) = true := beq_iff_eq.mpr c5
     have c5b1 : (a0 != 20) = false := bne_eq_false_iff_eq.mpr c5
     clear c5
     simp only [Option.some.injEq, Prod.mk.injEq] at H
     obtain ⟨rfl, rfl, rfl⟩ := H
     go_wp2
     go_ret3
     exact ⟨Sh.es, Sh.dr⟩
    ·rw [if_neg c5] at H
     have c5b0 : (a0 == 20) = false := beq_eq_false_iff_ne.mpr c5
     have c5b1 : (a0 != 20) = true := bne_iff_ne.mpr c5
     by_cases c6 : a0 = 13
     ·rw [if_pos c6] at H
      have c6b0 : (a0 == 13) = true := beq_iff_eq.mpr c6
      have c6b1 : (a0 != 13) = false := bne_eq_false_iff_eq.mpr c6
      clear c6
      simp only [Option.some.injEq, Prod.mk.injEq] at H
      obtain ⟨rfl, rfl, rfl⟩ := H
      go_wp2
      go_ret3
      exact ⟨Sh.es, Sh.dr⟩
     ·rw [if_neg c6] at H
      have c6b0 : (a0 == 13) = false := beq_eq_false_iff_ne.mpr c6
      have c6b1 : (a0 != 13) = true := bne_iff_ne.mpr c6
      by_cases c7 : a0 = 19
      ·rw [if_pos c7] at H
       have c7b0 : (a0 == 19) = true := beq_iff_eq.mpr c7
       have c7b1 : (a0 != 19) = false := bne_eq_false_iff_eq.mpr c7
       clear c7
       simp only [Option.some.injEq, Prod.mk.injEq] at H
       obtain ⟨rfl, rfl, rfl⟩ := H
       go_wp2
       go_ret3
       exact ⟨Sh.es, Sh.dr⟩
      ·rw [if_neg c7] at H
       have c7b0 : (a0 == 19) = false := beq_eq_false_iff_ne.mpr c7
       have c7b1 : (a0 != 19) = true := bne_iff_ne.mpr c7
       have HC8 := am_ H
       clear H
       go_upto_region 9 with (fail)
       go_cut [21] (fun v21 wc => ∃ (kq : Nat) (x21_7 : Bool), v21 = .bool x21_7 ∧ Aside0 (impl_operandsOf.j1 kq a0 x21_7 = some (r1, r2, r3)) ∧ Aside0 (kq ≤ kj1) ∧ Drawn0 w wc)
       case first =>
        have H := HC8.out
        clear HC8
        by_cases c9 : a0 ≥ 3
        ·rw [if_pos c9] at H
         have c9b0 : decide (3 ≤ a0) = true := decide_eq_true c9
         clear c9
         first | rw [c9b0] | (simp only [i64_w, i32_w]; rw [c9b0]) | skip
         have H' := am_ H
         clear H
         go_wp2
         go_meet
         case rel => exact ⟨_, (decide (a0 ≤ 12)), (Sh.es), H', ⟨by have := HJ1.out; first | omega | exact Nat.le_refl _⟩, Sh.dr⟩
        ·rw [if_neg c9] at H
         have c9b0 : decide (3 ≤ a0) = false := decide_eq_false c9
         clear c9
         first | rw [c9b0] | (simp only [i64_w, i32_w]; rw [c9b0]) | skip
         have H' := am_ H
         clear H
         go_wp2
         go_meet
         case rel => exact ⟨_, (false), (Sh.es), H', ⟨by have := HJ1.out; first | omega | exact Nat.le_refl _⟩, Sh.dr⟩
       case rest =>
        clear HC8
        obtain ⟨kq, x21_7, rfl, HA, HJ7, ⟨mc7, rfl⟩⟩ := hcut
        cases kq with
        | zero => exact absurd HA.out (by simp [impl_operandsOf.j1])
        | succ kj7 =>
         have H := HA.out
         clear HA
         simp only [impl_operandsOf.j1] at H
         by_cases c10 : x21_7 = true
         ·subst c10
          rw [if_pos rfl] at H
          simp only [Option.some.injEq, Prod.mk.injEq] at H
          obtain ⟨rfl, rfl, rfl⟩ := H
          go_wp2
          go_ret3
          exact ⟨Sh.es, Sh.dr⟩
         ·replace c10 := Bool.eq_false_iff.mpr c10
          subst c10
          rw [Sh.nf] at H
          have HC11 := am_ H
          clear H
          go_upto_region 11 with (fail)
          go_cut [28] (fun v28 wc => ∃ (kq : Nat) (x28_10 : Bool), v28 = .bool x28_10 ∧ Aside0 (impl_operandsOf.j2 kq a0 x28_10 = some (r1, r2, r3)) ∧ Aside0 (kq ≤ kj7) ∧ Drawn0 w wc)
          case first =>
           have H := HC11.out
           clear HC11
           by_cases c12 : a0 ≥ 14
           ·rw [if_pos c12] at H
            have c12b0 : decide (14 ≤ a0) = true := decide_eq_true c12
            clear c12
            first | rw [c12b0] | (simp only [i64_w, i32_w]; rw [c12b0]) | skip
            have H' := am_ H
            clear H
            go_wp2
            go_meet
            case rel => exact ⟨_, (decide (a0 ≤ 16)), (Sh.es), H', ⟨by have := HJ1.out; have := HJ7.out; first | omega | exact Nat.le_refl _⟩, Sh.dr⟩
           ·rw [if_neg c12] at H
            have c12b0 : decide (14 ≤ a0) = false := decide_eq_false c12
            clear c12
            first | rw [c12b0] | (simp only [i64_w, i32_w]; rw [c12b0]) | skip
            have H' := am_ H
            clear H
            go_wp2
            go_meet
            case rel => exact ⟨_, (false), (Sh.es), H', ⟨by have := HJ1.out; have := HJ7.out; first | omega | exact Nat.le_refl _⟩, Sh.dr⟩
          case rest =>
           clear HC11
           obtain ⟨kq, x28_10, rfl, HA, HJ10, ⟨mc10, rfl⟩⟩ := hcut
           cases kq with
           | zero => exact absurd HA.out (by simp [impl_operandsOf.j2])
           | succ kj10 =>
            have H := HA.out
            clear HA
            simp only [impl_operandsOf.j2] at H
            by_cases c13 : x28_10 = true
            ·subst c13
             rw [if_pos rfl] at H
             simp only [Option.some.injEq, Prod.mk.injEq] at H
             obtain ⟨rfl, rfl, rfl⟩ := H
             go_wp2
             go_ret3
             exact ⟨Sh.es, Sh.dr⟩
            ·replace c13 := Bool.eq_false_iff.mpr c13
             subst c13
             rw [Sh.nf] at H
             by_cases c14 : a0 = 17
             ·rw [if_pos c14] at H
              have c14b0 : (a0 == 17) = true := beq_iff_eq.mpr c14
              have c14b1 : (a0 != 17) = false := bne_eq_false_iff_eq.mpr c14
              clear c14
              simp only [Option.some.injEq, Prod.mk.injEq] at H
              obtain ⟨rfl, rfl, rfl⟩ := H
              go_wp2
              go_ret3
              exact ⟨Sh.es, Sh.dr⟩
             ·rw [if_neg c14] at H
              have c14b0 : (a0 == 17) = false := beq_eq_false_iff_ne.mpr c14
              have c14b1 : (a0 != 17) = true := bne_iff_ne.mpr c14
              by_cases c15 : a0 = 18
              ·rw [if_pos c15] at H
               have c15b0 : (a0 == 18) = true := beq_iff_eq.mpr c15
               have c15b1 : (a0 != 18) = false := bne_eq_false_iff_eq.mpr c15
               clear c15
               simp only [Option.some.injEq, Prod.mk.injEq] at H
               obtain ⟨rfl, rfl, rfl⟩ := H
               go_wp2
               go_ret3
               exact ⟨Sh.es, Sh.dr⟩
              ·rw [if_neg c15] at H
               have c15b0 : (a0 == 18) = false := beq_eq_false_iff_ne.mpr c15
               have c15b1 : (a0 != 18) = true := bne_iff_ne.mpr c15
               simp only [Option.some.injEq, Prod.mk.injEq] at H
               obtain ⟨rfl, rfl, rfl⟩ := H
               go_wp2
               go_ret3
               exact ⟨Sh.es, Sh.dr⟩
def impl_mask.f (a0 : Int) : Option (Int) := if 0 ≤ (wrap64 (64 - a0)) then (some (shr .u64 18446744073709551615 (wrap64 (64 - a0)))) else (none)
theorem impl_mask.calls (a0 : Int) (r : Int) (w : World) (h : impl_mask.f a0 = some r) :
  Calls Tryz.prog 99 #[.int .i64 a0] w fun e w' => e = .returned (.int .u64 r) ∧ Drawn0 w w' := by
 have H := h
 clear h
 unfold impl_mask.f at H
 obtain ⟨ji2, hj1⟩ : ∃ j_ : Int, (wrap64 (64 - a0)) = j_ := ⟨_, rfl⟩
 replace H : (if 0 ≤ (ji2) then (some (shr .u64 18446744073709551615 (ji2))) else (none)) = some r := by first | (rw [hj1] at H; exact H) | (simp only [hj1] at H ⊢; exact H)
 have hji2w : (IntKind.i64.wrap (64 - a0)) = ji2 := (i64_w _).trans hj1
 by_cases c3 : 0 ≤ (ji2)
 ·rw [if_pos c3] at H
  have c3b0 := eq_true c3
  have c3b1 := decide_eq_true c3
  clear c3
  obtain ⟨ji4, hj2⟩ : ∃ j_ : Int, (shr .u64 18446744073709551615 (ji2)) = j_ := ⟨_, rfl⟩
  replace H : (some ji4) = some r := by first | (rw [hj2] at H; exact H) | (simp only [hj2] at H ⊢; exact H)
  have hji4_ : (18446744073709551615 / 2 ^ min (ji2).toNat 64) = ji4 := hj2
  have hji4z : (ji2) ≤ 64 → (18446744073709551615 / 2 ^ (ji2).toNat) = ji4 := shr_small hj2
  obtain rfl := Option.some.inj H
  go_enter Tryz.func99, Tryz.ntmps99
  go_wp2
  go_ret
  exact ⟨by first | rfl | (simp; done) | (simp only [← hj1, ← hj2] <;> (first | rfl | simp)) | (simp [*]; done), Sh.dr⟩
 ·rw [if_neg c3] at H
  cases H
def impl_GoodWord.f (a0 : Int) (a1 : Int) : Option (Bool) := (impl_isWide.f a0).bind fun t409 => (if t409 = true then ((impl_mask.f a0).bind fun t410 => (some (decide (a1 ≤ t410)))) else (some false))
theorem impl_GoodWord.calls (a0 : Int) (a1 : Int) (r : Bool) (w : World) (h : impl_GoodWord.f a0 a1 = some r) :
  Calls Tryz.prog 168 #[.int .i64 a0, .int .u64 a1] w fun e w' => e = .returned (.bool r) ∧ Drawn0 w w' := by
 have H := h
 clear h
 unfold impl_GoodWord.f at H
 obtain ⟨t409, A3, H⟩ := Sh.ba H
 by_cases c4 : t409 = true
 ·subst c4
  rw [if_pos rfl] at H
  obtain ⟨t410, A5, H⟩ := Sh.ba H
  obtain rfl := Option.some.inj H
  go_enter Tryz.func168, Tryz.ntmps168
  go_wp2_with (first | ((with_reducible refine Sh.k 124 ?_); refine Sh.gD (some 6) Tryz.func124 #[.int .i64 a0] (impl_isWide.calls a0 true _ A3.out) fun nd => ?_) | (go_at_call 99; (with_reducible refine (impl_mask.calls a0 t410 _ A5.out).mono ?_); rintro e w' ⟨rfl, ⟨nd, rfl⟩⟩))
  go_ret
  exact ⟨Sh.es, Sh.dr⟩
 ·replace c4 := Bool.eq_false_iff.mpr c4
  subst c4
  rw [Sh.nf] at H
  obtain rfl := Option.some.inj H
  go_enter Tryz.func168, Tryz.ntmps168
  go_wp2_with (first | ((with_reducible refine Sh.k 124 ?_); refine Sh.gD (some 6) Tryz.func124 #[.int .i64 a0] (impl_isWide.calls a0 false _ A3.out) fun nd => ?_))
  go_ret
  exact ⟨Sh.es, Sh.dr⟩
def impl_isLeafRight.f (a0 : Int) (a1 : Int) (a2_0 : Int) (a2_1 : Int) : Option (Bool) := if a2_0 = 1 then ((impl_GoodWord.f a0 a2_1).bind fun t412 => (some t412)) else (if a2_0 = 2 then (some (decide (a2_1 < (IntKind.u64.wrap (a1))))) else (if a2_0 = 20 then (some (decide (a2_1 ≤ 1))) else (some (a2_1 == 0))))
theorem impl_isLeafRight.calls (a0 : Int) (a1 : Int) (a2_0 : Int) (a2_1 : Int) (r : Bool) (w : World) (h : impl_isLeafRight.f a0 a1 a2_0 a2_1 = some r) :
  Calls Tryz.prog 155 #[.int .i64 a0, .int .i64 a1, .agg #[.int .i64 a2_0, .int .u64 a2_1]] w fun e w' => e = .returned (.bool r) ∧ Below w.heap.size w w' := by
 have hu79 := Tryz.underlying79
 have HB := am_ (Below.refl w.heap.size w)
 have H := h
 clear h
 unfold impl_isLeafRight.f at H
 by_cases c4 : a2_0 = 1
 ·rw [if_pos c4] at H
  have c4b0 : (a2_0 == 1) = true := beq_iff_eq.mpr c4
  have c4b1 : (a2_0 != 1) = false := bne_eq_false_iff_eq.mpr c4
  clear c4
  obtain ⟨t412, A5, H⟩ := Sh.ba H
  obtain rfl := Option.some.inj H
  go_enter Tryz.func155, Tryz.ntmps155
  go_wp2_with (first | ((with_reducible refine Sh.d 5 ?_); refine Sh.bz w (N := 5) (cs := #[.int .i64 a2_0, .int .u64 a2_1]) (t := 79) (h := ?_); clear HB; intro gb411 w6 BK411 GE411 HB; obtain ⟨hcz7_0, hcz7_1, hfz7_0, hfz7_1⟩ := Sh.b2 BK411.out) | ((with_reducible refine Sh.k 168 ?_); refine Sh.gD (some 14) Tryz.func168 #[.int .i64 a0, .int .u64 a2_1] (impl_GoodWord.calls a0 a2_1 t412 _ A5.out) fun nd => ?_))
  go_ret
  exact ⟨Sh.eR, Sh.bw⟩
 ·rw [if_neg c4] at H
  have c4b0 : (a2_0 == 1) = false := beq_eq_false_iff_ne.mpr c4
  have c4b1 : (a2_0 != 1) = true := bne_iff_ne.mpr c4
  by_cases c8 : a2_0 = 2
  ·rw [if_pos c8] at H
   have c8b0 : (a2_0 == 2) = true := beq_iff_eq.mpr c8
   have c8b1 : (a2_0 != 2) = false := bne_eq_false_iff_eq.mpr c8
   clear c8
   obtain rfl := Option.some.inj H
   go_enter Tryz.func155, Tryz.ntmps155
   go_wp2_with (first | ((with_reducible refine Sh.d 5 ?_); refine Sh.bz w (N := 5) (cs := #[.int .i64 a2_0, .int .u64 a2_1]) (t := 79) (h := ?_); clear HB; intro gb411 w9 BK411 GE411 HB; obtain ⟨hcz10_0, hcz10_1, hfz10_0, hfz10_1⟩ := Sh.b2 BK411.out))
   go_ret
   exact ⟨Sh.eR, Sh.bw⟩
  ·rw [if_neg c8] at H
   have c8b0 : (a2_0 == 2) = false := beq_eq_false_iff_ne.mpr c8
   have c8b1 : (a2_0 != 2) = true := bne_iff_ne.mpr c8
   by_cases c11 : a2_0 = 20
   ·rw [if_pos c11] at H
    have c11b0 : (a2_0 == 20) = true := beq_iff_eq.mpr c11
    have c11b1 : (a2_0 != 20) = false := bne_eq_false_iff_eq.mpr c11
    clear c11
    obtain rfl := Option.some.inj H
    go_enter Tryz.func155, Tryz.ntmps155
    go_wp2_with (first | ((with_reducible refine Sh.d 5 ?_); refine Sh.bz w (N := 5) (cs := #[.int .i64 a2_0, .int .u64 a2_1]) (t := 79) (h := ?_); clear HB; intro gb411 w12 BK411 GE411 HB; obtain ⟨hcz13_0, hcz13_1, hfz13_0, hfz13_1⟩ := Sh.b2 BK411.out))
    go_ret
    exact ⟨Sh.eR, Sh.bw⟩
   ·rw [if_neg c11] at H
    have c11b0 : (a2_0 == 20) = false := beq_eq_false_iff_ne.mpr c11
    have c11b1 : (a2_0 != 20) = true := bne_iff_ne.mpr c11
    obtain rfl := Option.some.inj H
    go_enter Tryz.func155, Tryz.ntmps155
    go_wp2_with (first | ((with_reducible refine Sh.d 5 ?_); refine Sh.bz w (N := 5) (cs := #[.int .i64 a2_0, .int .u64 a2_1]) (t := 79) (h := ?_); clear HB; intro gb411 w14 BK411 GE411 HB; obtain ⟨hcz15_0, hcz15_1, hfz15_0, hfz15_1⟩ := Sh.b2 BK411.out))
    go_ret
    exact ⟨Sh.eR, Sh.bw⟩
def impl_GoodTerm_1.f (a0 : Int) (a1_0 : Int) : Option (Bool) := some (a0 != a1_0)
theorem impl_GoodTerm_1.calls (a0 : Int) (bp1 : Nat) (a1_0 : Int) (r : Bool) (w : World) (hb1 : w.heap[bp1]? = some (.cells #[.int .i64 a1_0] 3 (0, 0))) (h : impl_GoodTerm_1.f a0 a1_0 = some r) :
  Calls Tryz.prog 156 #[.int .i64 a0, .pointer (some ⟨bp1, 0, none⟩)] w fun e w' => e = .returned (.bool r) ∧ Drawn0 w w' := by
 have HX1 := am_ hb1
 clear hb1
 have H := h
 clear h
 unfold impl_GoodTerm_1.f at H
 obtain rfl := Option.some.inj H
 have hcz3_0 : w.cell? ⟨bp1, 0, none⟩ = some (.int .i64 a1_0) := (blk_cell HX1.out 0).trans rfl
 have hfz3_0 := blk_frozen HX1.out 0
 go_enter Tryz.func156, Tryz.ntmps156
 go_wp2
 go_ret
 exact ⟨Sh.es, Sh.dr⟩
def slices_ContainsFunc_int_int_by_impl_GoodTerm_1.f (l0 : List Int) (a1_0 : Int) : Option (Bool) := anyO (fun x_ => impl_GoodTerm_1.f x_ a1_0) l0
theorem slices_ContainsFunc_int_int_by_impl_GoodTerm_1.calls (A0 : Option Addr) (c0 : Nat) (l0 : List Int) (bp1 : Nat) (a1_0 : Int) (r : Bool) (w : World) (hr0 : Kd.C (Kd.int .i64) w A0 l0.length l0) (hc0 : l0.length ≤ c0) (hb1 : w.heap[bp1]? = some (.cells #[.int .i64 a1_0] 3 (0, 0))) (h : slices_ContainsFunc_int_int_by_impl_GoodTerm_1.f l0 a1_0 = some r) :
  Calls Tryz.prog 53 #[.slice A0 l0.length c0, .func (.func 156) #[] #[.pointer (some ⟨bp1, 0, none⟩)]] w fun e w' => e = .returned (.bool r) ∧ Below w.heap.size w w' := by
 refine slices_ContainsFunc_int_int.gen 156 #[.pointer (some ⟨bp1, 0, none⟩)] (enters_of Tryz.func156 (by kernel_rfl) rfl) _ A0 c0 l0 r w hr0 hc0 ?_ h
 intro W x b hB_ hin_ hq_
 refine (impl_GoodTerm_1.calls x bp1 a1_0 b W ((hB_.block _ (blk_lt hb1)).trans hb1) hq_).mono ?_
 rintro e w' ⟨rfl, hd_⟩
 exact ⟨rfl, hd_.below⟩
mutual
def impl_GoodTerm.j0 : Nat → Int → Int → List (S79) → Bool → Option (Bool)
 | 0, _, _, _, _ => none
 | k + 1, x0, x1, x2, x31 => if x31 = true then (some false) else (impl_GoodTerm.l0 k x0 x1 (([] : List Int)) x2 (x2.length : Int) 0)
def impl_GoodTerm.l0 : Nat → Int → Int → List Int → List (S79) → Int → Int → Option (Bool)
 | 0, _, _, _, _, _, _ => none
 | k + 1, x0, x1, x7, x33, x34, x35 => if x35 < x34 then (if 0 ≤ x35 then (if x35 < (x33.length : Int) then ((impl_operandsOf.f k ((rd_T79 x33 x35).f0)).bind fun bt420 => (if bt420.2.2 = 0 then (some false) else ((impl_isLeafRight.f x0 x1 ((rd_T79 x33 x35).f0) ((rd_T79 x33 x35).f1)).bind fun t424 => (if t424 = true then (if (wrap64 ((x7.length : Int) - bt420.1)) < 0 then (some false) else (if 0 ≤ (wrap64 ((x7.length : Int) - bt420.1)) then (if (wrap64 ((x7.length : Int) - bt420.1)) ≤ (x7.length : Int) then ((slices_ContainsFunc_int_int_by_impl_GoodTerm_1.f (x7.drop ((wrap64 ((x7.length : Int) - bt420.1)) : Int).toNat) bt420.2.1).bind fun t429 => (if t429 = true then (some false) else ((some (x7.take ((wrap64 ((x7.length : Int) - bt420.1)) : Int).toNat : List Int)).bind fun y430 => (if y430.length < 17592186044416 then (impl_GoodTerm.l0 k x0 x1 (y430 ++ [bt420.2.2]) x33 x34 (wrap64 (x35 + 1))) else (none))))) else (none)) else (none))) else (some false))))) else (none)) else (none)) else (some ((x7.length : Int) == 1))
end
def impl_GoodTerm.f (k : Nat) (a0 : Int) (a1 : Int) (l2 : List (S79)) : Option (Bool) := (impl_isWide.f a0).bind fun t413 => (if t413 = true then ((impl_isVars.f a1).bind fun t414 => (if t414 = true then (if (l2.length : Int) < 1 then (impl_GoodTerm.j0 k a0 a1 l2 true) else (impl_GoodTerm.j0 k a0 a1 l2 (decide ((l2.length : Int) > 48)))) else (impl_GoodTerm.j0 k a0 a1 l2 true))) else (impl_GoodTerm.j0 k a0 a1 l2 true))
theorem impl_GoodTerm.mono_l : ∀ k, (∀ y0 y1 y2 y3, LeO (impl_GoodTerm.j0 k y0 y1 y2 y3) (impl_GoodTerm.j0 (k + 1) y0 y1 y2 y3)) ∧ (∀ y0 y1 y2 y3 y4 y5, LeO (impl_GoodTerm.l0 k y0 y1 y2 y3 y4 y5) (impl_GoodTerm.l0 (k + 1) y0 y1 y2 y3 y4 y5))
 | 0 => ⟨fun _ _ _ _ r h => by simp [impl_GoodTerm.j0] at h, fun _ _ _ _ _ _ r h => by simp [impl_GoodTerm.l0] at h⟩
 | k + 1 => by
  obtain ⟨ih0, ih1⟩ := impl_GoodTerm.mono_l k
  and_intros <;> intros
  all_goals (first | unfold impl_GoodTerm.j0 | unfold impl_GoodTerm.l0)
  all_goals repeat' with_reducible first | apply ih0 | apply ih1 | apply impl_operandsOf.mono | exact LeO.refl _ | exact LeO.none _ | apply LeO.ite | refine LeO.bind ?_ fun _ => ?_
theorem impl_GoodTerm.mono : ∀ a0 a1 a2 k, LeO (impl_GoodTerm.f k a0 a1 a2) (impl_GoodTerm.f (k + 1) a0 a1 a2) := by
 intro a0 a1 a2 k
 obtain ⟨ih0, ih1⟩ := impl_GoodTerm.mono_l k
 unfold impl_GoodTerm.f
 repeat' with_reducible first | apply ih0 | apply ih1 | apply impl_operandsOf.mono | exact LeO.refl _ | exact LeO.none _ | apply LeO.ite | refine LeO.bind ?_ fun _ => ?_
theorem impl_GoodTerm.calls (k : Nat) (a0 : Int) (a1 : Int) (A2 : Option Addr) (c2 : Nat) (l2 : List (S79)) (r : Bool) (w : World) (hr2 : Kd.C k79 w A2 l2.length l2) (hc2 : l2.length ≤ c2) (h : impl_GoodTerm.f k a0 a1 l2 = some r) :
  Calls Tryz.prog 128 #[.int .i64 a0, .int .i64 a1, .slice A2 l2.length c2] w fun e w' => e = .returned (.bool r) ∧ Below w.heap.size w w' := by
 have hu79 := Tryz.underlying79
 have HR2 := am_ hr2
 have HC2 := am_ hc2
 clear hr2 hc2
 have HB := am_ (Below.refl w.heap.size w)
 have H := h
 clear h
 unfold impl_GoodTerm.f at H
 have HC4 := am_ H
 clear H
 go_enter Tryz.func128, Tryz.ntmps128
 go_upto_region 1 with (fail)
 go_cut [31] (fun v31 wc => ∃ (kq : Nat) (x31_3 : Bool), v31 = .bool x31_3 ∧ Aside0 (impl_GoodTerm.j0 kq a0 a1 l2 x31_3 = some r) ∧ Aside0 (kq ≤ k) ∧ Aside0 (Below w.heap.size w wc))
 case first =>
  have H := HC4.out
  clear HC4
  obtain ⟨t413, A5, H⟩ := Sh.ba H
  by_cases c6 : t413 = true
  ·subst c6
   rw [if_pos rfl] at H
   obtain ⟨t414, A7, H⟩ := Sh.ba H
   by_cases c8 : t414 = true
   ·subst c8
    rw [if_pos rfl] at H
    by_cases c9 : (l2.length : Int) < 1
    ·rw [if_pos c9] at H
     have c9b0 := decide_eq_true c9
     have c9b1 : decide (l2.length < 1) = true := decide_eq_true (by omega)
     clear c9
     first | rw [c9b0] | (simp only [i64_w, i32_w]; rw [c9b0]) | skip
     have H' := am_ H
     clear H
     go_wp2_with (first | ((with_reducible refine Sh.k 124 ?_); refine Sh.gD (some 15) Tryz.func124 #[.int .i64 a0] (impl_isWide.calls a0 true _ A5.out) fun nd => ?_) | (go_at_call 125; (with_reducible refine (impl_isVars.calls a1 true _ A7.out).mono ?_); rintro e w' ⟨rfl, ⟨nd, rfl⟩⟩))
     go_meet
     case rel => exact ⟨_, (true), (Sh.es), H', ⟨Sh.om⟩, ⟨Sh.bw⟩⟩
    ·rw [if_neg c9] at H
     have c9b0 := decide_eq_false c9
     have c9b1 : decide (l2.length < 1) = false := decide_eq_false (by omega)
     clear c9
     first | rw [c9b0] | (simp only [i64_w, i32_w]; rw [c9b0]) | skip
     have H' := am_ H
     clear H
     go_wp2_with (first | ((with_reducible refine Sh.k 124 ?_); refine Sh.gD (some 15) Tryz.func124 #[.int .i64 a0] (impl_isWide.calls a0 true _ A5.out) fun nd => ?_) | (go_at_call 125; (with_reducible refine (impl_isVars.calls a1 true _ A7.out).mono ?_); rintro e w' ⟨rfl, ⟨nd, rfl⟩⟩))
     go_meet
     case rel => exact ⟨_, (decide ((l2.length : Int) > 48)), (Sh.es), H', ⟨Sh.om⟩, ⟨Sh.bw⟩⟩
   ·replace c8 := Bool.eq_false_iff.mpr c8
    subst c8
    rw [Sh.nf] at H
    have H' := am_ H
    clear H
    go_wp2_with (first | ((with_reducible refine Sh.k 124 ?_); refine Sh.gD (some 15) Tryz.func124 #[.int .i64 a0] (impl_isWide.calls a0 true _ A5.out) fun nd => ?_) | (go_at_call 125; (with_reducible refine (impl_isVars.calls a1 false _ A7.out).mono ?_); rintro e w' ⟨rfl, ⟨nd, rfl⟩⟩))
    go_meet
    case rel => exact ⟨_, (true), (Sh.es), H', ⟨Sh.om⟩, ⟨Sh.bw⟩⟩
  ·replace c6 := Bool.eq_false_iff.mpr c6
   subst c6
   rw [Sh.nf] at H
   have H' := am_ H
   clear H
   go_wp2_with (first | ((with_reducible refine Sh.k 124 ?_); refine Sh.gD (some 15) Tryz.func124 #[.int .i64 a0] (impl_isWide.calls a0 false _ A5.out) fun nd => ?_))
   go_meet
   case rel => exact ⟨_, (true), (Sh.es), H', ⟨Sh.om⟩, ⟨Sh.bw⟩⟩
 case rest =>
  clear HC4
  obtain ⟨kq, x31_3, rfl, HA, HJ3, HB⟩ := hcut
  cases kq with
  | zero => exact absurd HA.out (by simp [impl_GoodTerm.j0])
  | succ kj3 =>
   have H := HA.out
   clear HA
   simp only [impl_GoodTerm.j0] at H
   by_cases c10 : x31_3 = true
   ·subst c10
    rw [if_pos rfl] at H
    obtain rfl := Option.some.inj H
    go_wp2
    go_ret
    exact ⟨Sh.eR, Sh.bw⟩
   ·replace c10 := Bool.eq_false_iff.mpr c10
    subst c10
    rw [Sh.nf] at H
    obtain ⟨y415, hy415⟩ : ∃ y_ : List Int, y_ = (([] : List Int)) := ⟨_, rfl⟩
    replace H : (impl_GoodTerm.l0 kj3 a0 a1 y415 l2 (l2.length : Int) 0) = some r := by first | (rw [hy415]; with_reducible exact H) | (have H2_ := (Option.bind_some _ _).symm.trans H; rw [hy415]; with_reducible exact H2_) | (have H2_ := (Option.bind_some _ _).symm.trans H; with_reducible exact H2_) | with_reducible exact H | (rw [hy415]; exact H) | exact H
    have Ny415 := am_ hy415
    clear hy415
    have H' := am_ H
    clear H
    go_wp2_with (first | ((with_reducible refine Sh.d 32 ?_); (try (refine gate_guard (by rfl) ?_; dsimp only)); refine Kd.R_lit (Kd.int .i64) _ 3 ?hg (N := 32) ?hd (xs := ([] : List Int)) (inner := []) (ok := fun _ => True) (okp := fun _ => True) ?hr ?hp (fun _ hk => hk) trivial (Below.refl _ _) (Nat.le_refl _) (by simp) ?_; (case hd => rfl); (case hg => rfl); (case hr => first | (go_simp; done) | (go_simp; rfl)); (case hp => exact (Reps.none _ _)); intro v416 w11 ho12 hb hg_ hnew_; clear hg_ hnew_; (first | rw [← Ny415.out] at ho12 | (simp only [Int.reduceToNat] at ho12; rw [← Ny415.out] at ho12)); have HO417 := am_ (Kd.R_lower ho12 (below_size Sh.bw)); replace HB := Sh.hb hb; clear hb ho12))
    go_loopg [7, 35] kj3 (fun kq v7 v35 w' => ∃ (x7_2 : List Int) (x35_2 : Int), v35 = .int .i64 x35_2 ∧ Aside0 (impl_GoodTerm.l0 kq a0 a1 x7_2 l2 (l2.length : Int) x35_2 = some r) ∧ Aside0 (kq ≤ kj3) ∧ Aside0 (Kd.R (Kd.int .i64) 3 w' w.heap.size (fun _ => True) v7 x7_2) ∧ Aside0 (Below w.heap.size w w'))
    case atStart => exact ⟨(y415), (0), (Sh.es), H', ⟨Nat.le_refl _⟩, ⟨Sh.rl HO417.out⟩, ⟨Sh.bw⟩⟩
    case round =>
     clear H'
     obtain ⟨x7_2, x35_2, rfl, HA, HK2, HO_7, HB⟩ := hrel
     cases gk with
     | zero => exact absurd HA.out (by simp [impl_GoodTerm.l0])
     | succ k2 =>
      have H := HA.out
      clear HA
      simp only [impl_GoodTerm.l0] at H
      by_cases c13 : x35_2 < (l2.length : Int)
      ·rw [if_pos c13] at H
       replace c13 := decide_eq_true c13
       by_cases c14 : 0 ≤ x35_2
       ·rw [if_pos c14] at H
        replace c14 := decide_eq_true c14
        by_cases c15 : x35_2 < (l2.length : Int)
        ·rw [if_pos c15] at H
         replace c15 := decide_eq_true c15
         obtain ⟨⟨t420, t421, t422⟩, A160, H⟩ := Sh.bd H
         have A16 := am_ A160
         clear A160
         by_cases c17 : t422 = 0
         ·rw [if_pos c17] at H
          have c17b0 : (t422 == 0) = true := beq_iff_eq.mpr c17
          have c17b1 : (t422 != 0) = false := bne_eq_false_iff_eq.mpr c17
          clear c17
          obtain rfl := Option.some.inj H
          have p418 : 0 ≤ (x35_2 : Int) := Sh.od
          have q418 : x35_2 < (l2.length : Int) := Sh.od
          obtain ⟨ad418, e418, hx418_0, hx418_1⟩ := at_T79 HR2.out x35_2 p418 q418
          cases e418
          try replace hx418_0 := Sh.cw hx418_0
          try replace hx418_1 := Sh.cw hx418_1
          replace p418 := eq_true p418
          replace q418 := eq_true q418
          go_wp2_with (first | ((with_reducible refine Sh.d 9 ?_); (try (refine gate_guard (by rfl) ?_; dsimp only)); refine Sh.bx (N := 9) (cs := #[.int .i64 0, .int .u64 0]) (t := 79) (h := ?_); intro gb419 hg w18 hbox hb; replace HO_7 := am_ (Kd.R_below (Sh.rl HO_7.out) hb); have BK419 := am_ hbox; have GE419 := Sh.ag w hg; replace HB := Sh.hb hb; clear hb hbox hg; obtain ⟨hcz19_0, hcz19_1, hfz19_0, hfz19_1⟩ := Sh.b2 BK419.out) | ((with_reducible refine Sh.k 154 ?_); refine Sh.gD (some 42) Tryz.func154 #[.int .i64 ((rd_T79 l2 x35_2).f0)] (impl_operandsOf.calls k2 ((rd_T79 l2 x35_2).f0) t420 t421 t422 _ A16.out) fun nd => ?_) | ((with_reducible refine Sh.d 11 ?_); (try (refine gate_guard (by rfl) ?_; dsimp only)); refine Sh.bx (N := 11) (cs := #[.int .i64 0]) (t := 3) (h := ?_); intro gb423 hg w20 hbox hb; have n0_ := am_ (Kd.R_below (Kd.R_elderB (Sh.rl (Kd.R_mono (Kd.R_far (p := ⟨gb419, 1, none⟩) (Kd.R_far (p := ⟨gb419, 0, none⟩) (Kd.R_types HO_7.out BK419.out (by decide)) (fun _ hk => hk.2) (.int .i64 ((rd_T79 l2 x35_2).f0))) (fun _ hk => hk.2) (.int .u64 ((rd_T79 l2 x35_2).f1))) (fun _ h_ => h_.1))) gb423 (Nat.le_of_eq hg.symm)) hb); have n1_ := am_ (blk_below (g := gb419) (o := .cells #[.int .i64 ((rd_T79 l2 x35_2).f0), .int .u64 ((rd_T79 l2 x35_2).f1)] 79 (0, 0)) (by refine Sh.pl ?_; refine blk_put (cs := #[.int .i64 ((rd_T79 l2 x35_2).f0), .int .u64 0]) ?_ 1 _ rfl; refine Sh.pl ?_; refine blk_put (cs := #[.int .i64 0, .int .u64 0]) ?_ 0 _ rfl; refine Sh.pl ?_; exact BK419.out) hb); have n2_ := am_ (below_step Sh.bw hb); have n3_ := am_ hbox; have n4_ := am_ (Sh.gw (w := w) hg); have n5_ := am_ (Sh.gw (w := w) hg); have n6_ := am_ ((by rw [hg]; exact Nat.ne_of_lt (blk_lt (g := gb419) (o := .cells #[.int .i64 ((rd_T79 l2 x35_2).f0), .int .u64 ((rd_T79 l2 x35_2).f1)] 79 (0, 0)) (by refine Sh.pl ?_; refine blk_put (cs := #[.int .i64 ((rd_T79 l2 x35_2).f0), .int .u64 0]) ?_ 1 _ rfl; refine Sh.pl ?_; refine blk_put (cs := #[.int .i64 0, .int .u64 0]) ?_ 0 _ rfl; refine Sh.pl ?_; exact BK419.out)) : gb419 ≠ gb423)); have n7_ := am_ ((by rw [hg]; exact Nat.ne_of_gt (blk_lt (g := gb419) (o := .cells #[.int .i64 ((rd_T79 l2 x35_2).f0), .int .u64 ((rd_T79 l2 x35_2).f1)] 79 (0, 0)) (by refine Sh.pl ?_; refine blk_put (cs := #[.int .i64 ((rd_T79 l2 x35_2).f0), .int .u64 0]) ?_ 1 _ rfl; refine Sh.pl ?_; refine blk_put (cs := #[.int .i64 0, .int .u64 0]) ?_ 0 _ rfl; refine Sh.pl ?_; exact BK419.out)) : gb423 ≠ gb419)); clear HO_7; clear BK419; clear HB; have HO_7 := n0_; have BK419 := n1_; have HB := n2_; have BK423 := n3_; have GW423 := n4_; have GE423 := n5_; have NB419_423 := n6_; have NB423_419 := n7_; clear n0_ n1_ n2_ n3_ n4_ n5_ n6_ n7_; clear hb hbox hg; have hnb21 := NB423_419.out; have hnc21 := NB419_423.out; have hcz22_0 := Sh.bc BK423.out 0; have hfz22_0 := blk_frozen BK423.out 0; obtain ⟨Ao23, co23, eo23⟩ := Kd.R_slice HO_7.out; subst eo23))
          go_ret
          exact ⟨Sh.eR, Sh.bw⟩
         ·rw [if_neg c17] at H
          have c17b0 : (t422 == 0) = false := beq_eq_false_iff_ne.mpr c17
          have c17b1 : (t422 != 0) = true := bne_iff_ne.mpr c17
          obtain ⟨t424, A24, H⟩ := Sh.ba H
          by_cases c25 : t424 = true
          ·subst c25
           rw [if_pos rfl] at H
           by_cases c26 : (wrap64 ((x7_2.length : Int) - t420)) < 0
           ·rw [if_pos c26] at H
            have c26b0 := decide_eq_true c26
            clear c26
            obtain rfl := Option.some.inj H
            have p418 : 0 ≤ (x35_2 : Int) := Sh.od
            have q418 : x35_2 < (l2.length : Int) := Sh.od
            obtain ⟨ad418, e418, hx418_0, hx418_1⟩ := at_T79 HR2.out x35_2 p418 q418
            cases e418
            try replace hx418_0 := Sh.cw hx418_0
            try replace hx418_1 := Sh.cw hx418_1
            replace p418 := eq_true p418
            replace q418 := eq_true q418
            go_wp2_with (first | ((with_reducible refine Sh.d 9 ?_); (try (refine gate_guard (by rfl) ?_; dsimp only)); refine Sh.bx (N := 9) (cs := #[.int .i64 0, .int .u64 0]) (t := 79) (h := ?_); intro gb419 hg w27 hbox hb; replace HO_7 := am_ (Kd.R_below (Sh.rl HO_7.out) hb); have BK419 := am_ hbox; have GE419 := Sh.ag w hg; replace HB := Sh.hb hb; clear hb hbox hg; obtain ⟨hcz28_0, hcz28_1, hfz28_0, hfz28_1⟩ := Sh.b2 BK419.out) | ((with_reducible refine Sh.k 154 ?_); refine Sh.gD (some 42) Tryz.func154 #[.int .i64 ((rd_T79 l2 x35_2).f0)] (impl_operandsOf.calls k2 ((rd_T79 l2 x35_2).f0) t420 t421 t422 _ A16.out) fun nd => ?_) | ((with_reducible refine Sh.d 11 ?_); (try (refine gate_guard (by rfl) ?_; dsimp only)); refine Sh.bx (N := 11) (cs := #[.int .i64 0]) (t := 3) (h := ?_); intro gb423 hg w29 hbox hb; have n0_ := am_ (Kd.R_below (Kd.R_elderB (Sh.rl (Kd.R_mono (Kd.R_far (p := ⟨gb419, 1, none⟩) (Kd.R_far (p := ⟨gb419, 0, none⟩) (Kd.R_types HO_7.out BK419.out (by decide)) (fun _ hk => hk.2) (.int .i64 ((rd_T79 l2 x35_2).f0))) (fun _ hk => hk.2) (.int .u64 ((rd_T79 l2 x35_2).f1))) (fun _ h_ => h_.1))) gb423 (Nat.le_of_eq hg.symm)) hb); have n1_ := am_ (blk_below (g := gb419) (o := .cells #[.int .i64 ((rd_T79 l2 x35_2).f0), .int .u64 ((rd_T79 l2 x35_2).f1)] 79 (0, 0)) (by refine Sh.pl ?_; refine blk_put (cs := #[.int .i64 ((rd_T79 l2 x35_2).f0), .int .u64 0]) ?_ 1 _ rfl; refine Sh.pl ?_; refine blk_put (cs := #[.int .i64 0, .int .u64 0]) ?_ 0 _ rfl; refine Sh.pl ?_; exact BK419.out) hb); have n2_ := am_ (below_step Sh.bw hb); have n3_ := am_ hbox; have n4_ := am_ (Sh.gw (w := w) hg); have n5_ := am_ (Sh.gw (w := w) hg); have n6_ := am_ ((by rw [hg]; exact Nat.ne_of_lt (blk_lt (g := gb419) (o := .cells #[.int .i64 ((rd_T79 l2 x35_2).f0), .int .u64 ((rd_T79 l2 x35_2).f1)] 79 (0, 0)) (by refine Sh.pl ?_; refine blk_put (cs := #[.int .i64 ((rd_T79 l2 x35_2).f0), .int .u64 0]) ?_ 1 _ rfl; refine Sh.pl ?_; refine blk_put (cs := #[.int .i64 0, .int .u64 0]) ?_ 0 _ rfl; refine Sh.pl ?_; exact BK419.out)) : gb419 ≠ gb423)); have n7_ := am_ ((by rw [hg]; exact Nat.ne_of_gt (blk_lt (g := gb419) (o := .cells #[.int .i64 ((rd_T79 l2 x35_2).f0), .int .u64 ((rd_T79 l2 x35_2).f1)] 79 (0, 0)) (by refine Sh.pl ?_; refine blk_put (cs := #[.int .i64 ((rd_T79 l2 x35_2).f0), .int .u64 0]) ?_ 1 _ rfl; refine Sh.pl ?_; refine blk_put (cs := #[.int .i64 0, .int .u64 0]) ?_ 0 _ rfl; refine Sh.pl ?_; exact BK419.out)) : gb423 ≠ gb419)); clear HO_7; clear BK419; clear HB; have HO_7 := n0_; have BK419 := n1_; have HB := n2_; have BK423 := n3_; have GW423 := n4_; have GE423 := n5_; have NB419_423 := n6_; have NB423_419 := n7_; clear n0_ n1_ n2_ n3_ n4_ n5_ n6_ n7_; clear hb hbox hg; have hnb30 := NB423_419.out; have hnc30 := NB419_423.out; have hcz31_0 := Sh.bc BK423.out 0; have hfz31_0 := blk_frozen BK423.out 0; obtain ⟨Ao32, co32, eo32⟩ := Kd.R_slice HO_7.out; subst eo32; obtain ⟨hcz33_0, hcz33_1, hfz33_0, hfz33_1⟩ := Sh.b2 BK419.out) | (go_at_call 155; (with_reducible refine (impl_isLeafRight.calls a0 a1 ((rd_T79 l2 x35_2).f0) ((rd_T79 l2 x35_2).f1) true _ A24.out).mono ?_); rintro e w34 ⟨rfl, hb⟩; replace HO_7 := am_ (Kd.R_below (Sh.rl (Kd.R_mono (Kd.R_far (p := ⟨gb423, 0, none⟩) (Kd.R_mono HO_7.out (fun k_ hk => (⟨hk, hk.2⟩ : _ ∧ k_ ≠ gb423))) (fun _ hk => hk.2) (.int .i64 t421)) (fun _ h_ => h_.1))) hb); replace BK419 := am_ (blk_below (g := gb419) (o := .cells #[.int .i64 ((rd_T79 l2 x35_2).f0), .int .u64 ((rd_T79 l2 x35_2).f1)] 79 (0, 0)) (by refine Sh.pl ?_; refine blk_far ?_ NB419_423.out _; refine Sh.pl ?_; exact BK419.out) hb); replace BK423 := am_ (blk_below (g := gb423) (o := .cells #[.int .i64 t421] 3 (0, 0)) (by refine Sh.pl ?_; refine blk_put (cs := #[.int .i64 0]) ?_ 0 _ rfl; refine Sh.pl ?_; exact BK423.out) hb); replace HB := Sh.hb hb; (try clear hb); (try clear hb2); (try clear hk); (try clear hi)))
            go_ret
            exact ⟨Sh.eR, Sh.bw⟩
           ·rw [if_neg c26] at H
            have c26b0 := decide_eq_false c26
            clear c26
            obtain ⟨ji35, hj1⟩ : ∃ j_ : Int, (wrap64 ((x7_2.length : Int) - t420)) = j_ := ⟨_, rfl⟩
            replace H : (if 0 ≤ (ji35) then (if (ji35) ≤ (x7_2.length : Int) then ((slices_ContainsFunc_int_int_by_impl_GoodTerm_1.f (x7_2.drop ((ji35) : Int).toNat) t421).bind fun t429 => (if t429 = true then (some false) else ((some (x7_2.take ((ji35) : Int).toNat : List Int)).bind fun y430 => (if y430.length < 17592186044416 then (impl_GoodTerm.l0 k2 a0 a1 (y430 ++ [t422]) l2 (l2.length : Int) (wrap64 (x35_2 + 1))) else (none))))) else (none)) else (none)) = some r := by first | (rw [hj1] at H; exact H) | (simp only [hj1] at H ⊢; exact H)
            (try rw [hj1] at c26b0)
            (try rw [hj1] at A16)
            (try rw [hj1] at A24)
            have hji35w : (IntKind.i64.wrap ((x7_2.length : Int) - t420)) = ji35 := (i64_w _).trans hj1
            by_cases c36 : 0 ≤ (ji35)
            ·rw [if_pos c36] at H
             have c36b0 := eq_true c36
             have c36b1 := decide_eq_true c36
             clear c36
             by_cases c37 : (ji35) ≤ (x7_2.length : Int)
             ·rw [if_pos c37] at H
              have c37b0 := eq_true c37
              have c37b1 := decide_eq_true c37
              clear c37
              obtain ⟨y425, hy425⟩ : ∃ y_ : List Int, y_ = (x7_2.drop ((ji35) : Int).toNat) := ⟨_, rfl⟩
              replace H : ((slices_ContainsFunc_int_int_by_impl_GoodTerm_1.f y425 t421).bind fun t429 => (if t429 = true then (some false) else ((some (x7_2.take ((ji35) : Int).toNat : List Int)).bind fun y430 => (if y430.length < 17592186044416 then (impl_GoodTerm.l0 k2 a0 a1 (y430 ++ [t422]) l2 (l2.length : Int) (wrap64 (x35_2 + 1))) else (none))))) = some r := by first | (rw [hy425]; with_reducible exact H) | (have H2_ := (Option.bind_some _ _).symm.trans H; rw [hy425]; with_reducible exact H2_) | (have H2_ := (Option.bind_some _ _).symm.trans H; with_reducible exact H2_) | with_reducible exact H | (rw [hy425]; exact H) | exact H
              have Ny425 := am_ hy425
              clear hy425
              obtain ⟨t429, A38, H⟩ := Sh.ba H
              by_cases c39 : t429 = true
              ·subst c39
               rw [if_pos rfl] at H
               obtain rfl := Option.some.inj H
               have p418 : 0 ≤ (x35_2 : Int) := Sh.od
               have q418 : x35_2 < (l2.length : Int) := Sh.od
               obtain ⟨ad418, e418, hx418_0, hx418_1⟩ := at_T79 HR2.out x35_2 p418 q418
               cases e418
               try replace hx418_0 := Sh.cw hx418_0
               try replace hx418_1 := Sh.cw hx418_1
               replace p418 := eq_true p418
               replace q418 := eq_true q418
               go_wp2_with (first | ((with_reducible refine Sh.d 9 ?_); (try (refine gate_guard (by rfl) ?_; dsimp only)); refine Sh.bx (N := 9) (cs := #[.int .i64 0, .int .u64 0]) (t := 79) (h := ?_); intro gb419 hg w40 hbox hb; replace HO_7 := am_ (Kd.R_below (Sh.rl HO_7.out) hb); have BK419 := am_ hbox; have GE419 := Sh.ag w hg; replace HB := Sh.hb hb; clear hb hbox hg; obtain ⟨hcz41_0, hcz41_1, hfz41_0, hfz41_1⟩ := Sh.b2 BK419.out) | ((with_reducible refine Sh.k 154 ?_); refine Sh.gD (some 42) Tryz.func154 #[.int .i64 ((rd_T79 l2 x35_2).f0)] (impl_operandsOf.calls k2 ((rd_T79 l2 x35_2).f0) t420 t421 t422 _ A16.out) fun nd => ?_) | ((with_reducible refine Sh.d 11 ?_); (try (refine gate_guard (by rfl) ?_; dsimp only)); refine Sh.bx (N := 11) (cs := #[.int .i64 0]) (t := 3) (h := ?_); intro gb423 hg w42 hbox hb; have n0_ := am_ (Kd.R_below (Kd.R_elderB (Sh.rl (Kd.R_mono (Kd.R_far (p := ⟨gb419, 1, none⟩) (Kd.R_far (p := ⟨gb419, 0, none⟩) (Kd.R_types HO_7.out BK419.out (by decide)) (fun _ hk => hk.2) (.int .i64 ((rd_T79 l2 x35_2).f0))) (fun _ hk => hk.2) (.int .u64 ((rd_T79 l2 x35_2).f1))) (fun _ h_ => h_.1))) gb423 (Nat.le_of_eq hg.symm)) hb); have n1_ := am_ (blk_below (g := gb419) (o := .cells #[.int .i64 ((rd_T79 l2 x35_2).f0), .int .u64 ((rd_T79 l2 x35_2).f1)] 79 (0, 0)) (by refine Sh.pl ?_; refine blk_put (cs := #[.int .i64 ((rd_T79 l2 x35_2).f0), .int .u64 0]) ?_ 1 _ rfl; refine Sh.pl ?_; refine blk_put (cs := #[.int .i64 0, .int .u64 0]) ?_ 0 _ rfl; refine Sh.pl ?_; exact BK419.out) hb); have n2_ := am_ (below_step Sh.bw hb); have n3_ := am_ hbox; have n4_ := am_ (Sh.gw (w := w) hg); have n5_ := am_ (Sh.gw (w := w) hg); have n6_ := am_ ((by rw [hg]; exact Nat.ne_of_lt (blk_lt (g := gb419) (o := .cells #[.int .i64 ((rd_T79 l2 x35_2).f0), .int .u64 ((rd_T79 l2 x35_2).f1)] 79 (0, 0)) (by refine Sh.pl ?_; refine blk_put (cs := #[.int .i64 ((rd_T79 l2 x35_2).f0), .int .u64 0]) ?_ 1 _ rfl; refine Sh.pl ?_; refine blk_put (cs := #[.int .i64 0, .int .u64 0]) ?_ 0 _ rfl; refine Sh.pl ?_; exact BK419.out)) : gb419 ≠ gb423)); have n7_ := am_ ((by rw [hg]; exact Nat.ne_of_gt (blk_lt (g := gb419) (o := .cells #[.int .i64 ((rd_T79 l2 x35_2).f0), .int .u64 ((rd_T79 l2 x35_2).f1)] 79 (0, 0)) (by refine Sh.pl ?_; refine blk_put (cs := #[.int .i64 ((rd_T79 l2 x35_2).f0), .int .u64 0]) ?_ 1 _ rfl; refine Sh.pl ?_; refine blk_put (cs := #[.int .i64 0, .int .u64 0]) ?_ 0 _ rfl; refine Sh.pl ?_; exact BK419.out)) : gb423 ≠ gb419)); clear HO_7; clear BK419; clear HB; have HO_7 := n0_; have BK419 := n1_; have HB := n2_; have BK423 := n3_; have GW423 := n4_; have GE423 := n5_; have NB419_423 := n6_; have NB423_419 := n7_; clear n0_ n1_ n2_ n3_ n4_ n5_ n6_ n7_; clear hb hbox hg; have hnb43 := NB423_419.out; have hnc43 := NB419_423.out; have hcz44_0 := Sh.bc BK423.out 0; have hfz44_0 := blk_frozen BK423.out 0; obtain ⟨Ao45, co45, eo45⟩ := Kd.R_slice HO_7.out; subst eo45; obtain ⟨hcz46_0, hcz46_1, hfz46_0, hfz46_1⟩ := Sh.b2 BK419.out) | (go_at_call 155; (with_reducible refine (impl_isLeafRight.calls a0 a1 ((rd_T79 l2 x35_2).f0) ((rd_T79 l2 x35_2).f1) true _ A24.out).mono ?_); rintro e w47 ⟨rfl, hb⟩; replace HO_7 := am_ (Kd.R_below (Sh.rl (Kd.R_mono (Kd.R_far (p := ⟨gb423, 0, none⟩) (Kd.R_mono HO_7.out (fun k_ hk => (⟨hk, hk.2⟩ : _ ∧ k_ ≠ gb423))) (fun _ hk => hk.2) (.int .i64 t421)) (fun _ h_ => h_.1))) hb); replace BK419 := am_ (blk_below (g := gb419) (o := .cells #[.int .i64 ((rd_T79 l2 x35_2).f0), .int .u64 ((rd_T79 l2 x35_2).f1)] 79 (0, 0)) (by refine Sh.pl ?_; refine blk_far ?_ NB419_423.out _; refine Sh.pl ?_; exact BK419.out) hb); replace BK423 := am_ (blk_below (g := gb423) (o := .cells #[.int .i64 t421] 3 (0, 0)) (by refine Sh.pl ?_; refine blk_put (cs := #[.int .i64 0]) ?_ 0 _ rfl; refine Sh.pl ?_; exact BK423.out) hb); replace HB := Sh.hb hb; (try clear hb); (try clear hk); have q48 : ((ji35) : Int) ≤ ((x7_2.length : Int) : Int) := Sh.od; obtain ⟨i048, hi048, _, hsz48, _⟩ := info_parts info3; have hroom48 : x7_2.length ≤ co45 := (Kd.R_reads' HO_7.out).2.1; have hC48 : Kd.C (Kd.int .i64) _ Ao45 x7_2.length x7_2 := (Kd.R_reads' HO_7.out).2.2; have q048 : (0 : Int) ≤ ((ji35) : Int) := Sh.od; have hcut48 := cut_from (P := Tryz.prog) 27 3 .i64 Tryz.underlying27 hi048 1 hsz48 Ao45 x7_2.length co45 (ji35) q048 q48; have hr48 := Kd.C_drop (m := ((ji35) : Int).toNat) (c := co45) hC48 (by omega) hroom48; obtain ⟨A48, hA48⟩ : ∃ A1, A1 = (if co45 = ((ji35) : Int).toNat then Ao45 else (Ao45 : Option Addr).map (·.add (((ji35) : Int).toNat * 1))) := ⟨_, rfl⟩; obtain ⟨c48, hc48⟩ : ∃ c1, c1 = co45 - ((ji35) : Int).toNat := ⟨_, rfl⟩; have hy48 : y425.length = x7_2.length - ((ji35) : Int).toNat := (by rw [Ny425.out, List.length_drop] <;> omega); rw [show (x7_2).drop ((ji35) : Int).toNat = y425 from Ny425.out.symm] at hr48; replace hr48 : Kd.C (Kd.int .i64) _ A48 y425.length y425 := (by rw [hA48]; exact hr48); rw [← hy48, ← hA48, ← hc48] at hcut48; have HR428 := am_ hr48; have HC428 := am_ (show y425.length ≤ c48 from by rw [hy48, hc48]; exact Nat.sub_le_sub_right hroom48 _); clear hr48 hC48 hroom48 hi048 hsz48 hc48; have KY48 := am_ hy48; have KA48 := am_ hA48; clear hy48 hA48; have KL48 := am_ (show ((ji35) : Int).toNat ≤ x7_2.length from by omega); replace q48 := eq_true q48) | (go_at_call 53; (with_reducible refine (slices_ContainsFunc_int_int_by_impl_GoodTerm_1.calls _ _ y425 gb423 t421 true _ ?side1 ?side2 ?side3 A38.out).mono ?_); (case side1 => repeat (first | exact (by repeat (first | (with_reducible exact HR428.out) | (with_reducible first | refine Kd.C_alloc ?_ _ | refine Kd.C_drewN ?_ _ | refine Kd.C_drew ?_) | exact HR428.out)) | (with_reducible first | refine Kd.C_alloc ?_ _ | refine Kd.C_drewN ?_ _ | refine Kd.C_drew ?_))); (case side2 => exact HC428.out); (case side3 => refine Sh.pl ?_; exact BK423.out); rintro e w49 ⟨rfl, hb⟩; replace HO_7 := am_ (Kd.R_below (Sh.rl HO_7.out) hb); replace BK419 := Sh.ab BK419 hb; replace BK423 := Sh.ab BK423 hb; replace HR428 := am_ (Kd.C_below (by repeat (first | (with_reducible exact HR428.out) | (with_reducible first | refine Kd.C_alloc ?_ _ | refine Kd.C_drewN ?_ _ | refine Kd.C_drew ?_) | exact HR428.out)) hb); replace HB := Sh.hb hb; (try clear hb)))
               go_ret
               exact ⟨by first | rfl | (simp [errW_none, errW_some] <;> rfl) | (simp only [← hj1]; first | rfl | (simp [errW_none, errW_some] <;> rfl)) | (simp [*, errW_none, errW_some] <;> rfl), Sh.bw⟩
              ·replace c39 := Bool.eq_false_iff.mpr c39
               subst c39
               rw [Sh.nf] at H
               have c50b0 := eq_true (of_decide_eq_true (by first | (with_reducible assumption) | assumption) : (ji35) ≤ (x7_2.length : Int))
               obtain ⟨y430, hy430⟩ : ∃ y_ : List Int, y_ = (x7_2.take ((ji35) : Int).toNat) := ⟨_, rfl⟩
               replace H : (if y430.length < 17592186044416 then (impl_GoodTerm.l0 k2 a0 a1 (y430 ++ [t422]) l2 (l2.length : Int) (wrap64 (x35_2 + 1))) else (none)) = some r := by first | (rw [hy430]; with_reducible exact H) | (have H2_ := (Option.bind_some _ _).symm.trans H; rw [hy430]; with_reducible exact H2_) | (have H2_ := (Option.bind_some _ _).symm.trans H; with_reducible exact H2_) | with_reducible exact H | (rw [hy430]; exact H) | exact H
               have Ny430 := am_ hy430
               clear hy430
               by_cases c51 : y430.length < 17592186044416
               ·rw [if_pos c51] at H
                have LMc51 := am_ c51
                clear c51
                obtain ⟨y433, hy433⟩ : ∃ y_ : List Int, y_ = (y430 ++ [t422]) := ⟨_, rfl⟩
                replace H : (impl_GoodTerm.l0 k2 a0 a1 y433 l2 (l2.length : Int) (wrap64 (x35_2 + 1))) = some r := by first | (rw [hy433]; with_reducible exact H) | (have H2_ := (Option.bind_some _ _).symm.trans H; rw [hy433]; with_reducible exact H2_) | (have H2_ := (Option.bind_some _ _).symm.trans H; with_reducible exact H2_) | with_reducible exact H | (rw [hy433]; exact H) | exact H
                have Ny433 := am_ hy433
                clear hy433
                have H' := am_ H
                clear H
                have p418 : 0 ≤ (x35_2 : Int) := Sh.od
                have q418 : x35_2 < (l2.length : Int) := Sh.od
                obtain ⟨ad418, e418, hx418_0, hx418_1⟩ := at_T79 HR2.out x35_2 p418 q418
                cases e418
                try replace hx418_0 := Sh.cw hx418_0
                try replace hx418_1 := Sh.cw hx418_1
                replace p418 := eq_true p418
                replace q418 := eq_true q418
                go_wp2_with (first | ((with_reducible refine Sh.d 9 ?_); (try (refine gate_guard (by rfl) ?_; dsimp only)); refine Sh.bx (N := 9) (cs := #[.int .i64 0, .int .u64 0]) (t := 79) (h := ?_); intro gb419 hg w52 hbox hb; replace HO_7 := am_ (Kd.R_below (Sh.rl HO_7.out) hb); have BK419 := am_ hbox; have GE419 := Sh.ag w hg; replace HB := Sh.hb hb; clear hb hbox hg; obtain ⟨hcz53_0, hcz53_1, hfz53_0, hfz53_1⟩ := Sh.b2 BK419.out) | ((with_reducible refine Sh.k 154 ?_); refine Sh.gD (some 42) Tryz.func154 #[.int .i64 ((rd_T79 l2 x35_2).f0)] (impl_operandsOf.calls k2 ((rd_T79 l2 x35_2).f0) t420 t421 t422 _ A16.out) fun nd => ?_) | ((with_reducible refine Sh.d 11 ?_); (try (refine gate_guard (by rfl) ?_; dsimp only)); refine Sh.bx (N := 11) (cs := #[.int .i64 0]) (t := 3) (h := ?_); intro gb423 hg w54 hbox hb; have n0_ := am_ (Kd.R_below (Kd.R_elderB (Sh.rl (Kd.R_mono (Kd.R_far (p := ⟨gb419, 1, none⟩) (Kd.R_far (p := ⟨gb419, 0, none⟩) (Kd.R_types HO_7.out BK419.out (by decide)) (fun _ hk => hk.2) (.int .i64 ((rd_T79 l2 x35_2).f0))) (fun _ hk => hk.2) (.int .u64 ((rd_T79 l2 x35_2).f1))) (fun _ h_ => h_.1))) gb423 (Nat.le_of_eq hg.symm)) hb); have n1_ := am_ (blk_below (g := gb419) (o := .cells #[.int .i64 ((rd_T79 l2 x35_2).f0), .int .u64 ((rd_T79 l2 x35_2).f1)] 79 (0, 0)) (by refine Sh.pl ?_; refine blk_put (cs := #[.int .i64 ((rd_T79 l2 x35_2).f0), .int .u64 0]) ?_ 1 _ rfl; refine Sh.pl ?_; refine blk_put (cs := #[.int .i64 0, .int .u64 0]) ?_ 0 _ rfl; refine Sh.pl ?_; exact BK419.out) hb); have n2_ := am_ (below_step Sh.bw hb); have n3_ := am_ hbox; have n4_ := am_ (Sh.gw (w := w) hg); have n5_ := am_ (Sh.gw (w := w) hg); have n6_ := am_ ((by rw [hg]; exact Nat.ne_of_lt (blk_lt (g := gb419) (o := .cells #[.int .i64 ((rd_T79 l2 x35_2).f0), .int .u64 ((rd_T79 l2 x35_2).f1)] 79 (0, 0)) (by refine Sh.pl ?_; refine blk_put (cs := #[.int .i64 ((rd_T79 l2 x35_2).f0), .int .u64 0]) ?_ 1 _ rfl; refine Sh.pl ?_; refine blk_put (cs := #[.int .i64 0, .int .u64 0]) ?_ 0 _ rfl; refine Sh.pl ?_; exact BK419.out)) : gb419 ≠ gb423)); have n7_ := am_ ((by rw [hg]; exact Nat.ne_of_gt (blk_lt (g := gb419) (o := .cells #[.int .i64 ((rd_T79 l2 x35_2).f0), .int .u64 ((rd_T79 l2 x35_2).f1)] 79 (0, 0)) (by refine Sh.pl ?_; refine blk_put (cs := #[.int .i64 ((rd_T79 l2 x35_2).f0), .int .u64 0]) ?_ 1 _ rfl; refine Sh.pl ?_; refine blk_put (cs := #[.int .i64 0, .int .u64 0]) ?_ 0 _ rfl; refine Sh.pl ?_; exact BK419.out)) : gb423 ≠ gb419)); clear HO_7; clear BK419; clear HB; have HO_7 := n0_; have BK419 := n1_; have HB := n2_; have BK423 := n3_; have GW423 := n4_; have GE423 := n5_; have NB419_423 := n6_; have NB423_419 := n7_; clear n0_ n1_ n2_ n3_ n4_ n5_ n6_ n7_; clear hb hbox hg; have hnb55 := NB423_419.out; have hnc55 := NB419_423.out; have hcz56_0 := Sh.bc BK423.out 0; have hfz56_0 := blk_frozen BK423.out 0; obtain ⟨Ao57, co57, eo57⟩ := Kd.R_slice HO_7.out; subst eo57; obtain ⟨hcz58_0, hcz58_1, hfz58_0, hfz58_1⟩ := Sh.b2 BK419.out) | (go_at_call 155; (with_reducible refine (impl_isLeafRight.calls a0 a1 ((rd_T79 l2 x35_2).f0) ((rd_T79 l2 x35_2).f1) true _ A24.out).mono ?_); rintro e w59 ⟨rfl, hb⟩; replace HO_7 := am_ (Kd.R_below (Sh.rl (Kd.R_mono (Kd.R_far (p := ⟨gb423, 0, none⟩) (Kd.R_mono HO_7.out (fun k_ hk => (⟨hk, hk.2⟩ : _ ∧ k_ ≠ gb423))) (fun _ hk => hk.2) (.int .i64 t421)) (fun _ h_ => h_.1))) hb); replace BK419 := am_ (blk_below (g := gb419) (o := .cells #[.int .i64 ((rd_T79 l2 x35_2).f0), .int .u64 ((rd_T79 l2 x35_2).f1)] 79 (0, 0)) (by refine Sh.pl ?_; refine blk_far ?_ NB419_423.out _; refine Sh.pl ?_; exact BK419.out) hb); replace BK423 := am_ (blk_below (g := gb423) (o := .cells #[.int .i64 t421] 3 (0, 0)) (by refine Sh.pl ?_; refine blk_put (cs := #[.int .i64 0]) ?_ 0 _ rfl; refine Sh.pl ?_; exact BK423.out) hb); replace HB := Sh.hb hb; (try clear hb); (try clear hk); have q60 : ((ji35) : Int) ≤ ((x7_2.length : Int) : Int) := Sh.od; obtain ⟨i060, hi060, _, hsz60, _⟩ := info_parts info3; have hroom60 : x7_2.length ≤ co57 := (Kd.R_reads' HO_7.out).2.1; have hC60 : Kd.C (Kd.int .i64) _ Ao57 x7_2.length x7_2 := (Kd.R_reads' HO_7.out).2.2; have q060 : (0 : Int) ≤ ((ji35) : Int) := Sh.od; have hcut60 := cut_from (P := Tryz.prog) 27 3 .i64 Tryz.underlying27 hi060 1 hsz60 Ao57 x7_2.length co57 (ji35) q060 q60; have hr60 := Kd.C_drop (m := ((ji35) : Int).toNat) (c := co57) hC60 (by omega) hroom60; obtain ⟨A60, hA60⟩ : ∃ A1, A1 = (if co57 = ((ji35) : Int).toNat then Ao57 else (Ao57 : Option Addr).map (·.add (((ji35) : Int).toNat * 1))) := ⟨_, rfl⟩; obtain ⟨c60, hc60⟩ : ∃ c1, c1 = co57 - ((ji35) : Int).toNat := ⟨_, rfl⟩; have hy60 : y425.length = x7_2.length - ((ji35) : Int).toNat := (by rw [Ny425.out, List.length_drop] <;> omega); rw [show (x7_2).drop ((ji35) : Int).toNat = y425 from Ny425.out.symm] at hr60; replace hr60 : Kd.C (Kd.int .i64) _ A60 y425.length y425 := (by rw [hA60]; exact hr60); rw [← hy60, ← hA60, ← hc60] at hcut60; have HR428 := am_ hr60; have HC428 := am_ (show y425.length ≤ c60 from by rw [hy60, hc60]; exact Nat.sub_le_sub_right hroom60 _); clear hr60 hC60 hroom60 hi060 hsz60 hc60; have KY60 := am_ hy60; have KA60 := am_ hA60; clear hy60 hA60; have KL60 := am_ (show ((ji35) : Int).toNat ≤ x7_2.length from by omega); replace q60 := eq_true q60) | (go_at_call 53; (with_reducible refine (slices_ContainsFunc_int_int_by_impl_GoodTerm_1.calls _ _ y425 gb423 t421 false _ ?side1 ?side2 ?side3 A38.out).mono ?_); (case side1 => repeat (first | exact (by repeat (first | (with_reducible exact HR428.out) | (with_reducible first | refine Kd.C_alloc ?_ _ | refine Kd.C_drewN ?_ _ | refine Kd.C_drew ?_) | exact HR428.out)) | (with_reducible first | refine Kd.C_alloc ?_ _ | refine Kd.C_drewN ?_ _ | refine Kd.C_drew ?_))); (case side2 => exact HC428.out); (case side3 => refine Sh.pl ?_; exact BK423.out); rintro e w61 ⟨rfl, hb⟩; replace HO_7 := am_ (Kd.R_below (Sh.rl HO_7.out) hb); replace BK419 := Sh.ab BK419 hb; replace BK423 := Sh.ab BK423 hb; replace HR428 := am_ (Kd.C_below (by repeat (first | (with_reducible exact HR428.out) | (with_reducible first | refine Kd.C_alloc ?_ _ | refine Kd.C_drewN ?_ _ | refine Kd.C_drew ?_) | exact HR428.out)) hb); replace HB := Sh.hb hb; (try clear hb); have q62 : ((ji35) : Int) ≤ ((x7_2.length : Int) : Int) := Sh.od; obtain ⟨i062, hi062, _, hsz62, _⟩ := info_parts info3; have hcut62 := cut_to (P := Tryz.prog) 27 3 .i64 Tryz.underlying27 hi062 Ao57 x7_2.length co57 (ji35) (of_decide_eq_true (by first | (with_reducible assumption) | assumption)) q62 (Kd.R_reads' HO_7.out).2.1; have hr62 := Kd.R_take (m := ((ji35) : Int).toNat) HO_7.out (by omega); have hy62 : y430.length = ((ji35) : Int).toNat := (by rw [Ny430.out, List.length_take]; omega); rw [← Ny430.out] at hr62; rw [← hy62] at hr62 hcut62; clear hy62 hi062 hsz62 HO_7; have HO432 := am_ hr62; clear hr62; replace q62 := eq_true q62) | ((with_reducible refine gate_builtin (b := .append) (xs := #[.tmp 72, .tmp 74]) rfl ?_); (try (refine gate_guard (by rfl) ?_; dsimp only)); at_builtin; refine Kd.R_append (Kd.int .i64) (w0 := w) w.heap.size rfl (.tmp 72) (.tmp 74) 27 3 (.int .i64 0) 8 rfl Tryz.underlying27 info3 rfl (by decide) (by omega) (.slice Ao57 y430.length co57) y430 t422 [.int .i64 t422] (fun k_ => k_ ≠ gb423) (fun _ => False) rfl rfl ?aP (fun _ hk => hk.elim) ?aF ?aO ?aB ?aS ?aL ?_; (case aP => exact rfl); (case aB => exact Sh.bw); (case aF => exact (fun k_ hk => Kd.freshB (g := gb423) (o := .cells #[.int .i64 t421] 3 (0, 0)) (Sh.pl BK423.out) k_ hk)); (case aO => exact (Sh.rl (Kd.R_mono HO432.out (fun _ hk => hk.2)))); (case aS => exact (below_size Sh.bw)); (case aL => have := LMc51.out; omega); intro v434 w63 ho hb hg hat; rw [← Ny433.out] at ho; have n0_ := am_ (blk_grown (g := gb419) (o := .cells #[.int .i64 ((rd_T79 l2 x35_2).f0), .int .u64 ((rd_T79 l2 x35_2).f1)] 79 (0, 0)) (Sh.pl BK419.out) hg (Kd.R_ne HO432.out BK419.out (by decide))); have n1_ := am_ (blk_grown (g := gb423) (o := .cells #[.int .i64 t421] 3 (0, 0)) (Sh.pl BK423.out) hg (Kd.R_away HO432.out (fun _ hk => hk.2))); have n2_ := am_ hb; have n3_ := am_ ho; clear BK419; clear BK423; clear HB; clear HO432; have BK419 := n0_; have BK423 := n1_; have HB := n2_; have HO435 := n3_; clear n0_ n1_ n2_ n3_; clear ho hb hg hat))
                go_roundg k2
                case measure => have := HJ3.out; have := HK2.out; omega
                case rel => exact ⟨(y433), (wrap64 (x35_2 + 1)), (Sh.es), H', ⟨by have := HJ3.out; have := HK2.out; omega⟩, ⟨Sh.rl (Kd.R_mono HO435.out (fun _ hk => trivial))⟩, ⟨Sh.bw⟩⟩
               ·rw [if_neg c51] at H
                cases H
             ·rw [if_neg c37] at H
              cases H
            ·rw [if_neg c36] at H
             cases H
          ·replace c25 := Bool.eq_false_iff.mpr c25
           subst c25
           rw [Sh.nf] at H
           obtain rfl := Option.some.inj H
           have p418 : 0 ≤ (x35_2 : Int) := Sh.od
           have q418 : x35_2 < (l2.length : Int) := Sh.od
           obtain ⟨ad418, e418, hx418_0, hx418_1⟩ := at_T79 HR2.out x35_2 p418 q418
           cases e418
           try replace hx418_0 := Sh.cw hx418_0
           try replace hx418_1 := Sh.cw hx418_1
           replace p418 := eq_true p418
           replace q418 := eq_true q418
           go_wp2_with (first | ((with_reducible refine Sh.d 9 ?_); (try (refine gate_guard (by rfl) ?_; dsimp only)); refine Sh.bx (N := 9) (cs := #[.int .i64 0, .int .u64 0]) (t := 79) (h := ?_); intro gb419 hg w64 hbox hb; replace HO_7 := am_ (Kd.R_below (Sh.rl HO_7.out) hb); have BK419 := am_ hbox; have GE419 := Sh.ag w hg; replace HB := Sh.hb hb; clear hb hbox hg; obtain ⟨hcz65_0, hcz65_1, hfz65_0, hfz65_1⟩ := Sh.b2 BK419.out) | ((with_reducible refine Sh.k 154 ?_); refine Sh.gD (some 42) Tryz.func154 #[.int .i64 ((rd_T79 l2 x35_2).f0)] (impl_operandsOf.calls k2 ((rd_T79 l2 x35_2).f0) t420 t421 t422 _ A16.out) fun nd => ?_) | ((with_reducible refine Sh.d 11 ?_); (try (refine gate_guard (by rfl) ?_; dsimp only)); refine Sh.bx (N := 11) (cs := #[.int .i64 0]) (t := 3) (h := ?_); intro gb423 hg w66 hbox hb; have n0_ := am_ (Kd.R_below (Kd.R_elderB (Sh.rl (Kd.R_mono (Kd.R_far (p := ⟨gb419, 1, none⟩) (Kd.R_far (p := ⟨gb419, 0, none⟩) (Kd.R_types HO_7.out BK419.out (by decide)) (fun _ hk => hk.2) (.int .i64 ((rd_T79 l2 x35_2).f0))) (fun _ hk => hk.2) (.int .u64 ((rd_T79 l2 x35_2).f1))) (fun _ h_ => h_.1))) gb423 (Nat.le_of_eq hg.symm)) hb); have n1_ := am_ (blk_below (g := gb419) (o := .cells #[.int .i64 ((rd_T79 l2 x35_2).f0), .int .u64 ((rd_T79 l2 x35_2).f1)] 79 (0, 0)) (by refine Sh.pl ?_; refine blk_put (cs := #[.int .i64 ((rd_T79 l2 x35_2).f0), .int .u64 0]) ?_ 1 _ rfl; refine Sh.pl ?_; refine blk_put (cs := #[.int .i64 0, .int .u64 0]) ?_ 0 _ rfl; refine Sh.pl ?_; exact BK419.out) hb); have n2_ := am_ (below_step Sh.bw hb); have n3_ := am_ hbox; have n4_ := am_ (Sh.gw (w := w) hg); have n5_ := am_ (Sh.gw (w := w) hg); have n6_ := am_ ((by rw [hg]; exact Nat.ne_of_lt (blk_lt (g := gb419) (o := .cells #[.int .i64 ((rd_T79 l2 x35_2).f0), .int .u64 ((rd_T79 l2 x35_2).f1)] 79 (0, 0)) (by refine Sh.pl ?_; refine blk_put (cs := #[.int .i64 ((rd_T79 l2 x35_2).f0), .int .u64 0]) ?_ 1 _ rfl; refine Sh.pl ?_; refine blk_put (cs := #[.int .i64 0, .int .u64 0]) ?_ 0 _ rfl; refine Sh.pl ?_; exact BK419.out)) : gb419 ≠ gb423)); have n7_ := am_ ((by rw [hg]; exact Nat.ne_of_gt (blk_lt (g := gb419) (o := .cells #[.int .i64 ((rd_T79 l2 x35_2).f0), .int .u64 ((rd_T79 l2 x35_2).f1)] 79 (0, 0)) (by refine Sh.pl ?_; refine blk_put (cs := #[.int .i64 ((rd_T79 l2 x35_2).f0), .int .u64 0]) ?_ 1 _ rfl; refine Sh.pl ?_; refine blk_put (cs := #[.int .i64 0, .int .u64 0]) ?_ 0 _ rfl; refine Sh.pl ?_; exact BK419.out)) : gb423 ≠ gb419)); clear HO_7; clear BK419; clear HB; have HO_7 := n0_; have BK419 := n1_; have HB := n2_; have BK423 := n3_; have GW423 := n4_; have GE423 := n5_; have NB419_423 := n6_; have NB423_419 := n7_; clear n0_ n1_ n2_ n3_ n4_ n5_ n6_ n7_; clear hb hbox hg; have hnb67 := NB423_419.out; have hnc67 := NB419_423.out; have hcz68_0 := Sh.bc BK423.out 0; have hfz68_0 := blk_frozen BK423.out 0; obtain ⟨Ao69, co69, eo69⟩ := Kd.R_slice HO_7.out; subst eo69; obtain ⟨hcz70_0, hcz70_1, hfz70_0, hfz70_1⟩ := Sh.b2 BK419.out) | (go_at_call 155; (with_reducible refine (impl_isLeafRight.calls a0 a1 ((rd_T79 l2 x35_2).f0) ((rd_T79 l2 x35_2).f1) false _ A24.out).mono ?_); rintro e w71 ⟨rfl, hb⟩; replace HO_7 := am_ (Kd.R_below (Sh.rl (Kd.R_mono (Kd.R_far (p := ⟨gb423, 0, none⟩) (Kd.R_mono HO_7.out (fun k_ hk => (⟨hk, hk.2⟩ : _ ∧ k_ ≠ gb423))) (fun _ hk => hk.2) (.int .i64 t421)) (fun _ h_ => h_.1))) hb); replace BK419 := am_ (blk_below (g := gb419) (o := .cells #[.int .i64 ((rd_T79 l2 x35_2).f0), .int .u64 ((rd_T79 l2 x35_2).f1)] 79 (0, 0)) (by refine Sh.pl ?_; refine blk_far ?_ NB419_423.out _; refine Sh.pl ?_; exact BK419.out) hb); replace BK423 := am_ (blk_below (g := gb423) (o := .cells #[.int .i64 t421] 3 (0, 0)) (by refine Sh.pl ?_; refine blk_put (cs := #[.int .i64 0]) ?_ 0 _ rfl; refine Sh.pl ?_; exact BK423.out) hb); replace HB := Sh.hb hb; (try clear hb); (try clear hk)))
           go_ret
           exact ⟨Sh.eR, Sh.bw⟩
        ·rw [if_neg c15] at H
         cases H
       ·rw [if_neg c14] at H
        cases H
      ·rw [if_neg c13] at H
       replace c13 := decide_eq_false c13
       obtain rfl := Option.some.inj H
       obtain ⟨Ao72, co72, eo72⟩ := Kd.R_slice HO_7.out
       subst eo72
       go_wp2
       go_ret
       exact ⟨Sh.eR, Sh.bw⟩
def impl_kindOf.f (k : Nat) (l0 : List (S79)) : Option (Int) := if 0 ≤ (wrap64 ((l0.length : Int) - 1)) then (if (wrap64 ((l0.length : Int) - 1)) < (l0.length : Int) then ((impl_operandsOf.f k ((rd_T79 l0 (wrap64 ((l0.length : Int) - 1))).f0)).bind fun bt437 => (some bt437.2.2)) else (none)) else (none)
theorem impl_kindOf.mono : ∀ a0 k, LeO (impl_kindOf.f k a0) (impl_kindOf.f (k + 1) a0) := by
 intro a0 k
 unfold impl_kindOf.f
 repeat' with_reducible first | apply impl_operandsOf.mono | exact LeO.refl _ | exact LeO.none _ | apply LeO.ite | refine LeO.bind ?_ fun _ => ?_
theorem impl_kindOf.calls (k : Nat) (A0 : Option Addr) (c0 : Nat) (l0 : List (S79)) (r : Int) (w : World) (hr0 : Kd.C k79 w A0 l0.length l0) (hc0 : l0.length ≤ c0) (h : impl_kindOf.f k l0 = some r) :
  Calls Tryz.prog 129 #[.slice A0 l0.length c0] w fun e w' => e = .returned (.int .i64 r) ∧ Drawn0 w w' := by
 have HR0 := am_ hr0
 have HC0 := am_ hc0
 clear hr0 hc0
 have H := h
 clear h
 unfold impl_kindOf.f at H
 obtain ⟨ji2, hj1⟩ : ∃ j_ : Int, (wrap64 ((l0.length : Int) - 1)) = j_ := ⟨_, rfl⟩
 replace H : (if 0 ≤ (ji2) then (if (ji2) < (l0.length : Int) then ((impl_operandsOf.f k ((rd_T79 l0 (ji2)).f0)).bind fun bt437 => (some bt437.2.2)) else (none)) else (none)) = some r := by first | (rw [hj1] at H; exact H) | (simp only [hj1] at H ⊢; exact H)
 have hji2w : (IntKind.i64.wrap ((l0.length : Int) - 1)) = ji2 := (i64_w _).trans hj1
 by_cases c3 : 0 ≤ (ji2)
 ·rw [if_pos c3] at H
  replace c3 := decide_eq_true c3
  by_cases c4 : (ji2) < (l0.length : Int)
  ·rw [if_pos c4] at H
   replace c4 := decide_eq_true c4
   obtain ⟨⟨t437, t438, t439⟩, A50, H⟩ := Sh.bd H
   have A5 := am_ A50
   clear A50
   obtain rfl := Option.some.inj H
   have p436 : 0 ≤ ((ji2) : Int) := Sh.od
   have q436 : (ji2) < (l0.length : Int) := Sh.od
   obtain ⟨ad436, e436, hx436_0, hx436_1⟩ := at_T79 HR0.out (ji2) p436 q436
   cases e436
   replace p436 := eq_true p436
   replace q436 := eq_true q436
   go_enter Tryz.func129, Tryz.ntmps129
   go_wp2_with (first | ((with_reducible refine Sh.k 154 ?_); refine goesL_ (some 14) rfl rfl Tryz.func154 (by kernel_rfl) rfl #[.int .i64 ((rd_T79 l0 (ji2)).f0)] rfl (by (try simp only [List.map_toArray, List.map_cons, List.map_nil]); first | done | (simp only [hj1]; rfl) | rfl | (simp only [List.length_drop, List.length_take]; rfl)) ?_; (with_reducible refine (impl_operandsOf.calls k ((rd_T79 l0 (ji2)).f0) t437 t438 t439 _ A5.out).mono ?_); rintro e w' ⟨rfl, ⟨nd, rfl⟩⟩; refine ⟨_, rfl, ?_⟩))
   go_ret
   exact ⟨by first | rfl | (simp; done) | (simp only [← hj1] <;> (first | rfl | simp)) | (simp [*]; done), Sh.dr⟩
  ·rw [if_neg c4] at H
   cases H
 ·rw [if_neg c3] at H
  cases H
def impl_isTermOf.f (k : Nat) (a0 : Int) (a1 : Int) (l2 : List (S79)) (a3 : Int) : Option (Bool) := (impl_GoodTerm.f k a0 a1 l2).bind fun t440 => (if t440 = true then ((impl_kindOf.f k l2).bind fun t441 => (some (t441 == a3))) else (some false))
theorem impl_isTermOf.mono : ∀ a0 a1 a2 a3 k, LeO (impl_isTermOf.f k a0 a1 a2 a3) (impl_isTermOf.f (k + 1) a0 a1 a2 a3) := by
 intro a0 a1 a2 a3 k
 unfold impl_isTermOf.f
 repeat' with_reducible first | apply impl_GoodTerm.mono | apply impl_kindOf.mono | exact LeO.refl _ | exact LeO.none _ | apply LeO.ite | refine LeO.bind ?_ fun _ => ?_
theorem impl_isTermOf.calls (k : Nat) (a0 : Int) (a1 : Int) (A2 : Option Addr) (c2 : Nat) (l2 : List (S79)) (a3 : Int) (r : Bool) (w : World) (hr2 : Kd.C k79 w A2 l2.length l2) (hc2 : l2.length ≤ c2) (h : impl_isTermOf.f k a0 a1 l2 a3 = some r) :
  Calls Tryz.prog 103 #[.int .i64 a0, .int .i64 a1, .slice A2 l2.length c2, .int .i64 a3] w fun e w' => e = .returned (.bool r) ∧ Below w.heap.size w w' := by
 have HR2 := am_ hr2
 have HC2 := am_ hc2
 clear hr2 hc2
 have HB := am_ (Below.refl w.heap.size w)
 have H := h
 clear h
 unfold impl_isTermOf.f at H
 obtain ⟨t440, A5, H⟩ := Sh.ba H
 by_cases c6 : t440 = true
 ·subst c6
  rw [if_pos rfl] at H
  obtain ⟨t441, A7, H⟩ := Sh.ba H
  obtain rfl := Option.some.inj H
  go_enter Tryz.func103, Tryz.ntmps103
  go_wp2_with (first | ((with_reducible refine Sh.k 128 ?_); refine Sh.gL (some 12) Tryz.func128 #[.int .i64 a0, .int .i64 a1, .slice A2 l2.length c2] (h := ?_); (with_reducible refine (impl_GoodTerm.calls k a0 a1 _ _ l2 true _ ?side1 ?side2 A5.out).mono ?_); (case side1 => repeat (first | exact HR2.out | (with_reducible first | refine Kd.C_alloc ?_ _ | refine Kd.C_drewN ?_ _ | refine Kd.C_drew ?_))); (case side2 => exact HC2.out); rintro e w8 ⟨rfl, hb⟩; refine ⟨_, rfl, ?_⟩; replace HB := Sh.hb hb; (try clear hb)) | (go_at_call 129; (with_reducible refine (impl_kindOf.calls k _ _ l2 t441 _ (Sh.cB HR2.out) HC2.out A7.out).mono ?_); rintro e w' ⟨rfl, ⟨nd, rfl⟩⟩))
  go_ret
  exact ⟨Sh.eR, Sh.bw⟩
 ·replace c6 := Bool.eq_false_iff.mpr c6
  subst c6
  rw [Sh.nf] at H
  obtain rfl := Option.some.inj H
  go_enter Tryz.func103, Tryz.ntmps103
  go_wp2_with (first | ((with_reducible refine Sh.k 128 ?_); refine Sh.gL (some 12) Tryz.func128 #[.int .i64 a0, .int .i64 a1, .slice A2 l2.length c2] (h := ?_); (with_reducible refine (impl_GoodTerm.calls k a0 a1 _ _ l2 false _ ?side1 ?side2 A5.out).mono ?_); (case side1 => repeat (first | exact HR2.out | (with_reducible first | refine Kd.C_alloc ?_ _ | refine Kd.C_drewN ?_ _ | refine Kd.C_drew ?_))); (case side2 => exact HC2.out); rintro e w9 ⟨rfl, hb⟩; refine ⟨_, rfl, ?_⟩; replace HB := Sh.hb hb; (try clear hb)))
  go_ret
  exact ⟨Sh.eR, Sh.bw⟩
def impl_Program_isCondition.f (k : Nat) (a0_0 : Int) (a0_1 : Int) (l0_2 : List (S79)) (l0_3 : List (S95)) (l1 : List (S79)) : Option (Bool) := (impl_isTermOf.f k a0_0 a0_1 l1 2).bind fun t443 => (some t443)
theorem impl_Program_isCondition.mono : ∀ a0 a1 a2 a3 a4 k, LeO (impl_Program_isCondition.f k a0 a1 a2 a3 a4) (impl_Program_isCondition.f (k + 1) a0 a1 a2 a3 a4) := by
 intro a0 a1 a2 a3 a4 k
 unfold impl_Program_isCondition.f
 repeat' with_reducible first | apply impl_isTermOf.mono | exact LeO.refl _ | exact LeO.none _ | apply LeO.ite | refine LeO.bind ?_ fun _ => ?_
theorem impl_Program_isCondition.calls (k : Nat) (a0_0 : Int) (a0_1 : Int) (A0_2 : Option Addr) (c0_2 : Nat) (l0_2 : List (S79)) (A0_3 : Option Addr) (c0_3 : Nat) (l0_3 : List (S95)) (A1 : Option Addr) (c1 : Nat) (l1 : List (S79)) (r : Bool) (w : World) (hr0_2 : Kd.C k79 w A0_2 l0_2.length l0_2) (hc0_2 : l0_2.length ≤ c0_2) (hr0_3 : Kd.C k95 w A0_3 l0_3.length l0_3) (hc0_3 : l0_3.length ≤ c0_3) (hr1 : Kd.C k79 w A1 l1.length l1) (hc1 : l1.length ≤ c1) (h : impl_Program_isCondition.f k a0_0 a0_1 l0_2 l0_3 l1 = some r) :
  Calls Tryz.prog 64 #[.agg #[.int .i64 a0_0, .int .i64 a0_1, .slice A0_2 l0_2.length c0_2, .slice A0_3 l0_3.length c0_3], .slice A1 l1.length c1] w fun e w' => e = .returned (.bool r) ∧ Below w.heap.size w w' := by
 have hu33 := Tryz.underlying33
 have HR0_2 := am_ hr0_2
 have HC0_2 := am_ hc0_2
 clear hr0_2 hc0_2
 have HR0_3 := am_ hr0_3
 have HC0_3 := am_ hc0_3
 clear hr0_3 hc0_3
 have HR1 := am_ hr1
 have HC1 := am_ hc1
 clear hr1 hc1
 have HB := am_ (Below.refl w.heap.size w)
 have H := h
 clear h
 unfold impl_Program_isCondition.f at H
 obtain ⟨t443, A3, H⟩ := Sh.ba H
 obtain rfl := Option.some.inj H
 go_enter Tryz.func64, Tryz.ntmps64
 go_wp2_with (first | ((with_reducible refine Sh.d 2 ?_); refine Sh.bz w (N := 2) (cs := #[.int .i64 a0_0, .int .i64 a0_1, .slice A0_2 l0_2.length c0_2, .slice A0_3 l0_3.length c0_3]) (t := 33) (h := ?_); clear HB; intro gb442 w4 BK442 GE442 HB; obtain ⟨hcz5_0, hcz5_1, hcz5_2, hcz5_3, hfz5_0, hfz5_1, hfz5_2, hfz5_3⟩ := Sh.b4 BK442.out) | ((with_reducible refine Sh.k 103 ?_); refine Sh.gB (some 10) Tryz.func103 #[.int .i64 a0_0, .int .i64 a0_1, .slice A1 l1.length c1, .int .i64 2] (impl_isTermOf.calls k a0_0 a0_1 _ _ l1 2 t443 _ (Sh.cB HR1.out) HC1.out A3.out) fun w6 hb => ?_; replace BK442 := Sh.ab BK442 hb; replace HB := Sh.hb hb; (try clear hb)))
 go_ret
 exact ⟨Sh.eR, Sh.bw⟩
theorem impl_Command_107.gen (g : Nat) (lb : Array Value) (eg : ∀ args w, (callFunc g args).run Tryz.prog w = .ok (.enter g args) w) (q : S95 → Option Bool) (A0 : Option Addr) (c0 : Nat) (l0 : List (S95)) (r : Int) (w : World) (hr0 : Kd.C k95 w A0 l0.length l0) (hc0 : l0.length ≤ c0)
  (hp : ∀ (W : World) (x : S95) (b : Bool) (A0 : Option Addr) (c0 : Nat) (A1 : Option Addr) (c1 : Nat), Below w.heap.size w W → x ∈ l0 → q x = some b → x.f0.length ≤ c0 → Kd.C k79 W A0 x.f0.length x.f0 → x.f1.length ≤ c1 → Kd.C k124 W A1 x.f1.length x.f1 → Calls Tryz.prog g (#[.agg #[.slice A0 x.f0.length c0, .slice A1 x.f1.length c1]] ++ lb) W fun e w' => e = .returned (.bool b) ∧ Below W.heap.size W w')
  (h : idxO q l0 0 = some r) : Calls Tryz.prog 107 #[.slice A0 l0.length c0, .func (.func g) #[] lb] w fun e w' => e = .returned (.int .i64 r) ∧ Below w.heap.size w w' := by
 have HR := am_ hr0
 have HP := am_ hp
 have HH := am_ h
 have hn : l0.length ≤ 9223372036854775807 := hr0.2.1
 clear hr0 hp h
 go_enter Tryz.func107, Tryz.ntmps107
 go_wp2
 go_loopg [5, 8] l0.length (fun gg _ s8 wr => ∃ kk : Nat, kk ≤ l0.length ∧ l0.length - kk ≤ gg ∧ s8 = .int .i64 kk ∧ Aside0 (idxO q (l0.drop kk) kk = some r) ∧ Aside0 (Below w.heap.size w wr))
 case atStart => exact ⟨0, Nat.zero_le _, by omega, rfl, HH, ⟨Below.refl _ _⟩⟩
 case round =>
  obtain ⟨kk, hkk, hg, rfl, HA, HB⟩ := hrel
  clear HH
  by_cases hlt : kk < l0.length
  ·have hltz : (kk : Int) < (l0.length : Int) := by omega
   have h0z : 0 ≤ (kk : Int) := by omega
   obtain ⟨ad, A0, c0, A1, c1, e, hx0, hx1, la0, ga0, la1, ga1⟩ := at_T95 HR.out (kk : Int) h0z hltz
   have er : rd_T95 l0 (kk : Int) = l0.getD kk z95 := by simp [rd_T95]
   rw [er] at hx0 hx1 la0 ga0 la1 ga1
   have hA := HA.out
   rw [drop_getD hlt z95] at hA
   obtain ⟨b, hb, hA2⟩ := Option.bind_eq_some_iff.mp hA
   have HA2 := am_ hA2
   have hin := getD_in hlt (z95 : S95)
   have hcall := HP.out wr _ b A0 c0 A1 c1 HB.out hin hb la0 (Kd.C_below ga0 HB.out) la1 (Kd.C_below ga1 HB.out)
   generalize l0.getD kk z95 = y at hx0 hx1 la0 ga0 la1 ga1 hcall
   clear HA hA hA2 hb er hin
   clear la0 ga0 la1 ga1
   cases e
   simp only [Int.toNat_natCast] at hx0 hx1
   try replace hx0 := Sh.cw hx0
   try replace hx1 := Sh.cw hx1
   cases b with
   | true =>
    go_wp2_with (go_at_fn g; refine hcall.mono ?_; rintro e w' ⟨rfl, hb2⟩)
    go_ret
    have h3 := HA2.out
    simp only [if_true] at h3
    exact ⟨by rw [← Option.some.inj h3]; rfl, below_step HB.out hb2⟩
   | false =>
    go_wp2_with (go_at_fn g; refine hcall.mono ?_; rintro e w' ⟨rfl, hb2⟩)
    go_roundg (l0.length - (kk + 1))
    case measure => omega
    case rel =>
     refine ⟨kk + 1, by omega, by omega, by go_num, ⟨by have h3 := HA2.out; simpa using h3⟩, ⟨below_step HB.out hb2⟩⟩
  ·have hltz : ¬ (kk : Int) < (l0.length : Int) := by omega
   have hA := HA.out
   rw [List.drop_of_length_le (by omega)] at hA
   have h4 : (-1 : Int) = r := Option.some.inj hA
   subst h4
   clear HA hA
   have : kk = l0.length := by omega
   subst this
   go_wp2
   go_ret
   exact ⟨rfl, HB.out⟩
theorem impl_Command_74.gen (g : Nat) (lb : Array Value) (eg : ∀ args w, (callFunc g args).run Tryz.prog w = .ok (.enter g args) w) (q : S95 → Option Bool) (A0 : Option Addr) (c0 : Nat) (l0 : List (S95)) (r : Bool) (w : World) (hr0 : Kd.C k95 w A0 l0.length l0) (hc0 : l0.length ≤ c0)
  (hp : ∀ (W : World) (x : S95) (b : Bool) (A0 : Option Addr) (c0 : Nat) (A1 : Option Addr) (c1 : Nat), Below w.heap.size w W → x ∈ l0 → q x = some b → x.f0.length ≤ c0 → Kd.C k79 W A0 x.f0.length x.f0 → x.f1.length ≤ c1 → Kd.C k124 W A1 x.f1.length x.f1 → Calls Tryz.prog g (#[.agg #[.slice A0 x.f0.length c0, .slice A1 x.f1.length c1]] ++ lb) W fun e w' => e = .returned (.bool b) ∧ Below W.heap.size W w')
  (h : anyO q l0 = some r) : Calls Tryz.prog 74 #[.slice A0 l0.length c0, .func (.func g) #[] lb] w fun e w' => e = .returned (.bool r) ∧ Below w.heap.size w w' := by
 obtain ⟨i, hi, hd⟩ := idxO_of_anyO l0 r 0 (Int.le_refl 0) h
 have HC := am_ (impl_Command_107.gen g lb eg q A0 c0 l0 i w hr0 hc0 hp hi)
 have HD := am_ hd
 clear hr0 hp h hi hd
 go_enter Tryz.func74, Tryz.ntmps74
 go_wp2_with (go_at_call 107; refine HC.out.mono ?_; rintro e w' ⟨rfl, hb2⟩)
 go_ret
 exact ⟨by rw [← HD.out]; rfl, hb2⟩
def impl_Program_isCommand.l0 : Nat → List (S124) → Int → Int → Int → Int → List (S79) → List (S95) → List (S79) → List (S124) → Option (Bool)
 | 0, _, _, _, _, _, _, _, _, _ => none
 | k + 1, x13, x14, x15, x445000, x445001, x445002, x445003, x446000, x446001 => if x15 < x14 then (if 0 ≤ x15 then (if x15 < (x13.length : Int) then (if ((rd_T124 x13 x15).f0) < 0 then (some false) else (if ((rd_T124 x13 x15).f0) ≥ x445001 then (some false) else (if x15 > 0 then (if 0 ≤ (wrap64 (x15 - 1)) then (if (wrap64 (x15 - 1)) < (x446001.length : Int) then (if ((rd_T124 x446001 (wrap64 (x15 - 1))).f0) ≥ ((rd_T124 x13 x15).f0) then (some false) else ((impl_isTermOf.f k x445000 x445001 ((rd_T124 x13 x15).f1) 1).bind fun t450 => (if t450 = true then (impl_Program_isCommand.l0 k x13 x14 (wrap64 (x15 + 1)) x445000 x445001 x445002 x445003 x446000 x446001) else (some false)))) else (none)) else (none)) else ((impl_isTermOf.f k x445000 x445001 ((rd_T124 x13 x15).f1) 1).bind fun t451 => (if t451 = true then (impl_Program_isCommand.l0 k x13 x14 (wrap64 (x15 + 1)) x445000 x445001 x445002 x445003 x446000 x446001) else (some false)))))) else (none)) else (none)) else (some true)
def impl_Program_isCommand.f (k : Nat) (a0_0 : Int) (a0_1 : Int) (l0_2 : List (S79)) (l0_3 : List (S95)) (l1_0 : List (S79)) (l1_1 : List (S124)) : Option (Bool) := (impl_Program_isCondition.f k a0_0 a0_1 l0_2 l0_3 l1_0).bind fun t446 => (if t446 = true then (impl_Program_isCommand.l0 k l1_1 (l1_1.length : Int) 0 a0_0 a0_1 l0_2 l0_3 l1_0 l1_1) else (some false))
theorem impl_Program_isCommand.mono_l : ∀ k, (∀ y0 y1 y2 y3 y4 y5 y6 y7 y8, LeO (impl_Program_isCommand.l0 k y0 y1 y2 y3 y4 y5 y6 y7 y8) (impl_Program_isCommand.l0 (k + 1) y0 y1 y2 y3 y4 y5 y6 y7 y8))
 | 0 => fun _ _ _ _ _ _ _ _ _ r h => by simp [impl_Program_isCommand.l0] at h
 | k + 1 => by
  have ih0 := impl_Program_isCommand.mono_l k
  ·intro y0 y1 y2 y3 y4 y5 y6 y7 y8
   unfold impl_Program_isCommand.l0
   repeat' with_reducible first | apply ih0 | apply impl_Program_isCondition.mono | apply impl_isTermOf.mono | exact LeO.refl _ | exact LeO.none _ | apply LeO.ite | refine LeO.bind ?_ fun _ => ?_
theorem impl_Program_isCommand.mono : ∀ a0 a1 a2 a3 a4 a5 k, LeO (impl_Program_isCommand.f k a0 a1 a2 a3 a4 a5) (impl_Program_isCommand.f (k + 1) a0 a1 a2 a3 a4 a5) := by
 intro a0 a1 a2 a3 a4 a5 k
 have ih0 := impl_Program_isCommand.mono_l k
 unfold impl_Program_isCommand.f
 repeat' with_reducible first | apply ih0 | apply impl_Program_isCondition.mono | apply impl_isTermOf.mono | exact LeO.refl _ | exact LeO.none _ | apply LeO.ite | refine LeO.bind ?_ fun _ => ?_
def impl_Program_isCommand.T6 : Bool × List (List Nat × List Nat) := (true, [([], []), ([0], [0]), ([1], [1]), ([2], [2]), ([3], [3]), ([4, 3], [3, 4]), ([3], [3]), ([6, 3], [3, 6]), ([5, 7, 3], [3, 5, 7]), ([3, 8], [3, 8]), ([9, 3], [9]), ([10], [10]), ([11, 10], [10, 11]), ([12, 10, 10], [10, 12]), ([13], [13]), ([14, 13], [13, 14]), ([13], [13]), ([16, 13], [13, 16]), ([15, 17, 13], [13, 15, 17]), ([18, 13], [13, 18]), ([19, 13], [13, 19]), ([13], [13]), ([21, 13], [13, 21]), ([20, 22, 13], [13, 20, 22]), ([13, 23, 10], [10, 13, 23]), ([10, 24], [10, 24]), ([25, 13], [25]), ([26], [26]), ([27, 26], [26, 27]), ([26], [26]), ([29, 26], [26, 29]), ([26], [26]), ([31, 26], [26, 31]), ([28, 30, 32, 26, 26], [26, 28, 30, 32]), ([33, 26], [26, 33]), ([26, 34], [26, 34])])
def impl_Program_isCommand.B6 : List Nat := [0, 1, 3, 7, 15, 31, 15, 79, 255, 511, 1023, 2047, 4095, 8191, 16383, 32767, 16383, 81919, 262143, 524287, 1048575, 16383, 2113535, 8388607, 16777215, 33554431, 67108863, 134217727, 268435455, 134217727, 671088639, 134217727, 2281701375, 8589934591, 17179869183, 34359738367]
theorem impl_Program_isCommand.tab6 : rtab .any (opsOf Tryz.f127 6) = impl_Program_isCommand.T6 := by kernel_rfl
theorem impl_Program_isCommand.bits6 : waitsOk impl_Program_isCommand.T6.2 impl_Program_isCommand.B6 = true := by kernel_rfl
theorem impl_Program_isCommand.calls (k : Nat) (a0_0 : Int) (a0_1 : Int) (A0_2 : Option Addr) (c0_2 : Nat) (l0_2 : List (S79)) (A0_3 : Option Addr) (c0_3 : Nat) (l0_3 : List (S95)) (A1_0 : Option Addr) (c1_0 : Nat) (l1_0 : List (S79)) (A1_1 : Option Addr) (c1_1 : Nat) (l1_1 : List (S124)) (r : Bool) (w : World) (hr0_2 : Kd.C k79 w A0_2 l0_2.length l0_2) (hc0_2 : l0_2.length ≤ c0_2) (hr0_3 : Kd.C k95 w A0_3 l0_3.length l0_3) (hc0_3 : l0_3.length ≤ c0_3) (hr1_0 : Kd.C k79 w A1_0 l1_0.length l1_0) (hc1_0 : l1_0.length ≤ c1_0) (hr1_1 : Kd.C k124 w A1_1 l1_1.length l1_1) (hc1_1 : l1_1.length ≤ c1_1) (h : impl_Program_isCommand.f k a0_0 a0_1 l0_2 l0_3 l1_0 l1_1 = some r) :
  Calls Tryz.prog 127 #[.agg #[.int .i64 a0_0, .int .i64 a0_1, .slice A0_2 l0_2.length c0_2, .slice A0_3 l0_3.length c0_3], .agg #[.slice A1_0 l1_0.length c1_0, .slice A1_1 l1_1.length c1_1]] w fun e w' => e = .returned (.bool r) ∧ Below w.heap.size w w' := by
 have hu33 := Tryz.underlying33
 have hu95 := Tryz.underlying95
 have hu124 := Tryz.underlying124
 have HR0_2 := am_ hr0_2
 have HC0_2 := am_ hc0_2
 clear hr0_2 hc0_2
 have HR0_3 := am_ hr0_3
 have HC0_3 := am_ hc0_3
 clear hr0_3 hc0_3
 have HR1_0 := am_ hr1_0
 have HC1_0 := am_ hc1_0
 clear hr1_0 hc1_0
 have HR1_1 := am_ hr1_1
 have HC1_1 := am_ hc1_1
 clear hr1_1 hc1_1
 have HB := am_ (Below.refl w.heap.size w)
 have H := h
 clear h
 unfold impl_Program_isCommand.f at H
 obtain ⟨t446, A3, H⟩ := Sh.ba H
 by_cases c4 : t446 = true
 ·subst c4
  rw [if_pos rfl] at H
  have H' := am_ H
  clear H
  go_enter Tryz.func127, Tryz.ntmps127
  go_wp2_with (first | ((with_reducible refine Sh.d 2 ?_); refine Sh.bz w (N := 2) (cs := #[.int .i64 a0_0, .int .i64 a0_1, .slice A0_2 l0_2.length c0_2, .slice A0_3 l0_3.length c0_3]) (t := 33) (h := ?_); clear HB; intro gb444 w5 BK444 GE444 HB) | ((with_reducible refine Sh.d 3 ?_); refine Sh.bx (N := 3) (cs := #[.slice A1_0 l1_0.length c1_0, .slice A1_1 l1_1.length c1_1]) (t := 95) (h := ?_); intro gb445 hg w6 hbox hb; have BK445 := am_ hbox; have GE445 := Sh.ag w hg; replace HB := Sh.hb hb; have NB444_445 := am_ (Sh.nl hg BK444.out); have NB445_444 := am_ (Sh.ng hg BK444.out); replace BK444 := Sh.ab BK444 hb; clear hb hbox hg; have hnb7 := NB444_445.out; have hnc7 := NB445_444.out; obtain ⟨hcz8_0, hcz8_1, hcz8_2, hcz8_3, hfz8_0, hfz8_1, hfz8_2, hfz8_3⟩ := Sh.b4 BK444.out; obtain ⟨hcz9_0, hcz9_1, hfz9_0, hfz9_1⟩ := Sh.b2 BK445.out) | ((with_reducible refine Sh.k 64 ?_); refine Sh.gB (some 10) Tryz.func64 #[.agg #[.int .i64 a0_0, .int .i64 a0_1, .slice A0_2 l0_2.length c0_2, .slice A0_3 l0_3.length c0_3], .slice A1_0 l1_0.length c1_0] (impl_Program_isCondition.calls k a0_0 a0_1 _ _ l0_2 _ _ l0_3 _ _ l1_0 true _ (Sh.cB HR0_2.out) HC0_2.out (Sh.cB HR0_3.out) HC0_3.out (Sh.cB HR1_0.out) HC1_0.out A3.out) fun w10 hb => ?_; replace BK444 := Sh.ab BK444 hb; replace BK445 := Sh.ab BK445 hb; replace HB := Sh.hb hb; (try clear hb); (try clear hb2); (try clear hi); obtain ⟨hcz11_0, hcz11_1, hfz11_0, hfz11_1⟩ := Sh.b2 BK445.out))
  go_loopg [15] k (fun kq v15 w' => ∃ (x15_1 : Int), v15 = .int .i64 x15_1 ∧ Aside0 (impl_Program_isCommand.l0 kq l1_1 (l1_1.length : Int) x15_1 a0_0 a0_1 l0_2 l0_3 l1_0 l1_1 = some r) ∧ Aside0 (kq ≤ k) ∧ Aside0 (w'.heap[gb444]? = some (.cells #[.int .i64 a0_0, .int .i64 a0_1, (.slice A0_2 l0_2.length c0_2), (.slice A0_3 l0_3.length c0_3)] 33 (0, 0))) ∧ Aside0 (w'.heap[gb445]? = some (.cells #[(.slice A1_0 l1_0.length c1_0), (.slice A1_1 l1_1.length c1_1)] 95 (0, 0))) ∧ Aside0 (Below w.heap.size w w'))
  case atStart => exact ⟨(0), (Sh.es), H', ⟨Nat.le_refl _⟩, ⟨by refine Sh.pl ?_; exact BK444.out⟩, ⟨by refine Sh.pl ?_; exact BK445.out⟩, ⟨Sh.bw⟩⟩
  case round =>
   clear H'
   try clear hcz11_0
   try clear hcz11_1
   try clear hcz8_0
   try clear hcz8_1
   try clear hcz8_2
   try clear hcz8_3
   try clear hcz9_0
   try clear hcz9_1
   try clear hfz11_0
   try clear hfz11_1
   try clear hfz8_0
   try clear hfz8_1
   try clear hfz8_2
   try clear hfz8_3
   try clear hfz9_0
   try clear hfz9_1
   obtain ⟨x15_1, rfl, HA, HK1, BK444, BK445, HB⟩ := hrel
   cases gk with
   | zero => exact absurd HA.out (by simp [impl_Program_isCommand.l0])
   | succ k1 =>
    have H := HA.out
    clear HA
    simp only [impl_Program_isCommand.l0] at H
    by_cases c12 : x15_1 < (l1_1.length : Int)
    ·rw [if_pos c12] at H
     replace c12 := decide_eq_true c12
     by_cases c13 : 0 ≤ x15_1
     ·rw [if_pos c13] at H
      replace c13 := decide_eq_true c13
      by_cases c14 : x15_1 < (l1_1.length : Int)
      ·rw [if_pos c14] at H
       replace c14 := decide_eq_true c14
       by_cases c15 : ((rd_T124 l1_1 x15_1).f0) < 0
       ·rw [if_pos c15] at H
        replace c15 := decide_eq_true c15
        obtain rfl := Option.some.inj H
        have p447 : 0 ≤ (x15_1 : Int) := Sh.od
        have q447 : x15_1 < (l1_1.length : Int) := Sh.od
        obtain ⟨ad447, A447_1, c447_1, e447, hx447_0, hx447_1, hl447_1, hi447_1⟩ := at_T124 HR1_1.out x15_1 p447 q447
        cases e447
        try replace hx447_0 := Sh.cw hx447_0
        try replace hx447_1 := Sh.cw hx447_1
        have HR447_1 := am_ hi447_1
        have HC447_1 := am_ hl447_1
        clear hi447_1 hl447_1
        replace p447 := eq_true p447
        replace q447 := eq_true q447
        try go_wp2_with (first | ((with_reducible refine Sh.d 6 ?_); refine Sh.bx (N := 6) (cs := #[.int .i64 0, .slice none 0 0]) (t := 124) (h := ?_); intro gb448 hg w16 hbox hb; have BK448 := am_ hbox; have GE448 := Sh.ag w hg; replace HB := Sh.hb hb; have NB444_448 := am_ (Sh.nl hg BK444.out); have NB448_444 := am_ (Sh.ng hg BK444.out); replace BK444 := Sh.ab BK444 hb; have NB445_448 := am_ (Sh.nl hg BK445.out); have NB448_445 := am_ (Sh.ng hg BK445.out); replace BK445 := Sh.ab BK445 hb; clear hb hbox hg; have hnb17 := NB448_444.out; have hnc17 := NB444_448.out; have hnb18 := NB448_445.out; have hnc18 := NB445_448.out; obtain ⟨hcz19_0, hcz19_1, hfz19_0, hfz19_1⟩ := Sh.b2 BK448.out))
        have n0_ : Aside0 (((w16.setCell ⟨gb448, 0, none⟩ (.int .i64 ((rd_T124 l1_1 x15_1).f0))).setCell ⟨gb448, 1, none⟩ (.slice A447_1 ((rd_T124 l1_1 x15_1).f1).length c447_1)).heap[gb444]? = some (.cells #[.int .i64 a0_0, .int .i64 a0_1, .slice A0_2 l0_2.length c0_2, .slice A0_3 l0_3.length c0_3] 33 (0, 0))) := ⟨by refine Sh.pl ?_; refine blk_far ?_ NB444_448.out _; refine Sh.pl ?_; refine blk_far ?_ NB444_448.out _; refine Sh.pl ?_; exact BK444.out⟩
        have n1_ : Aside0 (((w16.setCell ⟨gb448, 0, none⟩ (.int .i64 ((rd_T124 l1_1 x15_1).f0))).setCell ⟨gb448, 1, none⟩ (.slice A447_1 ((rd_T124 l1_1 x15_1).f1).length c447_1)).heap[gb445]? = some (.cells #[.slice A1_0 l1_0.length c1_0, .slice (some ad447) l1_1.length c1_1] 95 (0, 0))) := ⟨by refine Sh.pl ?_; refine blk_far ?_ NB445_448.out _; refine Sh.pl ?_; refine blk_far ?_ NB445_448.out _; refine Sh.pl ?_; exact BK445.out⟩
        have n2_ : Aside0 (((w16.setCell ⟨gb448, 0, none⟩ (.int .i64 ((rd_T124 l1_1 x15_1).f0))).setCell ⟨gb448, 1, none⟩ (.slice A447_1 ((rd_T124 l1_1 x15_1).f1).length c447_1)).heap[gb448]? = some (.cells #[.int .i64 ((rd_T124 l1_1 x15_1).f0), .slice A447_1 ((rd_T124 l1_1 x15_1).f1).length c447_1] 124 (0, 0))) := ⟨by refine Sh.pl ?_; refine blk_put (cs := #[.int .i64 ((rd_T124 l1_1 x15_1).f0), .slice none 0 0]) ?_ 1 _ rfl; refine Sh.pl ?_; refine blk_put (cs := #[.int .i64 0, .slice none 0 0]) ?_ 0 _ rfl; refine Sh.pl ?_; exact BK448.out⟩
        have n3_ : Aside0 (Below w.heap.size w ((w16.setCell ⟨gb448, 0, none⟩ (.int .i64 ((rd_T124 l1_1 x15_1).f0))).setCell ⟨gb448, 1, none⟩ (.slice A447_1 ((rd_T124 l1_1 x15_1).f1).length c447_1))) := ⟨Sh.bw⟩
        (try clear BK444)
        (try clear BK445)
        (try clear BK448)
        (try clear HB)
        generalize ((w16.setCell ⟨gb448, 0, none⟩ (.int .i64 ((rd_T124 l1_1 x15_1).f0))).setCell ⟨gb448, 1, none⟩ (.slice A447_1 ((rd_T124 l1_1 x15_1).f1).length c447_1)) = w20 at n0_ n1_ n2_ n3_ ⊢
        have BK444 := n0_
        have BK445 := n1_
        have BK448 := n2_
        have HB := n3_
        clear n0_ n1_ n2_ n3_
        replace BK444 := am_ (blk_drew BK444.out)
        replace BK445 := am_ (blk_drew BK445.out)
        replace BK448 := am_ (blk_drew BK448.out)
        replace HB := am_ (below_drew1 HB.out)
        refine start_ (n := 36) (S := fun w' => w'.cell? ⟨gb448, 0, none⟩ = some (.int .i64 ((rd_T124 l1_1 x15_1).f0)) ∧ w'.cell? ⟨gb448, 1, none⟩ = some (.slice A447_1 ((rd_T124 l1_1 x15_1).f1).length c447_1)) (ds := []) (Sh.nm 36 0) (by kernel_rfl) rfl rfl Sh.cs (fun hHeld => ?_); refine with_tabW impl_Program_isCommand.tab6 impl_Program_isCommand.bits6 (fun HT_ HW_ => ?_)
        generalize w20.drew = w21 at BK444 BK445 BK448 HB hHeld ⊢
        refine Sh.qA 0 ?_; refine Sh.qT 1 hHeld ?_; refine Sh.qA 2 ?_; refine Sh.qA 3 ?_; refine Sh.qU 4 ?_; refine Sh.qU 5 ?_; refine Sh.qU 6 ?_; refine Sh.qU 7 ?_; refine Sh.qU 8 ?_; refine Sh.qA 9 ?_; refine Sh.qA 10 ?_; refine Sh.qU 11 ?_; refine Sh.qU 12 ?_; refine Sh.qU 13 ?_; refine Sh.qU 14 ?_; refine Sh.qU 15 ?_; refine Sh.qU 16 ?_; refine Sh.qU 17 ?_; refine Sh.qU 18 ?_; refine Sh.qU 19 ?_; refine Sh.qU 20 ?_; refine Sh.qU 21 ?_; refine Sh.qU 22 ?_; refine Sh.qU 23 ?_; refine Sh.qU 24 ?_; refine Sh.qA 25 ?_; refine Sh.qA 26 ?_; refine Sh.qU 27 ?_; refine Sh.qU 28 ?_; refine Sh.qU 29 ?_; refine Sh.qU 30 ?_; refine Sh.qU 31 ?_; refine Sh.qU 32 ?_; refine Sh.qU 33 ?_; refine Sh.qU 34 ?_; refine Sh.qA 35 ?_
        refine done_ (done_of HT_.out (by kernel_rfl)) ?_
        try go_wp2
        go_ret
        exact ⟨Sh.eR, Sh.bw⟩
       ·rw [if_neg c15] at H
        replace c15 := decide_eq_false c15
        by_cases c22 : ((rd_T124 l1_1 x15_1).f0) ≥ a0_1
        ·rw [if_pos c22] at H
         have c22b0 : decide (a0_1 ≤ ((rd_T124 l1_1 x15_1).f0)) = true := decide_eq_true c22
         clear c22
         obtain rfl := Option.some.inj H
         have p447 : 0 ≤ (x15_1 : Int) := Sh.od
         have q447 : x15_1 < (l1_1.length : Int) := Sh.od
         obtain ⟨ad447, A447_1, c447_1, e447, hx447_0, hx447_1, hl447_1, hi447_1⟩ := at_T124 HR1_1.out x15_1 p447 q447
         cases e447
         try replace hx447_0 := Sh.cw hx447_0
         try replace hx447_1 := Sh.cw hx447_1
         have HR447_1 := am_ hi447_1
         have HC447_1 := am_ hl447_1
         clear hi447_1 hl447_1
         replace p447 := eq_true p447
         replace q447 := eq_true q447
         try go_wp2_with (first | ((with_reducible refine Sh.d 6 ?_); refine Sh.bx (N := 6) (cs := #[.int .i64 0, .slice none 0 0]) (t := 124) (h := ?_); intro gb448 hg w23 hbox hb; have BK448 := am_ hbox; have GE448 := Sh.ag w hg; replace HB := Sh.hb hb; have NB444_448 := am_ (Sh.nl hg BK444.out); have NB448_444 := am_ (Sh.ng hg BK444.out); replace BK444 := Sh.ab BK444 hb; have NB445_448 := am_ (Sh.nl hg BK445.out); have NB448_445 := am_ (Sh.ng hg BK445.out); replace BK445 := Sh.ab BK445 hb; clear hb hbox hg; have hnb24 := NB448_444.out; have hnc24 := NB444_448.out; have hnb25 := NB448_445.out; have hnc25 := NB445_448.out; obtain ⟨hcz26_0, hcz26_1, hfz26_0, hfz26_1⟩ := Sh.b2 BK448.out))
         have n0_ : Aside0 (((w23.setCell ⟨gb448, 0, none⟩ (.int .i64 ((rd_T124 l1_1 x15_1).f0))).setCell ⟨gb448, 1, none⟩ (.slice A447_1 ((rd_T124 l1_1 x15_1).f1).length c447_1)).heap[gb444]? = some (.cells #[.int .i64 a0_0, .int .i64 a0_1, .slice A0_2 l0_2.length c0_2, .slice A0_3 l0_3.length c0_3] 33 (0, 0))) := ⟨by refine Sh.pl ?_; refine blk_far ?_ NB444_448.out _; refine Sh.pl ?_; refine blk_far ?_ NB444_448.out _; refine Sh.pl ?_; exact BK444.out⟩
         have n1_ : Aside0 (((w23.setCell ⟨gb448, 0, none⟩ (.int .i64 ((rd_T124 l1_1 x15_1).f0))).setCell ⟨gb448, 1, none⟩ (.slice A447_1 ((rd_T124 l1_1 x15_1).f1).length c447_1)).heap[gb445]? = some (.cells #[.slice A1_0 l1_0.length c1_0, .slice (some ad447) l1_1.length c1_1] 95 (0, 0))) := ⟨by refine Sh.pl ?_; refine blk_far ?_ NB445_448.out _; refine Sh.pl ?_; refine blk_far ?_ NB445_448.out _; refine Sh.pl ?_; exact BK445.out⟩
         have n2_ : Aside0 (((w23.setCell ⟨gb448, 0, none⟩ (.int .i64 ((rd_T124 l1_1 x15_1).f0))).setCell ⟨gb448, 1, none⟩ (.slice A447_1 ((rd_T124 l1_1 x15_1).f1).length c447_1)).heap[gb448]? = some (.cells #[.int .i64 ((rd_T124 l1_1 x15_1).f0), .slice A447_1 ((rd_T124 l1_1 x15_1).f1).length c447_1] 124 (0, 0))) := ⟨by refine Sh.pl ?_; refine blk_put (cs := #[.int .i64 ((rd_T124 l1_1 x15_1).f0), .slice none 0 0]) ?_ 1 _ rfl; refine Sh.pl ?_; refine blk_put (cs := #[.int .i64 0, .slice none 0 0]) ?_ 0 _ rfl; refine Sh.pl ?_; exact BK448.out⟩
         have n3_ : Aside0 (Below w.heap.size w ((w23.setCell ⟨gb448, 0, none⟩ (.int .i64 ((rd_T124 l1_1 x15_1).f0))).setCell ⟨gb448, 1, none⟩ (.slice A447_1 ((rd_T124 l1_1 x15_1).f1).length c447_1))) := ⟨Sh.bw⟩
         (try clear BK444)
         (try clear BK445)
         (try clear BK448)
         (try clear HB)
         generalize ((w23.setCell ⟨gb448, 0, none⟩ (.int .i64 ((rd_T124 l1_1 x15_1).f0))).setCell ⟨gb448, 1, none⟩ (.slice A447_1 ((rd_T124 l1_1 x15_1).f1).length c447_1)) = w27 at n0_ n1_ n2_ n3_ ⊢
         have BK444 := n0_
         have BK445 := n1_
         have BK448 := n2_
         have HB := n3_
         clear n0_ n1_ n2_ n3_
         replace BK444 := am_ (blk_drew BK444.out)
         replace BK445 := am_ (blk_drew BK445.out)
         replace BK448 := am_ (blk_drew BK448.out)
         replace HB := am_ (below_drew1 HB.out)
         refine start_ (n := 36) (S := fun w' => w'.cell? ⟨gb448, 0, none⟩ = some (.int .i64 ((rd_T124 l1_1 x15_1).f0)) ∧ w'.cell? ⟨gb448, 1, none⟩ = some (.slice A447_1 ((rd_T124 l1_1 x15_1).f1).length c447_1) ∧ w'.cell? ⟨gb444, 0, none⟩ = some (.int .i64 a0_0) ∧ w'.cell? ⟨gb444, 1, none⟩ = some (.int .i64 a0_1) ∧ w'.cell? ⟨gb444, 2, none⟩ = some (.slice A0_2 l0_2.length c0_2) ∧ w'.cell? ⟨gb444, 3, none⟩ = some (.slice A0_3 l0_3.length c0_3)) (ds := []) (Sh.nm 36 0) (by kernel_rfl) rfl rfl Sh.cs (fun hHeld => ?_); refine with_tabW impl_Program_isCommand.tab6 impl_Program_isCommand.bits6 (fun HT_ HW_ => ?_)
         generalize w27.drew = w28 at BK444 BK445 BK448 HB hHeld ⊢
         refine Sh.qA 0 ?_; refine Sh.qT 1 hHeld ?_; refine Sh.qA 2 ?_; refine Sh.qA 3 ?_; refine Sh.qA 4 ?_; refine Sh.qA 6 ?_; refine Sh.qT 5 hHeld ?_; refine Sh.qT 7 hHeld ?_; refine Sh.qA 8 ?_; refine Sh.qA 9 ?_; refine Sh.qA 10 ?_; refine Sh.qU 11 ?_; refine Sh.qU 12 ?_; refine Sh.qU 13 ?_; refine Sh.qU 14 ?_; refine Sh.qU 15 ?_; refine Sh.qU 16 ?_; refine Sh.qU 17 ?_; refine Sh.qU 18 ?_; refine Sh.qU 19 ?_; refine Sh.qU 20 ?_; refine Sh.qU 21 ?_; refine Sh.qU 22 ?_; refine Sh.qU 23 ?_; refine Sh.qU 24 ?_; refine Sh.qA 25 ?_; refine Sh.qA 26 ?_; refine Sh.qU 27 ?_; refine Sh.qU 28 ?_; refine Sh.qU 29 ?_; refine Sh.qU 30 ?_; refine Sh.qU 31 ?_; refine Sh.qU 32 ?_; refine Sh.qU 33 ?_; refine Sh.qU 34 ?_; refine Sh.qA 35 ?_
         refine done_ (done_of HT_.out (by kernel_rfl)) ?_
         try go_wp2
         go_ret
         exact ⟨Sh.eR, Sh.bw⟩
        ·rw [if_neg c22] at H
         have c22b0 : decide (a0_1 ≤ ((rd_T124 l1_1 x15_1).f0)) = false := decide_eq_false c22
         clear c22
         by_cases c29 : x15_1 > 0
         ·rw [if_pos c29] at H
          have c29b0 : decide (0 < x15_1) = true := decide_eq_true c29
          clear c29
          obtain ⟨ji30, hj1⟩ : ∃ j_ : Int, (wrap64 (x15_1 - 1)) = j_ := ⟨_, rfl⟩
          replace H : (if 0 ≤ (ji30) then (if (ji30) < (l1_1.length : Int) then (if ((rd_T124 l1_1 (ji30)).f0) ≥ ((rd_T124 l1_1 x15_1).f0) then (some false) else ((impl_isTermOf.f k1 a0_0 a0_1 ((rd_T124 l1_1 x15_1).f1) 1).bind fun t450 => (if t450 = true then (impl_Program_isCommand.l0 k1 l1_1 (l1_1.length : Int) (wrap64 (x15_1 + 1)) a0_0 a0_1 l0_2 l0_3 l1_0 l1_1) else (some false)))) else (none)) else (none)) = some r := by first | (rw [hj1] at H; exact H) | (simp only [hj1] at H ⊢; exact H)
          have hji30w : (IntKind.i64.wrap (x15_1 - 1)) = ji30 := (i64_w _).trans hj1
          by_cases c31 : 0 ≤ (ji30)
          ·rw [if_pos c31] at H
           replace c31 := decide_eq_true c31
           by_cases c32 : (ji30) < (l1_1.length : Int)
           ·rw [if_pos c32] at H
            replace c32 := decide_eq_true c32
            by_cases c33 : ((rd_T124 l1_1 (ji30)).f0) ≥ ((rd_T124 l1_1 x15_1).f0)
            ·rw [if_pos c33] at H
             have c33b0 : decide (((rd_T124 l1_1 x15_1).f0) ≤ ((rd_T124 l1_1 (ji30)).f0)) = true := decide_eq_true c33
             clear c33
             obtain rfl := Option.some.inj H
             have p447 : 0 ≤ (x15_1 : Int) := Sh.od
             have q447 : x15_1 < (l1_1.length : Int) := Sh.od
             obtain ⟨ad447, A447_1, c447_1, e447, hx447_0, hx447_1, hl447_1, hi447_1⟩ := at_T124 HR1_1.out x15_1 p447 q447
             cases e447
             try replace hx447_0 := Sh.cw hx447_0
             try replace hx447_1 := Sh.cw hx447_1
             have HR447_1 := am_ hi447_1
             have HC447_1 := am_ hl447_1
             clear hi447_1 hl447_1
             replace p447 := eq_true p447
             replace q447 := eq_true q447
             try go_wp2_with (first | ((with_reducible refine Sh.d 6 ?_); refine Sh.bx (N := 6) (cs := #[.int .i64 0, .slice none 0 0]) (t := 124) (h := ?_); intro gb448 hg w34 hbox hb; have BK448 := am_ hbox; have GE448 := Sh.ag w hg; replace HB := Sh.hb hb; have NB444_448 := am_ (Sh.nl hg BK444.out); have NB448_444 := am_ (Sh.ng hg BK444.out); replace BK444 := Sh.ab BK444 hb; have NB445_448 := am_ (Sh.nl hg BK445.out); have NB448_445 := am_ (Sh.ng hg BK445.out); replace BK445 := Sh.ab BK445 hb; clear hb hbox hg; have hnb35 := NB448_444.out; have hnc35 := NB444_448.out; have hnb36 := NB448_445.out; have hnc36 := NB445_448.out; obtain ⟨hcz37_0, hcz37_1, hfz37_0, hfz37_1⟩ := Sh.b2 BK448.out))
             have n0_ : Aside0 (((w34.setCell ⟨gb448, 0, none⟩ (.int .i64 ((rd_T124 l1_1 x15_1).f0))).setCell ⟨gb448, 1, none⟩ (.slice A447_1 ((rd_T124 l1_1 x15_1).f1).length c447_1)).heap[gb444]? = some (.cells #[.int .i64 a0_0, .int .i64 a0_1, .slice A0_2 l0_2.length c0_2, .slice A0_3 l0_3.length c0_3] 33 (0, 0))) := ⟨by refine Sh.pl ?_; refine blk_far ?_ NB444_448.out _; refine Sh.pl ?_; refine blk_far ?_ NB444_448.out _; refine Sh.pl ?_; exact BK444.out⟩
             have n1_ : Aside0 (((w34.setCell ⟨gb448, 0, none⟩ (.int .i64 ((rd_T124 l1_1 x15_1).f0))).setCell ⟨gb448, 1, none⟩ (.slice A447_1 ((rd_T124 l1_1 x15_1).f1).length c447_1)).heap[gb445]? = some (.cells #[.slice A1_0 l1_0.length c1_0, .slice (some ad447) l1_1.length c1_1] 95 (0, 0))) := ⟨by refine Sh.pl ?_; refine blk_far ?_ NB445_448.out _; refine Sh.pl ?_; refine blk_far ?_ NB445_448.out _; refine Sh.pl ?_; exact BK445.out⟩
             have n2_ : Aside0 (((w34.setCell ⟨gb448, 0, none⟩ (.int .i64 ((rd_T124 l1_1 x15_1).f0))).setCell ⟨gb448, 1, none⟩ (.slice A447_1 ((rd_T124 l1_1 x15_1).f1).length c447_1)).heap[gb448]? = some (.cells #[.int .i64 ((rd_T124 l1_1 x15_1).f0), .slice A447_1 ((rd_T124 l1_1 x15_1).f1).length c447_1] 124 (0, 0))) := ⟨by refine Sh.pl ?_; refine blk_put (cs := #[.int .i64 ((rd_T124 l1_1 x15_1).f0), .slice none 0 0]) ?_ 1 _ rfl; refine Sh.pl ?_; refine blk_put (cs := #[.int .i64 0, .slice none 0 0]) ?_ 0 _ rfl; refine Sh.pl ?_; exact BK448.out⟩
             have n3_ : Aside0 (Below w.heap.size w ((w34.setCell ⟨gb448, 0, none⟩ (.int .i64 ((rd_T124 l1_1 x15_1).f0))).setCell ⟨gb448, 1, none⟩ (.slice A447_1 ((rd_T124 l1_1 x15_1).f1).length c447_1))) := ⟨Sh.bw⟩
             (try clear BK444)
             (try clear BK445)
             (try clear BK448)
             (try clear HB)
             generalize ((w34.setCell ⟨gb448, 0, none⟩ (.int .i64 ((rd_T124 l1_1 x15_1).f0))).setCell ⟨gb448, 1, none⟩ (.slice A447_1 ((rd_T124 l1_1 x15_1).f1).length c447_1)) = w38 at n0_ n1_ n2_ n3_ ⊢
             have BK444 := n0_
             have BK445 := n1_
             have BK448 := n2_
             have HB := n3_
             clear n0_ n1_ n2_ n3_
             replace BK444 := am_ (blk_drew BK444.out)
             replace BK445 := am_ (blk_drew BK445.out)
             replace BK448 := am_ (blk_drew BK448.out)
             replace HB := am_ (below_drew1 HB.out)
             have p449 : 0 ≤ ((ji30) : Int) := Sh.od
             have q449 : (ji30) < (l1_1.length : Int) := Sh.od
             obtain ⟨ad449, A449_1, c449_1, e449, hx449_0, hx449_1, hl449_1, hi449_1⟩ := at_T124 HR1_1.out (ji30) p449 q449
             have hw449_1 := hx449_1
             have hw449_0 := hx449_0
             obtain rfl : ad447 = ad449 := (by injection e449)
             try replace hx449_0 := Sh.cw hx449_0
             try replace hx449_1 := Sh.cw hx449_1
             have HR449_1 := am_ hi449_1
             have HC449_1 := am_ hl449_1
             clear hi449_1 hl449_1
             replace p449 := eq_true p449
             replace q449 := eq_true q449
             refine start_ (n := 36) (S := fun w' => w'.cell? ⟨gb448, 0, none⟩ = some (.int .i64 ((rd_T124 l1_1 x15_1).f0)) ∧ w'.cell? ⟨gb448, 1, none⟩ = some (.slice A447_1 ((rd_T124 l1_1 x15_1).f1).length c447_1) ∧ w'.cell? ⟨gb444, 0, none⟩ = some (.int .i64 a0_0) ∧ w'.cell? ⟨gb444, 1, none⟩ = some (.int .i64 a0_1) ∧ w'.cell? ⟨gb444, 2, none⟩ = some (.slice A0_2 l0_2.length c0_2) ∧ w'.cell? ⟨gb444, 3, none⟩ = some (.slice A0_3 l0_3.length c0_3) ∧ w'.cell? ⟨gb445, 0, none⟩ = some (.slice A1_0 l1_0.length c1_0) ∧ w'.cell? ⟨gb445, 1, none⟩ = some (.slice (some ad447) l1_1.length c1_1) ∧ w'.cell? (ad447.add (((ji30)).toNat * 2)) = some (.int .i64 ((rd_T124 l1_1 (ji30)).f0)) ∧ w'.cell? ⟨(ad447.add (((ji30)).toNat * 2)).block, (ad447.add (((ji30)).toNat * 2)).off + 1, none⟩ = some (.slice A449_1 ((rd_T124 l1_1 (ji30)).f1).length c449_1)) (ds := []) (Sh.nm 36 0) (by kernel_rfl) rfl rfl Sh.cs (fun hHeld => ?_); refine with_tabW impl_Program_isCommand.tab6 impl_Program_isCommand.bits6 (fun HT_ HW_ => ?_)
             generalize w38.drew = w39 at BK444 BK445 BK448 HB HR449_1 hx449_0 hx449_1 hHeld ⊢
             refine Sh.qA 0 ?_; refine Sh.qT 1 hHeld ?_; refine Sh.qA 2 ?_; refine Sh.qA 3 ?_; refine Sh.qA 4 ?_; refine Sh.qA 6 ?_; refine Sh.qT 5 hHeld ?_; refine Sh.qT 7 hHeld ?_; refine Sh.qA 8 ?_; refine Sh.qA 9 ?_; refine Sh.qA 10 ?_; refine Sh.qA 11 ?_; refine Sh.qA 12 ?_; refine Sh.qA 13 ?_; refine Sh.qA 14 ?_; refine Sh.qA 16 ?_; refine Sh.qA 17 ?_; refine Sh.qA 21 ?_; refine Sh.qT 15 hHeld ?_; refine Sh.qA 18 ?_; refine Sh.qA 19 ?_; refine Sh.qT 20 hHeld ?_; refine Sh.qT 22 hHeld ?_; refine Sh.qA 23 ?_; refine Sh.qA 24 ?_; refine Sh.qA 25 ?_; refine Sh.qA 26 ?_; refine Sh.qU 27 ?_; refine Sh.qU 28 ?_; refine Sh.qU 29 ?_; refine Sh.qU 30 ?_; refine Sh.qU 31 ?_; refine Sh.qU 32 ?_; refine Sh.qU 33 ?_; refine Sh.qU 34 ?_; refine Sh.qA 35 ?_
             refine done_ (done_of HT_.out (by kernel_rfl)) ?_
             try go_wp2
             go_ret
             exact ⟨by first | rfl | (simp [errW_none, errW_some] <;> rfl) | (simp only [← hj1]; first | rfl | (simp [errW_none, errW_some] <;> rfl)) | (simp [*, errW_none, errW_some] <;> rfl), Sh.bw⟩
            ·rw [if_neg c33] at H
             have c33b0 : decide (((rd_T124 l1_1 x15_1).f0) ≤ ((rd_T124 l1_1 (ji30)).f0)) = false := decide_eq_false c33
             clear c33
             obtain ⟨t450, A40, H⟩ := Sh.ba H
             by_cases c41 : t450 = true
             ·subst c41
              rw [if_pos rfl] at H
              have H' := am_ H
              clear H
              have p447 : 0 ≤ (x15_1 : Int) := Sh.od
              have q447 : x15_1 < (l1_1.length : Int) := Sh.od
              obtain ⟨ad447, A447_1, c447_1, e447, hx447_0, hx447_1, hl447_1, hi447_1⟩ := at_T124 HR1_1.out x15_1 p447 q447
              cases e447
              try replace hx447_0 := Sh.cw hx447_0
              try replace hx447_1 := Sh.cw hx447_1
              have HR447_1 := am_ hi447_1
              have HC447_1 := am_ hl447_1
              clear hi447_1 hl447_1
              replace p447 := eq_true p447
              replace q447 := eq_true q447
              try go_wp2_with (first | ((with_reducible refine Sh.d 6 ?_); refine Sh.bx (N := 6) (cs := #[.int .i64 0, .slice none 0 0]) (t := 124) (h := ?_); intro gb448 hg w42 hbox hb; have BK448 := am_ hbox; have GE448 := Sh.ag w hg; replace HB := Sh.hb hb; have NB444_448 := am_ (Sh.nl hg BK444.out); have NB448_444 := am_ (Sh.ng hg BK444.out); replace BK444 := Sh.ab BK444 hb; have NB445_448 := am_ (Sh.nl hg BK445.out); have NB448_445 := am_ (Sh.ng hg BK445.out); replace BK445 := Sh.ab BK445 hb; clear hb hbox hg; have hnb43 := NB448_444.out; have hnc43 := NB444_448.out; have hnb44 := NB448_445.out; have hnc44 := NB445_448.out; obtain ⟨hcz45_0, hcz45_1, hfz45_0, hfz45_1⟩ := Sh.b2 BK448.out))
              have n0_ : Aside0 (((w42.setCell ⟨gb448, 0, none⟩ (.int .i64 ((rd_T124 l1_1 x15_1).f0))).setCell ⟨gb448, 1, none⟩ (.slice A447_1 ((rd_T124 l1_1 x15_1).f1).length c447_1)).heap[gb444]? = some (.cells #[.int .i64 a0_0, .int .i64 a0_1, .slice A0_2 l0_2.length c0_2, .slice A0_3 l0_3.length c0_3] 33 (0, 0))) := ⟨by refine Sh.pl ?_; refine blk_far ?_ NB444_448.out _; refine Sh.pl ?_; refine blk_far ?_ NB444_448.out _; refine Sh.pl ?_; exact BK444.out⟩
              have n1_ : Aside0 (((w42.setCell ⟨gb448, 0, none⟩ (.int .i64 ((rd_T124 l1_1 x15_1).f0))).setCell ⟨gb448, 1, none⟩ (.slice A447_1 ((rd_T124 l1_1 x15_1).f1).length c447_1)).heap[gb445]? = some (.cells #[.slice A1_0 l1_0.length c1_0, .slice (some ad447) l1_1.length c1_1] 95 (0, 0))) := ⟨by refine Sh.pl ?_; refine blk_far ?_ NB445_448.out _; refine Sh.pl ?_; refine blk_far ?_ NB445_448.out _; refine Sh.pl ?_; exact BK445.out⟩
              have n2_ : Aside0 (((w42.setCell ⟨gb448, 0, none⟩ (.int .i64 ((rd_T124 l1_1 x15_1).f0))).setCell ⟨gb448, 1, none⟩ (.slice A447_1 ((rd_T124 l1_1 x15_1).f1).length c447_1)).heap[gb448]? = some (.cells #[.int .i64 ((rd_T124 l1_1 x15_1).f0), .slice A447_1 ((rd_T124 l1_1 x15_1).f1).length c447_1] 124 (0, 0))) := ⟨by refine Sh.pl ?_; refine blk_put (cs := #[.int .i64 ((rd_T124 l1_1 x15_1).f0), .slice none 0 0]) ?_ 1 _ rfl; refine Sh.pl ?_; refine blk_put (cs := #[.int .i64 0, .slice none 0 0]) ?_ 0 _ rfl; refine Sh.pl ?_; exact BK448.out⟩
              have n3_ : Aside0 (Below w.heap.size w ((w42.setCell ⟨gb448, 0, none⟩ (.int .i64 ((rd_T124 l1_1 x15_1).f0))).setCell ⟨gb448, 1, none⟩ (.slice A447_1 ((rd_T124 l1_1 x15_1).f1).length c447_1))) := ⟨Sh.bw⟩
              (try clear BK444)
              (try clear BK445)
              (try clear BK448)
              (try clear HB)
              generalize ((w42.setCell ⟨gb448, 0, none⟩ (.int .i64 ((rd_T124 l1_1 x15_1).f0))).setCell ⟨gb448, 1, none⟩ (.slice A447_1 ((rd_T124 l1_1 x15_1).f1).length c447_1)) = w46 at n0_ n1_ n2_ n3_ ⊢
              have BK444 := n0_
              have BK445 := n1_
              have BK448 := n2_
              have HB := n3_
              clear n0_ n1_ n2_ n3_
              replace BK444 := am_ (blk_drew BK444.out)
              replace BK445 := am_ (blk_drew BK445.out)
              replace BK448 := am_ (blk_drew BK448.out)
              replace HB := am_ (below_drew1 HB.out)
              have p449 : 0 ≤ ((ji30) : Int) := Sh.od
              have q449 : (ji30) < (l1_1.length : Int) := Sh.od
              obtain ⟨ad449, A449_1, c449_1, e449, hx449_0, hx449_1, hl449_1, hi449_1⟩ := at_T124 HR1_1.out (ji30) p449 q449
              have hw449_1 := hx449_1
              have hw449_0 := hx449_0
              obtain rfl : ad447 = ad449 := (by injection e449)
              try replace hx449_0 := Sh.cw hx449_0
              try replace hx449_1 := Sh.cw hx449_1
              have HR449_1 := am_ hi449_1
              have HC449_1 := am_ hl449_1
              clear hi449_1 hl449_1
              replace p449 := eq_true p449
              replace q449 := eq_true q449
              refine start_ (n := 36) (S := fun w' => w'.cell? ⟨gb448, 0, none⟩ = some (.int .i64 ((rd_T124 l1_1 x15_1).f0)) ∧ w'.cell? ⟨gb448, 1, none⟩ = some (.slice A447_1 ((rd_T124 l1_1 x15_1).f1).length c447_1) ∧ w'.cell? ⟨gb444, 0, none⟩ = some (.int .i64 a0_0) ∧ w'.cell? ⟨gb444, 1, none⟩ = some (.int .i64 a0_1) ∧ w'.cell? ⟨gb444, 2, none⟩ = some (.slice A0_2 l0_2.length c0_2) ∧ w'.cell? ⟨gb444, 3, none⟩ = some (.slice A0_3 l0_3.length c0_3) ∧ w'.cell? ⟨gb445, 0, none⟩ = some (.slice A1_0 l1_0.length c1_0) ∧ w'.cell? ⟨gb445, 1, none⟩ = some (.slice (some ad447) l1_1.length c1_1) ∧ w'.cell? (ad447.add (((ji30)).toNat * 2)) = some (.int .i64 ((rd_T124 l1_1 (ji30)).f0)) ∧ w'.cell? ⟨(ad447.add (((ji30)).toNat * 2)).block, (ad447.add (((ji30)).toNat * 2)).off + 1, none⟩ = some (.slice A449_1 ((rd_T124 l1_1 (ji30)).f1).length c449_1)) (ds := []) (Sh.nm 36 0) (by kernel_rfl) rfl rfl Sh.cs (fun hHeld => ?_); refine with_tabW impl_Program_isCommand.tab6 impl_Program_isCommand.bits6 (fun HT_ HW_ => ?_)
              generalize w46.drew = w47 at BK444 BK445 BK448 HB HR449_1 hx449_0 hx449_1 hHeld ⊢
              refine Sh.qA 0 ?_; refine Sh.qT 1 hHeld ?_; refine Sh.qA 2 ?_; refine Sh.qA 3 ?_; refine Sh.qA 4 ?_; refine Sh.qA 6 ?_; refine Sh.qT 5 hHeld ?_; refine Sh.qT 7 hHeld ?_; refine Sh.qA 8 ?_; refine Sh.qA 9 ?_; refine Sh.qA 10 ?_; refine Sh.qA 11 ?_; refine Sh.qA 12 ?_; refine Sh.qA 13 ?_; refine Sh.qA 14 ?_; refine Sh.qA 16 ?_; refine Sh.qA 17 ?_; refine Sh.qA 21 ?_; refine Sh.qT 15 hHeld ?_; refine Sh.qA 18 ?_; refine Sh.qA 19 ?_; refine Sh.qT 20 hHeld ?_; refine Sh.qT 22 hHeld ?_; refine Sh.qA 23 ?_; refine Sh.qA 24 ?_; refine Sh.qA 25 ?_; refine Sh.qA 26 ?_; refine Sh.qA 27 ?_; refine Sh.qA 29 ?_; refine Sh.qA 31 ?_; refine Sh.qT 28 hHeld ?_; refine Sh.qT 30 hHeld ?_; refine Sh.qT 32 hHeld ?_
              refine Sh.oC 33 Tryz.func103 #[.int .i64 a0_0, .int .i64 a0_1, .slice A447_1 ((rd_T124 l1_1 x15_1).f1).length c447_1, .int .i64 1] fun K hK => ?_
              with_reducible refine (impl_isTermOf.calls k1 a0_0 a0_1 _ _ ((rd_T124 l1_1 x15_1).f1) 1 true _ (Sh.cB HR447_1.out) HC447_1.out A40.out).mono ?_
              rintro e w48 ⟨rfl, hb⟩
              refine ⟨_, rfl, ?_⟩
              replace BK444 := Sh.ab BK444 hb
              replace BK445 := Sh.ab BK445 hb
              replace BK448 := Sh.ab BK448 hb
              replace HB := Sh.hb hb
              (try clear hb)
              refine Sh.kN hK Sh.cs fun hHeld => ?_
              clear hK K
              refine Sh.qA 34 ?_; refine Sh.qA 35 ?_
              refine done_ (done_of HT_.out (by kernel_rfl)) ?_
              try go_wp2
              go_roundg k1
              case measure => have := HK1.out; omega
              case rel => exact ⟨(wrap64 (x15_1 + 1)), (Sh.es), H', ⟨by have := HK1.out; omega⟩, ⟨by refine Sh.pl ?_; exact BK444.out⟩, ⟨by refine Sh.pl ?_; exact BK445.out⟩, ⟨Sh.bw⟩⟩
             ·replace c41 := Bool.eq_false_iff.mpr c41
              subst c41
              rw [Sh.nf] at H
              obtain rfl := Option.some.inj H
              have p447 : 0 ≤ (x15_1 : Int) := Sh.od
              have q447 : x15_1 < (l1_1.length : Int) := Sh.od
              obtain ⟨ad447, A447_1, c447_1, e447, hx447_0, hx447_1, hl447_1, hi447_1⟩ := at_T124 HR1_1.out x15_1 p447 q447
              cases e447
              try replace hx447_0 := Sh.cw hx447_0
              try replace hx447_1 := Sh.cw hx447_1
              have HR447_1 := am_ hi447_1
              have HC447_1 := am_ hl447_1
              clear hi447_1 hl447_1
              replace p447 := eq_true p447
              replace q447 := eq_true q447
              try go_wp2_with (first | ((with_reducible refine Sh.d 6 ?_); refine Sh.bx (N := 6) (cs := #[.int .i64 0, .slice none 0 0]) (t := 124) (h := ?_); intro gb448 hg w49 hbox hb; have BK448 := am_ hbox; have GE448 := Sh.ag w hg; replace HB := Sh.hb hb; have NB444_448 := am_ (Sh.nl hg BK444.out); have NB448_444 := am_ (Sh.ng hg BK444.out); replace BK444 := Sh.ab BK444 hb; have NB445_448 := am_ (Sh.nl hg BK445.out); have NB448_445 := am_ (Sh.ng hg BK445.out); replace BK445 := Sh.ab BK445 hb; clear hb hbox hg; have hnb50 := NB448_444.out; have hnc50 := NB444_448.out; have hnb51 := NB448_445.out; have hnc51 := NB445_448.out; obtain ⟨hcz52_0, hcz52_1, hfz52_0, hfz52_1⟩ := Sh.b2 BK448.out))
              have n0_ : Aside0 (((w49.setCell ⟨gb448, 0, none⟩ (.int .i64 ((rd_T124 l1_1 x15_1).f0))).setCell ⟨gb448, 1, none⟩ (.slice A447_1 ((rd_T124 l1_1 x15_1).f1).length c447_1)).heap[gb444]? = some (.cells #[.int .i64 a0_0, .int .i64 a0_1, .slice A0_2 l0_2.length c0_2, .slice A0_3 l0_3.length c0_3] 33 (0, 0))) := ⟨by refine Sh.pl ?_; refine blk_far ?_ NB444_448.out _; refine Sh.pl ?_; refine blk_far ?_ NB444_448.out _; refine Sh.pl ?_; exact BK444.out⟩
              have n1_ : Aside0 (((w49.setCell ⟨gb448, 0, none⟩ (.int .i64 ((rd_T124 l1_1 x15_1).f0))).setCell ⟨gb448, 1, none⟩ (.slice A447_1 ((rd_T124 l1_1 x15_1).f1).length c447_1)).heap[gb445]? = some (.cells #[.slice A1_0 l1_0.length c1_0, .slice (some ad447) l1_1.length c1_1] 95 (0, 0))) := ⟨by refine Sh.pl ?_; refine blk_far ?_ NB445_448.out _; refine Sh.pl ?_; refine blk_far ?_ NB445_448.out _; refine Sh.pl ?_; exact BK445.out⟩
              have n2_ : Aside0 (((w49.setCell ⟨gb448, 0, none⟩ (.int .i64 ((rd_T124 l1_1 x15_1).f0))).setCell ⟨gb448, 1, none⟩ (.slice A447_1 ((rd_T124 l1_1 x15_1).f1).length c447_1)).heap[gb448]? = some (.cells #[.int .i64 ((rd_T124 l1_1 x15_1).f0), .slice A447_1 ((rd_T124 l1_1 x15_1).f1).length c447_1] 124 (0, 0))) := ⟨by refine Sh.pl ?_; refine blk_put (cs := #[.int .i64 ((rd_T124 l1_1 x15_1).f0), .slice none 0 0]) ?_ 1 _ rfl; refine Sh.pl ?_; refine blk_put (cs := #[.int .i64 0, .slice none 0 0]) ?_ 0 _ rfl; refine Sh.pl ?_; exact BK448.out⟩
              have n3_ : Aside0 (Below w.heap.size w ((w49.setCell ⟨gb448, 0, none⟩ (.int .i64 ((rd_T124 l1_1 x15_1).f0))).setCell ⟨gb448, 1, none⟩ (.slice A447_1 ((rd_T124 l1_1 x15_1).f1).length c447_1))) := ⟨Sh.bw⟩
              (try clear BK444)
              (try clear BK445)
              (try clear BK448)
              (try clear HB)
              generalize ((w49.setCell ⟨gb448, 0, none⟩ (.int .i64 ((rd_T124 l1_1 x15_1).f0))).setCell ⟨gb448, 1, none⟩ (.slice A447_1 ((rd_T124 l1_1 x15_1).f1).length c447_1)) = w53 at n0_ n1_ n2_ n3_ ⊢
              have BK444 := n0_
              have BK445 := n1_
              have BK448 := n2_
              have HB := n3_
              clear n0_ n1_ n2_ n3_
              replace BK444 := am_ (blk_drew BK444.out)
              replace BK445 := am_ (blk_drew BK445.out)
              replace BK448 := am_ (blk_drew BK448.out)
              replace HB := am_ (below_drew1 HB.out)
              have p449 : 0 ≤ ((ji30) : Int) := Sh.od
              have q449 : (ji30) < (l1_1.length : Int) := Sh.od
              obtain ⟨ad449, A449_1, c449_1, e449, hx449_0, hx449_1, hl449_1, hi449_1⟩ := at_T124 HR1_1.out (ji30) p449 q449
              have hw449_1 := hx449_1
              have hw449_0 := hx449_0
              obtain rfl : ad447 = ad449 := (by injection e449)
              try replace hx449_0 := Sh.cw hx449_0
              try replace hx449_1 := Sh.cw hx449_1
              have HR449_1 := am_ hi449_1
              have HC449_1 := am_ hl449_1
              clear hi449_1 hl449_1
              replace p449 := eq_true p449
              replace q449 := eq_true q449
              refine start_ (n := 36) (S := fun w' => w'.cell? ⟨gb448, 0, none⟩ = some (.int .i64 ((rd_T124 l1_1 x15_1).f0)) ∧ w'.cell? ⟨gb448, 1, none⟩ = some (.slice A447_1 ((rd_T124 l1_1 x15_1).f1).length c447_1) ∧ w'.cell? ⟨gb444, 0, none⟩ = some (.int .i64 a0_0) ∧ w'.cell? ⟨gb444, 1, none⟩ = some (.int .i64 a0_1) ∧ w'.cell? ⟨gb444, 2, none⟩ = some (.slice A0_2 l0_2.length c0_2) ∧ w'.cell? ⟨gb444, 3, none⟩ = some (.slice A0_3 l0_3.length c0_3) ∧ w'.cell? ⟨gb445, 0, none⟩ = some (.slice A1_0 l1_0.length c1_0) ∧ w'.cell? ⟨gb445, 1, none⟩ = some (.slice (some ad447) l1_1.length c1_1) ∧ w'.cell? (ad447.add (((ji30)).toNat * 2)) = some (.int .i64 ((rd_T124 l1_1 (ji30)).f0)) ∧ w'.cell? ⟨(ad447.add (((ji30)).toNat * 2)).block, (ad447.add (((ji30)).toNat * 2)).off + 1, none⟩ = some (.slice A449_1 ((rd_T124 l1_1 (ji30)).f1).length c449_1)) (ds := []) (Sh.nm 36 0) (by kernel_rfl) rfl rfl Sh.cs (fun hHeld => ?_); refine with_tabW impl_Program_isCommand.tab6 impl_Program_isCommand.bits6 (fun HT_ HW_ => ?_)
              generalize w53.drew = w54 at BK444 BK445 BK448 HB HR449_1 hx449_0 hx449_1 hHeld ⊢
              refine Sh.qA 0 ?_; refine Sh.qT 1 hHeld ?_; refine Sh.qA 2 ?_; refine Sh.qA 3 ?_; refine Sh.qA 4 ?_; refine Sh.qA 6 ?_; refine Sh.qT 5 hHeld ?_; refine Sh.qT 7 hHeld ?_; refine Sh.qA 8 ?_; refine Sh.qA 9 ?_; refine Sh.qA 10 ?_; refine Sh.qA 11 ?_; refine Sh.qA 12 ?_; refine Sh.qA 13 ?_; refine Sh.qA 14 ?_; refine Sh.qA 16 ?_; refine Sh.qA 17 ?_; refine Sh.qA 21 ?_; refine Sh.qT 15 hHeld ?_; refine Sh.qA 18 ?_; refine Sh.qA 19 ?_; refine Sh.qT 20 hHeld ?_; refine Sh.qT 22 hHeld ?_; refine Sh.qA 23 ?_; refine Sh.qA 24 ?_; refine Sh.qA 25 ?_; refine Sh.qA 26 ?_; refine Sh.qA 27 ?_; refine Sh.qA 29 ?_; refine Sh.qA 31 ?_; refine Sh.qT 28 hHeld ?_; refine Sh.qT 30 hHeld ?_; refine Sh.qT 32 hHeld ?_
              refine Sh.oC 33 Tryz.func103 #[.int .i64 a0_0, .int .i64 a0_1, .slice A447_1 ((rd_T124 l1_1 x15_1).f1).length c447_1, .int .i64 1] fun K hK => ?_
              with_reducible refine (impl_isTermOf.calls k1 a0_0 a0_1 _ _ ((rd_T124 l1_1 x15_1).f1) 1 false _ (Sh.cB HR447_1.out) HC447_1.out A40.out).mono ?_
              rintro e w55 ⟨rfl, hb⟩
              refine ⟨_, rfl, ?_⟩
              replace BK444 := Sh.ab BK444 hb
              replace BK445 := Sh.ab BK445 hb
              replace BK448 := Sh.ab BK448 hb
              replace HB := Sh.hb hb
              (try clear hb)
              refine Sh.kN hK Sh.cs fun hHeld => ?_
              clear hK K
              refine Sh.qA 34 ?_; refine Sh.qA 35 ?_
              refine done_ (done_of HT_.out (by kernel_rfl)) ?_
              try go_wp2
              go_ret
              exact ⟨by first | rfl | (simp [errW_none, errW_some] <;> rfl) | (simp only [← hj1]; first | rfl | (simp [errW_none, errW_some] <;> rfl)) | (simp [*, errW_none, errW_some] <;> rfl), Sh.bw⟩
           ·rw [if_neg c32] at H
            cases H
          ·rw [if_neg c31] at H
           cases H
         ·rw [if_neg c29] at H
          have c29b0 : decide (0 < x15_1) = false := decide_eq_false c29
          clear c29
          obtain ⟨t451, A56, H⟩ := Sh.ba H
          by_cases c57 : t451 = true
          ·subst c57
           rw [if_pos rfl] at H
           have H' := am_ H
           clear H
           have p447 : 0 ≤ (x15_1 : Int) := Sh.od
           have q447 : x15_1 < (l1_1.length : Int) := Sh.od
           obtain ⟨ad447, A447_1, c447_1, e447, hx447_0, hx447_1, hl447_1, hi447_1⟩ := at_T124 HR1_1.out x15_1 p447 q447
           cases e447
           try replace hx447_0 := Sh.cw hx447_0
           try replace hx447_1 := Sh.cw hx447_1
           have HR447_1 := am_ hi447_1
           have HC447_1 := am_ hl447_1
           clear hi447_1 hl447_1
           replace p447 := eq_true p447
           replace q447 := eq_true q447
           try go_wp2_with (first | ((with_reducible refine Sh.d 6 ?_); refine Sh.bx (N := 6) (cs := #[.int .i64 0, .slice none 0 0]) (t := 124) (h := ?_); intro gb448 hg w58 hbox hb; have BK448 := am_ hbox; have GE448 := Sh.ag w hg; replace HB := Sh.hb hb; have NB444_448 := am_ (Sh.nl hg BK444.out); have NB448_444 := am_ (Sh.ng hg BK444.out); replace BK444 := Sh.ab BK444 hb; have NB445_448 := am_ (Sh.nl hg BK445.out); have NB448_445 := am_ (Sh.ng hg BK445.out); replace BK445 := Sh.ab BK445 hb; clear hb hbox hg; have hnb59 := NB448_444.out; have hnc59 := NB444_448.out; have hnb60 := NB448_445.out; have hnc60 := NB445_448.out; obtain ⟨hcz61_0, hcz61_1, hfz61_0, hfz61_1⟩ := Sh.b2 BK448.out))
           have n0_ : Aside0 (((w58.setCell ⟨gb448, 0, none⟩ (.int .i64 ((rd_T124 l1_1 x15_1).f0))).setCell ⟨gb448, 1, none⟩ (.slice A447_1 ((rd_T124 l1_1 x15_1).f1).length c447_1)).heap[gb444]? = some (.cells #[.int .i64 a0_0, .int .i64 a0_1, .slice A0_2 l0_2.length c0_2, .slice A0_3 l0_3.length c0_3] 33 (0, 0))) := ⟨by refine Sh.pl ?_; refine blk_far ?_ NB444_448.out _; refine Sh.pl ?_; refine blk_far ?_ NB444_448.out _; refine Sh.pl ?_; exact BK444.out⟩
           have n1_ : Aside0 (((w58.setCell ⟨gb448, 0, none⟩ (.int .i64 ((rd_T124 l1_1 x15_1).f0))).setCell ⟨gb448, 1, none⟩ (.slice A447_1 ((rd_T124 l1_1 x15_1).f1).length c447_1)).heap[gb445]? = some (.cells #[.slice A1_0 l1_0.length c1_0, .slice (some ad447) l1_1.length c1_1] 95 (0, 0))) := ⟨by refine Sh.pl ?_; refine blk_far ?_ NB445_448.out _; refine Sh.pl ?_; refine blk_far ?_ NB445_448.out _; refine Sh.pl ?_; exact BK445.out⟩
           have n2_ : Aside0 (((w58.setCell ⟨gb448, 0, none⟩ (.int .i64 ((rd_T124 l1_1 x15_1).f0))).setCell ⟨gb448, 1, none⟩ (.slice A447_1 ((rd_T124 l1_1 x15_1).f1).length c447_1)).heap[gb448]? = some (.cells #[.int .i64 ((rd_T124 l1_1 x15_1).f0), .slice A447_1 ((rd_T124 l1_1 x15_1).f1).length c447_1] 124 (0, 0))) := ⟨by refine Sh.pl ?_; refine blk_put (cs := #[.int .i64 ((rd_T124 l1_1 x15_1).f0), .slice none 0 0]) ?_ 1 _ rfl; refine Sh.pl ?_; refine blk_put (cs := #[.int .i64 0, .slice none 0 0]) ?_ 0 _ rfl; refine Sh.pl ?_; exact BK448.out⟩
           have n3_ : Aside0 (Below w.heap.size w ((w58.setCell ⟨gb448, 0, none⟩ (.int .i64 ((rd_T124 l1_1 x15_1).f0))).setCell ⟨gb448, 1, none⟩ (.slice A447_1 ((rd_T124 l1_1 x15_1).f1).length c447_1))) := ⟨Sh.bw⟩
           (try clear BK444)
           (try clear BK445)
           (try clear BK448)
           (try clear HB)
           generalize ((w58.setCell ⟨gb448, 0, none⟩ (.int .i64 ((rd_T124 l1_1 x15_1).f0))).setCell ⟨gb448, 1, none⟩ (.slice A447_1 ((rd_T124 l1_1 x15_1).f1).length c447_1)) = w62 at n0_ n1_ n2_ n3_ ⊢
           have BK444 := n0_
           have BK445 := n1_
           have BK448 := n2_
           have HB := n3_
           clear n0_ n1_ n2_ n3_
           replace BK444 := am_ (blk_drew BK444.out)
           replace BK445 := am_ (blk_drew BK445.out)
           replace BK448 := am_ (blk_drew BK448.out)
           replace HB := am_ (below_drew1 HB.out)
           refine start_ (n := 36) (S := fun w' => w'.cell? ⟨gb448, 0, none⟩ = some (.int .i64 ((rd_T124 l1_1 x15_1).f0)) ∧ w'.cell? ⟨gb448, 1, none⟩ = some (.slice A447_1 ((rd_T124 l1_1 x15_1).f1).length c447_1) ∧ w'.cell? ⟨gb444, 0, none⟩ = some (.int .i64 a0_0) ∧ w'.cell? ⟨gb444, 1, none⟩ = some (.int .i64 a0_1) ∧ w'.cell? ⟨gb444, 2, none⟩ = some (.slice A0_2 l0_2.length c0_2) ∧ w'.cell? ⟨gb444, 3, none⟩ = some (.slice A0_3 l0_3.length c0_3)) (ds := []) (Sh.nm 36 0) (by kernel_rfl) rfl rfl Sh.cs (fun hHeld => ?_); refine with_tabW impl_Program_isCommand.tab6 impl_Program_isCommand.bits6 (fun HT_ HW_ => ?_)
           generalize w62.drew = w63 at BK444 BK445 BK448 HB hHeld ⊢
           refine Sh.qA 0 ?_; refine Sh.qT 1 hHeld ?_; refine Sh.qA 2 ?_; refine Sh.qA 3 ?_; refine Sh.qA 4 ?_; refine Sh.qA 6 ?_; refine Sh.qT 5 hHeld ?_; refine Sh.qT 7 hHeld ?_; refine Sh.qA 8 ?_; refine Sh.qA 9 ?_; refine Sh.qA 10 ?_; refine Sh.qA 11 ?_; refine Sh.qA 12 ?_; refine Sh.qA 13 ?_; refine Sh.qU 14 ?_; refine Sh.qU 15 ?_; refine Sh.qU 16 ?_; refine Sh.qU 17 ?_; refine Sh.qU 18 ?_; refine Sh.qU 19 ?_; refine Sh.qU 20 ?_; refine Sh.qU 21 ?_; refine Sh.qU 22 ?_; refine Sh.qU 23 ?_; refine Sh.qA 24 ?_; refine Sh.qA 25 ?_; refine Sh.qA 26 ?_; refine Sh.qA 27 ?_; refine Sh.qA 29 ?_; refine Sh.qA 31 ?_; refine Sh.qT 28 hHeld ?_; refine Sh.qT 30 hHeld ?_; refine Sh.qT 32 hHeld ?_
           refine Sh.oC 33 Tryz.func103 #[.int .i64 a0_0, .int .i64 a0_1, .slice A447_1 ((rd_T124 l1_1 x15_1).f1).length c447_1, .int .i64 1] fun K hK => ?_
           with_reducible refine (impl_isTermOf.calls k1 a0_0 a0_1 _ _ ((rd_T124 l1_1 x15_1).f1) 1 true _ (Sh.cB HR447_1.out) HC447_1.out A56.out).mono ?_
           rintro e w64 ⟨rfl, hb⟩
           refine ⟨_, rfl, ?_⟩
           replace BK444 := Sh.ab BK444 hb
           replace BK445 := Sh.ab BK445 hb
           replace BK448 := Sh.ab BK448 hb
           replace HB := Sh.hb hb
           (try clear hb)
           refine Sh.kN hK Sh.cs fun hHeld => ?_
           clear hK K
           refine Sh.qA 34 ?_; refine Sh.qA 35 ?_
           refine done_ (done_of HT_.out (by kernel_rfl)) ?_
           try go_wp2
           go_roundg k1
           case measure => have := HK1.out; omega
           case rel => exact ⟨(wrap64 (x15_1 + 1)), (Sh.es), H', ⟨by have := HK1.out; omega⟩, ⟨by refine Sh.pl ?_; exact BK444.out⟩, ⟨by refine Sh.pl ?_; exact BK445.out⟩, ⟨Sh.bw⟩⟩
          ·replace c57 := Bool.eq_false_iff.mpr c57
           subst c57
           rw [Sh.nf] at H
           obtain rfl := Option.some.inj H
           have p447 : 0 ≤ (x15_1 : Int) := Sh.od
           have q447 : x15_1 < (l1_1.length : Int) := Sh.od
           obtain ⟨ad447, A447_1, c447_1, e447, hx447_0, hx447_1, hl447_1, hi447_1⟩ := at_T124 HR1_1.out x15_1 p447 q447
           cases e447
           try replace hx447_0 := Sh.cw hx447_0
           try replace hx447_1 := Sh.cw hx447_1
           have HR447_1 := am_ hi447_1
           have HC447_1 := am_ hl447_1
           clear hi447_1 hl447_1
           replace p447 := eq_true p447
           replace q447 := eq_true q447
           try go_wp2_with (first | ((with_reducible refine Sh.d 6 ?_); refine Sh.bx (N := 6) (cs := #[.int .i64 0, .slice none 0 0]) (t := 124) (h := ?_); intro gb448 hg w65 hbox hb; have BK448 := am_ hbox; have GE448 := Sh.ag w hg; replace HB := Sh.hb hb; have NB444_448 := am_ (Sh.nl hg BK444.out); have NB448_444 := am_ (Sh.ng hg BK444.out); replace BK444 := Sh.ab BK444 hb; have NB445_448 := am_ (Sh.nl hg BK445.out); have NB448_445 := am_ (Sh.ng hg BK445.out); replace BK445 := Sh.ab BK445 hb; clear hb hbox hg; have hnb66 := NB448_444.out; have hnc66 := NB444_448.out; have hnb67 := NB448_445.out; have hnc67 := NB445_448.out; obtain ⟨hcz68_0, hcz68_1, hfz68_0, hfz68_1⟩ := Sh.b2 BK448.out))
           have n0_ : Aside0 (((w65.setCell ⟨gb448, 0, none⟩ (.int .i64 ((rd_T124 l1_1 x15_1).f0))).setCell ⟨gb448, 1, none⟩ (.slice A447_1 ((rd_T124 l1_1 x15_1).f1).length c447_1)).heap[gb444]? = some (.cells #[.int .i64 a0_0, .int .i64 a0_1, .slice A0_2 l0_2.length c0_2, .slice A0_3 l0_3.length c0_3] 33 (0, 0))) := ⟨by refine Sh.pl ?_; refine blk_far ?_ NB444_448.out _; refine Sh.pl ?_; refine blk_far ?_ NB444_448.out _; refine Sh.pl ?_; exact BK444.out⟩
           have n1_ : Aside0 (((w65.setCell ⟨gb448, 0, none⟩ (.int .i64 ((rd_T124 l1_1 x15_1).f0))).setCell ⟨gb448, 1, none⟩ (.slice A447_1 ((rd_T124 l1_1 x15_1).f1).length c447_1)).heap[gb445]? = some (.cells #[.slice A1_0 l1_0.length c1_0, .slice (some ad447) l1_1.length c1_1] 95 (0, 0))) := ⟨by refine Sh.pl ?_; refine blk_far ?_ NB445_448.out _; refine Sh.pl ?_; refine blk_far ?_ NB445_448.out _; refine Sh.pl ?_; exact BK445.out⟩
           have n2_ : Aside0 (((w65.setCell ⟨gb448, 0, none⟩ (.int .i64 ((rd_T124 l1_1 x15_1).f0))).setCell ⟨gb448, 1, none⟩ (.slice A447_1 ((rd_T124 l1_1 x15_1).f1).length c447_1)).heap[gb448]? = some (.cells #[.int .i64 ((rd_T124 l1_1 x15_1).f0), .slice A447_1 ((rd_T124 l1_1 x15_1).f1).length c447_1] 124 (0, 0))) := ⟨by refine Sh.pl ?_; refine blk_put (cs := #[.int .i64 ((rd_T124 l1_1 x15_1).f0), .slice none 0 0]) ?_ 1 _ rfl; refine Sh.pl ?_; refine blk_put (cs := #[.int .i64 0, .slice none 0 0]) ?_ 0 _ rfl; refine Sh.pl ?_; exact BK448.out⟩
           have n3_ : Aside0 (Below w.heap.size w ((w65.setCell ⟨gb448, 0, none⟩ (.int .i64 ((rd_T124 l1_1 x15_1).f0))).setCell ⟨gb448, 1, none⟩ (.slice A447_1 ((rd_T124 l1_1 x15_1).f1).length c447_1))) := ⟨Sh.bw⟩
           (try clear BK444)
           (try clear BK445)
           (try clear BK448)
           (try clear HB)
           generalize ((w65.setCell ⟨gb448, 0, none⟩ (.int .i64 ((rd_T124 l1_1 x15_1).f0))).setCell ⟨gb448, 1, none⟩ (.slice A447_1 ((rd_T124 l1_1 x15_1).f1).length c447_1)) = w69 at n0_ n1_ n2_ n3_ ⊢
           have BK444 := n0_
           have BK445 := n1_
           have BK448 := n2_
           have HB := n3_
           clear n0_ n1_ n2_ n3_
           replace BK444 := am_ (blk_drew BK444.out)
           replace BK445 := am_ (blk_drew BK445.out)
           replace BK448 := am_ (blk_drew BK448.out)
           replace HB := am_ (below_drew1 HB.out)
           refine start_ (n := 36) (S := fun w' => w'.cell? ⟨gb448, 0, none⟩ = some (.int .i64 ((rd_T124 l1_1 x15_1).f0)) ∧ w'.cell? ⟨gb448, 1, none⟩ = some (.slice A447_1 ((rd_T124 l1_1 x15_1).f1).length c447_1) ∧ w'.cell? ⟨gb444, 0, none⟩ = some (.int .i64 a0_0) ∧ w'.cell? ⟨gb444, 1, none⟩ = some (.int .i64 a0_1) ∧ w'.cell? ⟨gb444, 2, none⟩ = some (.slice A0_2 l0_2.length c0_2) ∧ w'.cell? ⟨gb444, 3, none⟩ = some (.slice A0_3 l0_3.length c0_3)) (ds := []) (Sh.nm 36 0) (by kernel_rfl) rfl rfl Sh.cs (fun hHeld => ?_); refine with_tabW impl_Program_isCommand.tab6 impl_Program_isCommand.bits6 (fun HT_ HW_ => ?_)
           generalize w69.drew = w70 at BK444 BK445 BK448 HB hHeld ⊢
           refine Sh.qA 0 ?_; refine Sh.qT 1 hHeld ?_; refine Sh.qA 2 ?_; refine Sh.qA 3 ?_; refine Sh.qA 4 ?_; refine Sh.qA 6 ?_; refine Sh.qT 5 hHeld ?_; refine Sh.qT 7 hHeld ?_; refine Sh.qA 8 ?_; refine Sh.qA 9 ?_; refine Sh.qA 10 ?_; refine Sh.qA 11 ?_; refine Sh.qA 12 ?_; refine Sh.qA 13 ?_; refine Sh.qU 14 ?_; refine Sh.qU 15 ?_; refine Sh.qU 16 ?_; refine Sh.qU 17 ?_; refine Sh.qU 18 ?_; refine Sh.qU 19 ?_; refine Sh.qU 20 ?_; refine Sh.qU 21 ?_; refine Sh.qU 22 ?_; refine Sh.qU 23 ?_; refine Sh.qA 24 ?_; refine Sh.qA 25 ?_; refine Sh.qA 26 ?_; refine Sh.qA 27 ?_; refine Sh.qA 29 ?_; refine Sh.qA 31 ?_; refine Sh.qT 28 hHeld ?_; refine Sh.qT 30 hHeld ?_; refine Sh.qT 32 hHeld ?_
           refine Sh.oC 33 Tryz.func103 #[.int .i64 a0_0, .int .i64 a0_1, .slice A447_1 ((rd_T124 l1_1 x15_1).f1).length c447_1, .int .i64 1] fun K hK => ?_
           with_reducible refine (impl_isTermOf.calls k1 a0_0 a0_1 _ _ ((rd_T124 l1_1 x15_1).f1) 1 false _ (Sh.cB HR447_1.out) HC447_1.out A56.out).mono ?_
           rintro e w71 ⟨rfl, hb⟩
           refine ⟨_, rfl, ?_⟩
           replace BK444 := Sh.ab BK444 hb
           replace BK445 := Sh.ab BK445 hb
           replace BK448 := Sh.ab BK448 hb
           replace HB := Sh.hb hb
           (try clear hb)
           refine Sh.kN hK Sh.cs fun hHeld => ?_
           clear hK K
           refine Sh.qA 34 ?_; refine Sh.qA 35 ?_
           refine done_ (done_of HT_.out (by kernel_rfl)) ?_
           try go_wp2
           go_ret
           exact ⟨Sh.eR, Sh.bw⟩
      ·rw [if_neg c14] at H
       cases H
     ·rw [if_neg c13] at H
      cases H
    ·rw [if_neg c12] at H
     replace c12 := decide_eq_false c12
     obtain rfl := Option.some.inj H
     go_wp2
     go_ret
     exact ⟨Sh.eR, Sh.bw⟩
 ·replace c4 := Bool.eq_false_iff.mpr c4
  subst c4
  rw [Sh.nf] at H
  obtain rfl := Option.some.inj H
  go_enter Tryz.func127, Tryz.ntmps127
  go_wp2_with (first | ((with_reducible refine Sh.d 2 ?_); refine Sh.bz w (N := 2) (cs := #[.int .i64 a0_0, .int .i64 a0_1, .slice A0_2 l0_2.length c0_2, .slice A0_3 l0_3.length c0_3]) (t := 33) (h := ?_); clear HB; intro gb444 w72 BK444 GE444 HB) | ((with_reducible refine Sh.d 3 ?_); refine Sh.bx (N := 3) (cs := #[.slice A1_0 l1_0.length c1_0, .slice A1_1 l1_1.length c1_1]) (t := 95) (h := ?_); intro gb445 hg w73 hbox hb; have BK445 := am_ hbox; have GE445 := Sh.ag w hg; replace HB := Sh.hb hb; have NB444_445 := am_ (Sh.nl hg BK444.out); have NB445_444 := am_ (Sh.ng hg BK444.out); replace BK444 := Sh.ab BK444 hb; clear hb hbox hg; have hnb74 := NB444_445.out; have hnc74 := NB445_444.out; obtain ⟨hcz75_0, hcz75_1, hcz75_2, hcz75_3, hfz75_0, hfz75_1, hfz75_2, hfz75_3⟩ := Sh.b4 BK444.out; obtain ⟨hcz76_0, hcz76_1, hfz76_0, hfz76_1⟩ := Sh.b2 BK445.out) | ((with_reducible refine Sh.k 64 ?_); refine Sh.gB (some 10) Tryz.func64 #[.agg #[.int .i64 a0_0, .int .i64 a0_1, .slice A0_2 l0_2.length c0_2, .slice A0_3 l0_3.length c0_3], .slice A1_0 l1_0.length c1_0] (impl_Program_isCondition.calls k a0_0 a0_1 _ _ l0_2 _ _ l0_3 _ _ l1_0 false _ (Sh.cB HR0_2.out) HC0_2.out (Sh.cB HR0_3.out) HC0_3.out (Sh.cB HR1_0.out) HC1_0.out A3.out) fun w77 hb => ?_; replace BK444 := Sh.ab BK444 hb; replace BK445 := Sh.ab BK445 hb; replace HB := Sh.hb hb; (try clear hb)))
  go_ret
  exact ⟨Sh.eR, Sh.bw⟩
def impl_GoodProgram_1.f (k : Nat) (l0_0 : List (S79)) (l0_1 : List (S124)) (a1_0 : Int) (a1_1 : Int) (l1_2 : List (S79)) (l1_3 : List (S95)) : Option (Bool) := (impl_Program_isCommand.f k a1_0 a1_1 l1_2 l1_3 l0_0 l0_1).bind fun t453 => (some (!t453))
theorem impl_GoodProgram_1.mono : ∀ a0 a1 a2 a3 a4 a5 k, LeO (impl_GoodProgram_1.f k a0 a1 a2 a3 a4 a5) (impl_GoodProgram_1.f (k + 1) a0 a1 a2 a3 a4 a5) := by
 intro a0 a1 a2 a3 a4 a5 k
 unfold impl_GoodProgram_1.f
 repeat' with_reducible first | apply impl_Program_isCommand.mono | exact LeO.refl _ | exact LeO.none _ | apply LeO.ite | refine LeO.bind ?_ fun _ => ?_
theorem impl_GoodProgram_1.calls (k : Nat) (A0_0 : Option Addr) (c0_0 : Nat) (l0_0 : List (S79)) (A0_1 : Option Addr) (c0_1 : Nat) (l0_1 : List (S124)) (bp1 : Nat) (a1_0 : Int) (a1_1 : Int) (A1_2 : Option Addr) (c1_2 : Nat) (l1_2 : List (S79)) (A1_3 : Option Addr) (c1_3 : Nat) (l1_3 : List (S95)) (r : Bool) (w : World) (hr0_0 : Kd.C k79 w A0_0 l0_0.length l0_0) (hc0_0 : l0_0.length ≤ c0_0) (hr0_1 : Kd.C k124 w A0_1 l0_1.length l0_1) (hc0_1 : l0_1.length ≤ c0_1) (hr1_2 : Kd.C k79 w A1_2 l1_2.length l1_2) (hc1_2 : l1_2.length ≤ c1_2) (hr1_3 : Kd.C k95 w A1_3 l1_3.length l1_3) (hc1_3 : l1_3.length ≤ c1_3) (hb1 : w.heap[bp1]? = some (.cells #[.int .i64 a1_0, .int .i64 a1_1, .slice A1_2 l1_2.length c1_2, .slice A1_3 l1_3.length c1_3] 33 (0, 0))) (h : impl_GoodProgram_1.f k l0_0 l0_1 a1_0 a1_1 l1_2 l1_3 = some r) :
  Calls Tryz.prog 126 #[.agg #[.slice A0_0 l0_0.length c0_0, .slice A0_1 l0_1.length c0_1], .pointer (some ⟨bp1, 0, none⟩)] w fun e w' => e = .returned (.bool r) ∧ Below w.heap.size w w' := by
 have hu95 := Tryz.underlying95
 have hu33 := Tryz.underlying33
 have HR0_0 := am_ hr0_0
 have HC0_0 := am_ hc0_0
 clear hr0_0 hc0_0
 have HR0_1 := am_ hr0_1
 have HC0_1 := am_ hc0_1
 clear hr0_1 hc0_1
 have HR1_2 := am_ hr1_2
 have HC1_2 := am_ hc1_2
 clear hr1_2 hc1_2
 have HR1_3 := am_ hr1_3
 have HC1_3 := am_ hc1_3
 clear hr1_3 hc1_3
 have HX1 := am_ hb1
 clear hb1
 have HB := am_ (Below.refl w.heap.size w)
 have H := h
 clear h
 unfold impl_GoodProgram_1.f at H
 obtain ⟨t453, A3, H⟩ := Sh.ba H
 obtain rfl := Option.some.inj H
 go_enter Tryz.func126, Tryz.ntmps126
 go_wp2_with (first | ((with_reducible refine Sh.d 2 ?_); refine Sh.bx (N := 2) (cs := #[.slice A0_0 l0_0.length c0_0, .slice A0_1 l0_1.length c0_1]) (t := 95) (h := ?_); intro gb452 hg w4 hbox hb; have BK452 := am_ hbox; have GE452 := Sh.ag w hg; replace HB := Sh.hb hb; have NB1_452 := am_ ((by rw [hg]; exact Nat.ne_of_lt (blk_lt (g := bp1) (o := .cells #[.int .i64 a1_0, .int .i64 a1_1, .slice A1_2 l1_2.length c1_2, .slice A1_3 l1_3.length c1_3] 33 (0, 0)) (Sh.pl HX1.out)) : bp1 ≠ gb452)); have NB452_1 := am_ ((by rw [hg]; exact Nat.ne_of_gt (blk_lt (g := bp1) (o := .cells #[.int .i64 a1_0, .int .i64 a1_1, .slice A1_2 l1_2.length c1_2, .slice A1_3 l1_3.length c1_3] 33 (0, 0)) (Sh.pl HX1.out)) : gb452 ≠ bp1)); replace HX1 := am_ (blk_below (g := bp1) (o := .cells #[.int .i64 a1_0, .int .i64 a1_1, .slice A1_2 l1_2.length c1_2, .slice A1_3 l1_3.length c1_3] 33 (0, 0)) (Sh.pl HX1.out) hb); clear hb hbox hg; have hnb5 := NB1_452.out; have hnc5 := NB452_1.out; have hcz6_0 : w4.cell? ⟨bp1, 0, none⟩ = some (.int .i64 a1_0) := (blk_cell HX1.out 0).trans rfl; have hcz6_1 : w4.cell? ⟨bp1, 1, none⟩ = some (.int .i64 a1_1) := (blk_cell HX1.out 1).trans rfl; have hcz6_2 : w4.cell? ⟨bp1, 2, none⟩ = some (.slice A1_2 l1_2.length c1_2) := (blk_cell HX1.out 2).trans rfl; have hcz6_3 : w4.cell? ⟨bp1, 3, none⟩ = some (.slice A1_3 l1_3.length c1_3) := (blk_cell HX1.out 3).trans rfl; have hfz6_0 := blk_frozen HX1.out 0; have hfz6_1 := blk_frozen HX1.out 1; have hfz6_2 := blk_frozen HX1.out 2; have hfz6_3 := blk_frozen HX1.out 3; obtain ⟨hcz7_0, hcz7_1, hfz7_0, hfz7_1⟩ := Sh.b2 BK452.out) | ((with_reducible refine Sh.k 127 ?_); refine Sh.gB (some 6) Tryz.func127 #[.agg #[.int .i64 a1_0, .int .i64 a1_1, .slice A1_2 l1_2.length c1_2, .slice A1_3 l1_3.length c1_3], .agg #[.slice A0_0 l0_0.length c0_0, .slice A0_1 l0_1.length c0_1]] (impl_Program_isCommand.calls k a1_0 a1_1 _ _ l1_2 _ _ l1_3 _ _ l0_0 _ _ l0_1 t453 _ (Sh.cB HR1_2.out) HC1_2.out (Sh.cB HR1_3.out) HC1_3.out (Sh.cB HR0_0.out) HC0_0.out (Sh.cB HR0_1.out) HC0_1.out A3.out) fun w8 hb => ?_; replace HX1 := am_ (blk_below (g := bp1) (o := .cells #[.int .i64 a1_0, .int .i64 a1_1, .slice A1_2 l1_2.length c1_2, .slice A1_3 l1_3.length c1_3] 33 (0, 0)) (Sh.pl HX1.out) hb); replace BK452 := Sh.ab BK452 hb; replace HB := Sh.hb hb; (try clear hb)))
 go_ret
 exact ⟨Sh.eR, Sh.bw⟩
def impl_Command_74_by_impl_GoodProgram_1.f (k : Nat) (l0 : List (S95)) (a1_0 : Int) (a1_1 : Int) (l1_2 : List (S79)) (l1_3 : List (S95)) : Option (Bool) := anyO (fun x_ => impl_GoodProgram_1.f k x_.f0 x_.f1 a1_0 a1_1 l1_2 l1_3) l0
theorem impl_Command_74_by_impl_GoodProgram_1.mono : ∀ a0 a1 a2 a3 a4 k, LeO (impl_Command_74_by_impl_GoodProgram_1.f k a0 a1 a2 a3 a4) (impl_Command_74_by_impl_GoodProgram_1.f (k + 1) a0 a1 a2 a3 a4) := by
 intro a0 a1 a2 a3 a4 k
 unfold impl_Command_74_by_impl_GoodProgram_1.f
 with_reducible exact anyO_mono (fun x_ => impl_GoodProgram_1.mono (S95.f0 x_) (S95.f1 x_) a1 a2 a3 a4 k) a0
theorem impl_Command_74_by_impl_GoodProgram_1.calls (k : Nat) (A0 : Option Addr) (c0 : Nat) (l0 : List (S95)) (bp1 : Nat) (a1_0 : Int) (a1_1 : Int) (A1_2 : Option Addr) (c1_2 : Nat) (l1_2 : List (S79)) (A1_3 : Option Addr) (c1_3 : Nat) (l1_3 : List (S95)) (r : Bool) (w : World) (hr0 : Kd.C k95 w A0 l0.length l0) (hc0 : l0.length ≤ c0) (hr1_2 : Kd.C k79 w A1_2 l1_2.length l1_2) (hc1_2 : l1_2.length ≤ c1_2) (hr1_3 : Kd.C k95 w A1_3 l1_3.length l1_3) (hc1_3 : l1_3.length ≤ c1_3) (hb1 : w.heap[bp1]? = some (.cells #[.int .i64 a1_0, .int .i64 a1_1, .slice A1_2 l1_2.length c1_2, .slice A1_3 l1_3.length c1_3] 33 (0, 0))) (h : impl_Command_74_by_impl_GoodProgram_1.f k l0 a1_0 a1_1 l1_2 l1_3 = some r) :
  Calls Tryz.prog 74 #[.slice A0 l0.length c0, .func (.func 126) #[] #[.pointer (some ⟨bp1, 0, none⟩)]] w fun e w' => e = .returned (.bool r) ∧ Below w.heap.size w w' := by
 refine impl_Command_74.gen 126 #[.pointer (some ⟨bp1, 0, none⟩)] (enters_of Tryz.func126 (by kernel_rfl) rfl) _ A0 c0 l0 r w hr0 hc0 ?_ h
 intro W x b A0 c0 A1 c1 hB_ hin_ hq_ hl0_ hC0_ hl1_ hC1_
 refine (impl_GoodProgram_1.calls k _ _ x.f0 _ _ x.f1 bp1 a1_0 a1_1 _ _ l1_2 _ _ l1_3 b W hC0_ hl0_ hC1_ hl1_ (Kd.C_below hr1_2 hB_) hc1_2 (Kd.C_below hr1_3 hB_) hc1_3 ((hB_.block _ (blk_lt hb1)).trans hb1) hq_).mono ?_
 rintro e w' ⟨rfl, hd_⟩
 exact ⟨rfl, hd_⟩
def impl_GoodProgram.f (k : Nat) (a0_0 : Int) (a0_1 : Int) (l0_2 : List (S79)) (l0_3 : List (S95)) : Option (Bool) := (impl_isWide.f a0_0).bind fun t455 => (if t455 = true then ((impl_isVars.f a0_1).bind fun t456 => (if t456 = true then ((impl_Program_isCondition.f k a0_0 a0_1 l0_2 l0_3 l0_2).bind fun t457 => (if t457 = true then (if (l0_3.length : Int) < 1 then (some false) else (if (l0_3.length : Int) > 6 then (some false) else ((impl_Command_74_by_impl_GoodProgram_1.f k l0_3 a0_0 a0_1 l0_2 l0_3).bind fun t458 => (some (!t458))))) else (some false))) else (some false))) else (some false))
theorem impl_GoodProgram.mono : ∀ a0 a1 a2 a3 k, LeO (impl_GoodProgram.f k a0 a1 a2 a3) (impl_GoodProgram.f (k + 1) a0 a1 a2 a3) := by
 intro a0 a1 a2 a3 k
 unfold impl_GoodProgram.f
 repeat' with_reducible first | apply impl_Command_74_by_impl_GoodProgram_1.mono | apply impl_Program_isCondition.mono | exact LeO.refl _ | exact LeO.none _ | apply LeO.ite | refine LeO.bind ?_ fun _ => ?_
theorem impl_GoodProgram.calls (k : Nat) (a0_0 : Int) (a0_1 : Int) (A0_2 : Option Addr) (c0_2 : Nat) (l0_2 : List (S79)) (A0_3 : Option Addr) (c0_3 : Nat) (l0_3 : List (S95)) (r : Bool) (w : World) (hr0_2 : Kd.C k79 w A0_2 l0_2.length l0_2) (hc0_2 : l0_2.length ≤ c0_2) (hr0_3 : Kd.C k95 w A0_3 l0_3.length l0_3) (hc0_3 : l0_3.length ≤ c0_3) (h : impl_GoodProgram.f k a0_0 a0_1 l0_2 l0_3 = some r) :
  Calls Tryz.prog 102 #[.agg #[.int .i64 a0_0, .int .i64 a0_1, .slice A0_2 l0_2.length c0_2, .slice A0_3 l0_3.length c0_3]] w fun e w' => e = .returned (.bool r) ∧ Below w.heap.size w w' := by
 have hu33 := Tryz.underlying33
 have HR0_2 := am_ hr0_2
 have HC0_2 := am_ hc0_2
 clear hr0_2 hc0_2
 have HR0_3 := am_ hr0_3
 have HC0_3 := am_ hc0_3
 clear hr0_3 hc0_3
 have HB := am_ (Below.refl w.heap.size w)
 have H := h
 clear h
 unfold impl_GoodProgram.f at H
 obtain ⟨t455, A2, H⟩ := Sh.ba H
 by_cases c3 : t455 = true
 ·subst c3
  rw [if_pos rfl] at H
  obtain ⟨t456, A4, H⟩ := Sh.ba H
  by_cases c5 : t456 = true
  ·subst c5
   rw [if_pos rfl] at H
   obtain ⟨t457, A6, H⟩ := Sh.ba H
   by_cases c7 : t457 = true
   ·subst c7
    rw [if_pos rfl] at H
    by_cases c8 : (l0_3.length : Int) < 1
    ·rw [if_pos c8] at H
     have c8b0 := decide_eq_true c8
     have c8b1 : decide (l0_3.length < 1) = true := decide_eq_true (by omega)
     clear c8
     obtain rfl := Option.some.inj H
     go_enter Tryz.func102, Tryz.ntmps102
     go_wp2_with (first | ((with_reducible refine Sh.d 1 ?_); (try (refine gate_guard (by rfl) ?_; dsimp only)); refine Sh.bz w (N := 1) (cs := #[.int .i64 a0_0, .int .i64 a0_1, .slice A0_2 l0_2.length c0_2, .slice A0_3 l0_3.length c0_3]) (t := 33) (h := ?_); clear HB; intro gb454 w9 BK454 GE454 HB; obtain ⟨hcz10_0, hcz10_1, hcz10_2, hcz10_3, hfz10_0, hfz10_1, hfz10_2, hfz10_3⟩ := Sh.b4 BK454.out) | ((with_reducible refine Sh.k 124 ?_); refine Sh.gD (some 5) Tryz.func124 #[.int .i64 a0_0] (impl_isWide.calls a0_0 true _ A2.out) fun nd => ?_) | (go_at_call 125; (with_reducible refine (impl_isVars.calls a0_1 true _ A4.out).mono ?_); rintro e w' ⟨rfl, ⟨nd, rfl⟩⟩) | (go_at_call 64; (with_reducible refine (impl_Program_isCondition.calls k a0_0 a0_1 _ _ l0_2 _ _ l0_3 _ _ l0_2 true _ (Sh.cB HR0_2.out) HC0_2.out (Sh.cB HR0_3.out) HC0_3.out (Sh.cB HR0_2.out) HC0_2.out A6.out).mono ?_); rintro e w11 ⟨rfl, hb⟩; replace BK454 := Sh.ab BK454 hb; replace HB := Sh.hb hb; (try clear hb); obtain ⟨hcz12_0, hcz12_1, hcz12_2, hcz12_3, hfz12_0, hfz12_1, hfz12_2, hfz12_3⟩ := Sh.b4 BK454.out))
     go_ret
     exact ⟨Sh.eR, Sh.bw⟩
    ·rw [if_neg c8] at H
     have c8b0 := decide_eq_false c8
     have c8b1 : decide (l0_3.length < 1) = false := decide_eq_false (by omega)
     clear c8
     by_cases c13 : (l0_3.length : Int) > 6
     ·rw [if_pos c13] at H
      have c13b0 : decide (6 < (l0_3.length : Int)) = true := decide_eq_true c13
      have c13b1 : decide (6 < l0_3.length) = true := decide_eq_true (by omega)
      clear c13
      obtain rfl := Option.some.inj H
      go_enter Tryz.func102, Tryz.ntmps102
      go_wp2_with (first | ((with_reducible refine Sh.d 1 ?_); (try (refine gate_guard (by rfl) ?_; dsimp only)); refine Sh.bz w (N := 1) (cs := #[.int .i64 a0_0, .int .i64 a0_1, .slice A0_2 l0_2.length c0_2, .slice A0_3 l0_3.length c0_3]) (t := 33) (h := ?_); clear HB; intro gb454 w14 BK454 GE454 HB; obtain ⟨hcz15_0, hcz15_1, hcz15_2, hcz15_3, hfz15_0, hfz15_1, hfz15_2, hfz15_3⟩ := Sh.b4 BK454.out) | ((with_reducible refine Sh.k 124 ?_); refine Sh.gD (some 5) Tryz.func124 #[.int .i64 a0_0] (impl_isWide.calls a0_0 true _ A2.out) fun nd => ?_) | (go_at_call 125; (with_reducible refine (impl_isVars.calls a0_1 true _ A4.out).mono ?_); rintro e w' ⟨rfl, ⟨nd, rfl⟩⟩) | (go_at_call 64; (with_reducible refine (impl_Program_isCondition.calls k a0_0 a0_1 _ _ l0_2 _ _ l0_3 _ _ l0_2 true _ (Sh.cB HR0_2.out) HC0_2.out (Sh.cB HR0_3.out) HC0_3.out (Sh.cB HR0_2.out) HC0_2.out A6.out).mono ?_); rintro e w16 ⟨rfl, hb⟩; replace BK454 := Sh.ab BK454 hb; replace HB := Sh.hb hb; (try clear hb); obtain ⟨hcz17_0, hcz17_1, hcz17_2, hcz17_3, hfz17_0, hfz17_1, hfz17_2, hfz17_3⟩ := Sh.b4 BK454.out))
      go_ret
      exact ⟨Sh.eR, Sh.bw⟩
     ·rw [if_neg c13] at H
      have c13b0 : decide (6 < (l0_3.length : Int)) = false := decide_eq_false c13
      have c13b1 : decide (6 < l0_3.length) = false := decide_eq_false (by omega)
      clear c13
      obtain ⟨t458, A18, H⟩ := Sh.ba H
      obtain rfl := Option.some.inj H
      go_enter Tryz.func102, Tryz.ntmps102
      go_wp2_with (first | ((with_reducible refine Sh.d 1 ?_); (try (refine gate_guard (by rfl) ?_; dsimp only)); refine Sh.bz w (N := 1) (cs := #[.int .i64 a0_0, .int .i64 a0_1, .slice A0_2 l0_2.length c0_2, .slice A0_3 l0_3.length c0_3]) (t := 33) (h := ?_); clear HB; intro gb454 w19 BK454 GE454 HB; obtain ⟨hcz20_0, hcz20_1, hcz20_2, hcz20_3, hfz20_0, hfz20_1, hfz20_2, hfz20_3⟩ := Sh.b4 BK454.out) | ((with_reducible refine Sh.k 124 ?_); refine Sh.gD (some 5) Tryz.func124 #[.int .i64 a0_0] (impl_isWide.calls a0_0 true _ A2.out) fun nd => ?_) | (go_at_call 125; (with_reducible refine (impl_isVars.calls a0_1 true _ A4.out).mono ?_); rintro e w' ⟨rfl, ⟨nd, rfl⟩⟩) | (go_at_call 64; (with_reducible refine (impl_Program_isCondition.calls k a0_0 a0_1 _ _ l0_2 _ _ l0_3 _ _ l0_2 true _ (Sh.cB HR0_2.out) HC0_2.out (Sh.cB HR0_3.out) HC0_3.out (Sh.cB HR0_2.out) HC0_2.out A6.out).mono ?_); rintro e w21 ⟨rfl, hb⟩; replace BK454 := Sh.ab BK454 hb; replace HB := Sh.hb hb; (try clear hb); obtain ⟨hcz22_0, hcz22_1, hcz22_2, hcz22_3, hfz22_0, hfz22_1, hfz22_2, hfz22_3⟩ := Sh.b4 BK454.out) | ((with_reducible refine Sh.k 74 ?_); refine Sh.gL (some 35) Tryz.func74 #[.slice A0_3 l0_3.length c0_3, .func (.func 126) #[] #[.pointer (some ⟨gb454, 0, none⟩)]] (h := ?_); (with_reducible refine (impl_Command_74_by_impl_GoodProgram_1.calls k _ _ l0_3 gb454 a0_0 a0_1 A0_2 c0_2 l0_2 A0_3 c0_3 l0_3 t458 _ (Sh.cB HR0_3.out) HC0_3.out (Sh.cB HR0_2.out) HC0_2.out (Sh.cB HR0_3.out) HC0_3.out ?side7 A18.out).mono ?_); (case side7 => refine Sh.pl ?_; exact BK454.out); rintro e w23 ⟨rfl, hb⟩; refine ⟨_, rfl, ?_⟩; replace BK454 := Sh.ab BK454 hb; replace HB := Sh.hb hb; (try clear hb)))
      go_ret
      exact ⟨Sh.eR, Sh.bw⟩
   ·replace c7 := Bool.eq_false_iff.mpr c7
    subst c7
    rw [Sh.nf] at H
    obtain rfl := Option.some.inj H
    go_enter Tryz.func102, Tryz.ntmps102
    go_wp2_with (first | ((with_reducible refine Sh.d 1 ?_); (try (refine gate_guard (by rfl) ?_; dsimp only)); refine Sh.bz w (N := 1) (cs := #[.int .i64 a0_0, .int .i64 a0_1, .slice A0_2 l0_2.length c0_2, .slice A0_3 l0_3.length c0_3]) (t := 33) (h := ?_); clear HB; intro gb454 w24 BK454 GE454 HB; obtain ⟨hcz25_0, hcz25_1, hcz25_2, hcz25_3, hfz25_0, hfz25_1, hfz25_2, hfz25_3⟩ := Sh.b4 BK454.out) | ((with_reducible refine Sh.k 124 ?_); refine Sh.gD (some 5) Tryz.func124 #[.int .i64 a0_0] (impl_isWide.calls a0_0 true _ A2.out) fun nd => ?_) | (go_at_call 125; (with_reducible refine (impl_isVars.calls a0_1 true _ A4.out).mono ?_); rintro e w' ⟨rfl, ⟨nd, rfl⟩⟩) | (go_at_call 64; (with_reducible refine (impl_Program_isCondition.calls k a0_0 a0_1 _ _ l0_2 _ _ l0_3 _ _ l0_2 false _ (Sh.cB HR0_2.out) HC0_2.out (Sh.cB HR0_3.out) HC0_3.out (Sh.cB HR0_2.out) HC0_2.out A6.out).mono ?_); rintro e w26 ⟨rfl, hb⟩; replace BK454 := Sh.ab BK454 hb; replace HB := Sh.hb hb; (try clear hb)))
    go_ret
    exact ⟨Sh.eR, Sh.bw⟩
  ·replace c5 := Bool.eq_false_iff.mpr c5
   subst c5
   rw [Sh.nf] at H
   obtain rfl := Option.some.inj H
   go_enter Tryz.func102, Tryz.ntmps102
   go_wp2_with (first | ((with_reducible refine Sh.d 1 ?_); (try (refine gate_guard (by rfl) ?_; dsimp only)); refine Sh.bz w (N := 1) (cs := #[.int .i64 a0_0, .int .i64 a0_1, .slice A0_2 l0_2.length c0_2, .slice A0_3 l0_3.length c0_3]) (t := 33) (h := ?_); clear HB; intro gb454 w27 BK454 GE454 HB; obtain ⟨hcz28_0, hcz28_1, hcz28_2, hcz28_3, hfz28_0, hfz28_1, hfz28_2, hfz28_3⟩ := Sh.b4 BK454.out) | ((with_reducible refine Sh.k 124 ?_); refine Sh.gD (some 5) Tryz.func124 #[.int .i64 a0_0] (impl_isWide.calls a0_0 true _ A2.out) fun nd => ?_) | (go_at_call 125; (with_reducible refine (impl_isVars.calls a0_1 false _ A4.out).mono ?_); rintro e w' ⟨rfl, ⟨nd, rfl⟩⟩))
   go_ret
   exact ⟨Sh.eR, Sh.bw⟩
 ·replace c3 := Bool.eq_false_iff.mpr c3
  subst c3
  rw [Sh.nf] at H
  obtain rfl := Option.some.inj H
  go_enter Tryz.func102, Tryz.ntmps102
  go_wp2_with (first | ((with_reducible refine Sh.d 1 ?_); (try (refine gate_guard (by rfl) ?_; dsimp only)); refine Sh.bz w (N := 1) (cs := #[.int .i64 a0_0, .int .i64 a0_1, .slice A0_2 l0_2.length c0_2, .slice A0_3 l0_3.length c0_3]) (t := 33) (h := ?_); clear HB; intro gb454 w29 BK454 GE454 HB; obtain ⟨hcz30_0, hcz30_1, hcz30_2, hcz30_3, hfz30_0, hfz30_1, hfz30_2, hfz30_3⟩ := Sh.b4 BK454.out) | ((with_reducible refine Sh.k 124 ?_); refine Sh.gD (some 5) Tryz.func124 #[.int .i64 a0_0] (impl_isWide.calls a0_0 false _ A2.out) fun nd => ?_))
  go_ret
  exact ⟨Sh.eR, Sh.bw⟩
def impl_isSmall.f (k : Nat) (a0_0 : Int) (a0_1 : Int) (l0_2 : List (S79)) (l0_3 : List (S95)) : Option (Bool) := (impl_GoodProgram.f k a0_0 a0_1 l0_2 l0_3).bind fun t460 => (if t460 = true then (some (decide ((wrap64 (a0_0 * a0_1)) ≤ 5))) else (some false))
theorem impl_isSmall.mono : ∀ a0 a1 a2 a3 k, LeO (impl_isSmall.f k a0 a1 a2 a3) (impl_isSmall.f (k + 1) a0 a1 a2 a3) := by
 intro a0 a1 a2 a3 k
 unfold impl_isSmall.f
 repeat' with_reducible first | apply impl_GoodProgram.mono | exact LeO.refl _ | exact LeO.none _ | apply LeO.ite | refine LeO.bind ?_ fun _ => ?_
theorem impl_isSmall.calls (k : Nat) (a0_0 : Int) (a0_1 : Int) (A0_2 : Option Addr) (c0_2 : Nat) (l0_2 : List (S79)) (A0_3 : Option Addr) (c0_3 : Nat) (l0_3 : List (S95)) (r : Bool) (w : World) (hr0_2 : Kd.C k79 w A0_2 l0_2.length l0_2) (hc0_2 : l0_2.length ≤ c0_2) (hr0_3 : Kd.C k95 w A0_3 l0_3.length l0_3) (hc0_3 : l0_3.length ≤ c0_3) (h : impl_isSmall.f k a0_0 a0_1 l0_2 l0_3 = some r) :
  Calls Tryz.prog 63 #[.agg #[.int .i64 a0_0, .int .i64 a0_1, .slice A0_2 l0_2.length c0_2, .slice A0_3 l0_3.length c0_3]] w fun e w' => e = .returned (.bool r) ∧ Below w.heap.size w w' := by
 have hu33 := Tryz.underlying33
 have HR0_2 := am_ hr0_2
 have HC0_2 := am_ hc0_2
 clear hr0_2 hc0_2
 have HR0_3 := am_ hr0_3
 have HC0_3 := am_ hc0_3
 clear hr0_3 hc0_3
 have HB := am_ (Below.refl w.heap.size w)
 have H := h
 clear h
 unfold impl_isSmall.f at H
 obtain ⟨t460, A2, H⟩ := Sh.ba H
 by_cases c3 : t460 = true
 ·subst c3
  rw [if_pos rfl] at H
  obtain rfl := Option.some.inj H
  go_enter Tryz.func63, Tryz.ntmps63
  go_wp2_with (first | ((with_reducible refine Sh.d 1 ?_); refine Sh.bz w (N := 1) (cs := #[.int .i64 a0_0, .int .i64 a0_1, .slice A0_2 l0_2.length c0_2, .slice A0_3 l0_3.length c0_3]) (t := 33) (h := ?_); clear HB; intro gb459 w4 BK459 GE459 HB; obtain ⟨hcz5_0, hcz5_1, hcz5_2, hcz5_3, hfz5_0, hfz5_1, hfz5_2, hfz5_3⟩ := Sh.b4 BK459.out) | ((with_reducible refine Sh.k 102 ?_); refine Sh.gB (some 4) Tryz.func102 #[.agg #[.int .i64 a0_0, .int .i64 a0_1, .slice A0_2 l0_2.length c0_2, .slice A0_3 l0_3.length c0_3]] (impl_GoodProgram.calls k a0_0 a0_1 _ _ l0_2 _ _ l0_3 true _ (Sh.cB HR0_2.out) HC0_2.out (Sh.cB HR0_3.out) HC0_3.out A2.out) fun w6 hb => ?_; replace BK459 := Sh.ab BK459 hb; replace HB := Sh.hb hb; (try clear hb); obtain ⟨hcz7_0, hcz7_1, hcz7_2, hcz7_3, hfz7_0, hfz7_1, hfz7_2, hfz7_3⟩ := Sh.b4 BK459.out))
  go_ret
  exact ⟨Sh.eR, Sh.bw⟩
 ·replace c3 := Bool.eq_false_iff.mpr c3
  subst c3
  rw [Sh.nf] at H
  obtain rfl := Option.some.inj H
  go_enter Tryz.func63, Tryz.ntmps63
  go_wp2_with (first | ((with_reducible refine Sh.d 1 ?_); refine Sh.bz w (N := 1) (cs := #[.int .i64 a0_0, .int .i64 a0_1, .slice A0_2 l0_2.length c0_2, .slice A0_3 l0_3.length c0_3]) (t := 33) (h := ?_); clear HB; intro gb459 w8 BK459 GE459 HB; obtain ⟨hcz9_0, hcz9_1, hcz9_2, hcz9_3, hfz9_0, hfz9_1, hfz9_2, hfz9_3⟩ := Sh.b4 BK459.out) | ((with_reducible refine Sh.k 102 ?_); refine Sh.gB (some 4) Tryz.func102 #[.agg #[.int .i64 a0_0, .int .i64 a0_1, .slice A0_2 l0_2.length c0_2, .slice A0_3 l0_3.length c0_3]] (impl_GoodProgram.calls k a0_0 a0_1 _ _ l0_2 _ _ l0_3 false _ (Sh.cB HR0_2.out) HC0_2.out (Sh.cB HR0_3.out) HC0_3.out A2.out) fun w10 hb => ?_; replace BK459 := Sh.ab BK459 hb; replace HB := Sh.hb hb; (try clear hb)))
  go_ret
  exact ⟨Sh.eR, Sh.bw⟩
def impl_areWords.f (a0 : Int) (a1 : Int) (a2 : Int) : Option (Bool) := (impl_GoodWord.f a0 a1).bind fun t461 => (if t461 = true then ((impl_GoodWord.f a0 a2).bind fun t462 => (some t462)) else (some false))
theorem impl_areWords.calls (a0 : Int) (a1 : Int) (a2 : Int) (r : Bool) (w : World) (h : impl_areWords.f a0 a1 a2 = some r) :
  Calls Tryz.prog 165 #[.int .i64 a0, .int .u64 a1, .int .u64 a2] w fun e w' => e = .returned (.bool r) ∧ Drawn0 w w' := by
 have H := h
 clear h
 unfold impl_areWords.f at H
 obtain ⟨t461, A4, H⟩ := Sh.ba H
 by_cases c5 : t461 = true
 ·subst c5
  rw [if_pos rfl] at H
  obtain ⟨t462, A6, H⟩ := Sh.ba H
  obtain rfl := Option.some.inj H
  go_enter Tryz.func165, Tryz.ntmps165
  go_wp2_with (first | ((with_reducible refine Sh.k 168 ?_); refine Sh.gD (some 9) Tryz.func168 #[.int .i64 a0, .int .u64 a1] (impl_GoodWord.calls a0 a1 true _ A4.out) fun nd => ?_) | (go_at_call 168; (with_reducible refine (impl_GoodWord.calls a0 a2 t462 _ A6.out).mono ?_); rintro e w' ⟨rfl, ⟨nd, rfl⟩⟩))
  go_ret
  exact ⟨Sh.es, Sh.dr⟩
 ·replace c5 := Bool.eq_false_iff.mpr c5
  subst c5
  rw [Sh.nf] at H
  obtain rfl := Option.some.inj H
  go_enter Tryz.func165, Tryz.ntmps165
  go_wp2_with (first | ((with_reducible refine Sh.k 168 ?_); refine Sh.gD (some 9) Tryz.func168 #[.int .i64 a0, .int .u64 a1] (impl_GoodWord.calls a0 a1 false _ A4.out) fun nd => ?_))
  go_ret
  exact ⟨Sh.es, Sh.dr⟩
def bits_Div64.f (a0 a1 a2 : Int) : Option (Int × Int) := if a0 = 0 ∧ 0 < a2 then some (IntKind.u64.wrap (Int.tdiv a1 a2), Int.tmod a1 a2) else none
theorem bits_Div64.calls (a0 : Int) (a1 : Int) (a2 : Int) (r1 : Int) (r2 : Int) (w : World) (h : bits_Div64.f a0 a1 a2 = some (r1, r2)) :
  Calls Tryz.prog 166 #[.int .u64 a0, .int .u64 a1, .int .u64 a2] w fun e w' => e = .returned (.tuple #[.int .u64 r1, .int .u64 r2]) ∧ Drawn0 w w' := by
 have hf : a0 = 0 ∧ 0 < a2 := by
  rcases Decidable.em (a0 = 0 ∧ 0 < a2) with h1 | h1
  ·exact h1
  ·rw [bits_Div64.f, if_neg h1] at h; cases h
 rw [bits_Div64.f, if_pos hf] at h
 obtain ⟨rfl, h0⟩ := hf
 simp only [Option.some.injEq, Prod.mk.injEq] at h
 obtain ⟨rfl, rfl⟩ := h
 have h1 : ¬ (a2 = 0) := by omega
 have h3 : (a2 == 0) = false := by simpa using h1
 have h2 : ¬ (a2 ≤ 0) := by omega
 go_enter Tryz.func166, Tryz.ntmps166
 go_wp2
 go_region
 all_goals go_wp2
 all_goals go_ret2
 all_goals exact ⟨Sh.e1, Sh.dr⟩
def impl_DivWord.f (a0 : Int) (a1 : Int) (a2 : Int) : Option (Int × Int × Bool) := (impl_areWords.f a0 a1 a2).bind fun t464 => (if t464 = true then (if a2 = 0 then ((impl_mask.f a0).bind fun t465 => (some (t465, a1, true))) else ((bits_Div64.f 0 a1 a2).bind fun bt466 => (some (bt466.1, bt466.2, true)))) else (some (0, 0, false)))
theorem impl_DivWord.calls (a0 : Int) (a1 : Int) (a2 : Int) (r1 : Int) (r2 : Int) (r3 : Bool) (w : World) (h : impl_DivWord.f a0 a1 a2 = some (r1, r2, r3)) :
  Calls Tryz.prog 145 #[.int .i64 a0, .int .u64 a1, .int .u64 a2] w fun e w' => e = .returned (.tuple #[.int .u64 r1, .int .u64 r2, .bool r3]) ∧ Drawn0 w w' := by
 have H := h
 clear h
 unfold impl_DivWord.f at H
 obtain ⟨t464, A4, H⟩ := Sh.ba H
 by_cases c5 : t464 = true
 ·subst c5
  rw [if_pos rfl] at H
  by_cases c6 : a2 = 0
  ·rw [if_pos c6] at H
   have c6b0 : (a2 == 0) = true := beq_iff_eq.mpr c6
   have c6b1 : (a2 != 0) = false := bne_eq_false_iff_eq.mpr c6
   clear c6
   obtain ⟨t465, A7, H⟩ := Sh.ba H
   simp only [Option.some.injEq, Prod.mk.injEq] at H
   obtain ⟨rfl, rfl, rfl⟩ := H
   go_enter Tryz.func145, Tryz.ntmps145
   go_wp2_with (first | ((with_reducible refine Sh.k 165 ?_); refine Sh.gD (some 15) Tryz.func165 #[.int .i64 a0, .int .u64 a1, .int .u64 a2] (impl_areWords.calls a0 a1 a2 true _ A4.out) fun nd => ?_) | ((with_reducible refine Sh.k 99 ?_); refine Sh.gD (some 21) Tryz.func99 #[.int .i64 a0] (impl_mask.calls a0 t465 _ A7.out) fun nd => ?_))
   go_ret3
   exact ⟨Sh.es, Sh.dr⟩
  ·rw [if_neg c6] at H
   have c6b0 : (a2 == 0) = false := beq_eq_false_iff_ne.mpr c6
   have c6b1 : (a2 != 0) = true := bne_iff_ne.mpr c6
   obtain ⟨⟨t466, t467⟩, A80, H⟩ := Sh.bd H
   have A8 := am_ A80
   clear A80
   simp only [Option.some.injEq, Prod.mk.injEq] at H
   obtain ⟨rfl, rfl, rfl⟩ := H
   go_enter Tryz.func145, Tryz.ntmps145
   go_wp2_with (first | ((with_reducible refine Sh.k 165 ?_); refine Sh.gD (some 15) Tryz.func165 #[.int .i64 a0, .int .u64 a1, .int .u64 a2] (impl_areWords.calls a0 a1 a2 true _ A4.out) fun nd => ?_) | ((with_reducible refine Sh.k 166 ?_); refine Sh.gD (some 26) Tryz.func166 #[.int .u64 0, .int .u64 a1, .int .u64 a2] (bits_Div64.calls 0 a1 a2 t466 t467 _ A8.out) fun nd => ?_))
   go_ret3
   exact ⟨Sh.es, Sh.dr⟩
 ·replace c5 := Bool.eq_false_iff.mpr c5
  subst c5
  rw [Sh.nf] at H
  simp only [Option.some.injEq, Prod.mk.injEq] at H
  obtain ⟨rfl, rfl, rfl⟩ := H
  go_enter Tryz.func145, Tryz.ntmps145
  go_wp2_with (first | ((with_reducible refine Sh.k 165 ?_); refine Sh.gD (some 15) Tryz.func165 #[.int .i64 a0, .int .u64 a1, .int .u64 a2] (impl_areWords.calls a0 a1 a2 false _ A4.out) fun nd => ?_))
  go_ret3
  exact ⟨Sh.es, Sh.dr⟩
def impl_shift.f (a0 : Int) (a1 : Int) (a2 : Int) (a3 : Bool) : Option (Int) := if a2 ≥ (IntKind.u64.wrap (a0)) then (some 0) else (if a3 = true then (if 0 ≤ a2 then ((impl_mask.f a0).bind fun t468 => (some (Go.bits .and .u64 (shl .u64 a1 a2) t468))) else (none)) else (if 0 ≤ a2 then (some (shr .u64 a1 a2)) else (none)))
theorem impl_shift.calls (a0 : Int) (a1 : Int) (a2 : Int) (a3 : Bool) (r : Int) (w : World) (h : impl_shift.f a0 a1 a2 a3 = some r) :
  Calls Tryz.prog 146 #[.int .i64 a0, .int .u64 a1, .int .u64 a2, .bool a3] w fun e w' => e = .returned (.int .u64 r) ∧ Drawn0 w w' := by
 have H := h
 clear h
 unfold impl_shift.f at H
 by_cases c5 : a2 ≥ (IntKind.u64.wrap (a0))
 ·rw [if_pos c5] at H
  have c5b0 : decide ((IntKind.u64.wrap (a0)) ≤ a2) = true := decide_eq_true c5
  clear c5
  obtain rfl := Option.some.inj H
  go_enter Tryz.func146, Tryz.ntmps146
  go_wp2
  go_ret
  exact ⟨Sh.es, Sh.dr⟩
 ·rw [if_neg c5] at H
  have c5b0 : decide ((IntKind.u64.wrap (a0)) ≤ a2) = false := decide_eq_false c5
  clear c5
  by_cases c6 : a3 = true
  ·subst c6
   rw [if_pos rfl] at H
   by_cases c7 : 0 ≤ a2
   ·rw [if_pos c7] at H
    have c7b0 := eq_true c7
    have c7b1 := decide_eq_true c7
    clear c7
    obtain ⟨ji8, hj1⟩ : ∃ j_ : Int, (shl .u64 a1 a2) = j_ := ⟨_, rfl⟩
    replace H : ((impl_mask.f a0).bind fun t468 => (some (Go.bits .and .u64 (ji8) t468))) = some r := by first | (rw [hj1] at H; exact H) | (simp only [hj1] at H ⊢; exact H)
    have hji8_ : (IntKind.u64.wrap (a1 * 2 ^ min a2.toNat 64)) = ji8 := hj1
    have hji8z : a2 ≤ 64 → (IntKind.u64.wrap (a1 * 2 ^ a2.toNat)) = ji8 := shl_small hj1
    obtain ⟨t468, A9, H⟩ := Sh.ba H
    obtain rfl := Option.some.inj H
    go_enter Tryz.func146, Tryz.ntmps146
    go_wp2_with (first | ((with_reducible refine Sh.k 99 ?_); refine Sh.gD (some 20) Tryz.func99 #[.int .i64 a0] (impl_mask.calls a0 t468 _ A9.out) fun nd => ?_))
    go_ret
    exact ⟨by first | rfl | (simp; done) | (simp only [← hj1] <;> (first | rfl | simp)) | (simp [*]; done), Sh.dr⟩
   ·rw [if_neg c7] at H
    cases H
  ·replace c6 := Bool.eq_false_iff.mpr c6
   subst c6
   rw [Sh.nf] at H
   by_cases c10 : 0 ≤ a2
   ·rw [if_pos c10] at H
    have c10b0 := eq_true c10
    have c10b1 := decide_eq_true c10
    clear c10
    obtain ⟨ji11, hj1⟩ : ∃ j_ : Int, (shr .u64 a1 a2) = j_ := ⟨_, rfl⟩
    replace H : (some ji11) = some r := by first | (rw [hj1] at H; exact H) | (simp only [hj1] at H ⊢; exact H)
    have hji11_ : (a1 / 2 ^ min a2.toNat 64) = ji11 := hj1
    have hji11z : a2 ≤ 64 → (a1 / 2 ^ a2.toNat) = ji11 := shr_small hj1
    obtain rfl := Option.some.inj H
    go_enter Tryz.func146, Tryz.ntmps146
    go_wp2
    go_ret
    exact ⟨by first | rfl | (simp; done) | (simp only [← hj1] <;> (first | rfl | simp)) | (simp [*]; done), Sh.dr⟩
   ·rw [if_neg c10] at H
    cases H
def impl_truth.f (a0 : Bool) : Option (Int) := if a0 = true then (some 1) else (some 0)
theorem impl_truth.calls (a0 : Bool) (r : Int) (w : World) (h : impl_truth.f a0 = some r) :
  Calls Tryz.prog 147 #[.bool a0] w fun e w' => e = .returned (.int .u64 r) ∧ Drawn0 w w' := by
 have H := h
 clear h
 unfold impl_truth.f at H
 by_cases c2 : a0 = true
 ·subst c2
  rw [if_pos rfl] at H
  obtain rfl := Option.some.inj H
  go_enter Tryz.func147, Tryz.ntmps147
  go_wp2
  go_ret
  exact ⟨Sh.es, Sh.dr⟩
 ·replace c2 := Bool.eq_false_iff.mpr c2
  subst c2
  rw [Sh.nf] at H
  obtain rfl := Option.some.inj H
  go_enter Tryz.func147, Tryz.ntmps147
  go_wp2
  go_ret
  exact ⟨Sh.es, Sh.dr⟩
def impl_signed.f (a0 : Int) (a1 : Int) : Option (Int) := if 0 ≤ (wrap64 (64 - a0)) then (some (shr .i64 (wrap64 (shl .u64 a1 (wrap64 (64 - a0)))) (wrap64 (64 - a0)))) else (none)
theorem impl_signed.calls (a0 : Int) (a1 : Int) (r : Int) (w : World) (h : impl_signed.f a0 a1 = some r) :
  Calls Tryz.prog 148 #[.int .i64 a0, .int .u64 a1] w fun e w' => e = .returned (.int .i64 r) ∧ Drawn0 w w' := by
 have H := h
 clear h
 unfold impl_signed.f at H
 obtain ⟨ji3, hj1⟩ : ∃ j_ : Int, (wrap64 (64 - a0)) = j_ := ⟨_, rfl⟩
 replace H : (if 0 ≤ (ji3) then (some (shr .i64 (wrap64 (shl .u64 a1 (ji3))) (ji3))) else (none)) = some r := by first | (rw [hj1] at H; exact H) | (simp only [hj1] at H ⊢; exact H)
 have hji3w : (IntKind.i64.wrap (64 - a0)) = ji3 := (i64_w _).trans hj1
 by_cases c4 : 0 ≤ (ji3)
 ·rw [if_pos c4] at H
  have c4b0 := eq_true c4
  have c4b1 := decide_eq_true c4
  clear c4
  obtain ⟨ji5, hj2⟩ : ∃ j_ : Int, (shl .u64 a1 (ji3)) = j_ := ⟨_, rfl⟩
  replace H : (some (shr .i64 (wrap64 (ji5)) (ji3))) = some r := by first | (rw [hj2] at H; exact H) | (simp only [hj2] at H ⊢; exact H)
  have hji5_ : (IntKind.u64.wrap (a1 * 2 ^ min (ji3).toNat 64)) = ji5 := hj2
  have hji5z : (ji3) ≤ 64 → (IntKind.u64.wrap (a1 * 2 ^ (ji3).toNat)) = ji5 := shl_small hj2
  have c6b0 := eq_true (of_decide_eq_true (by first | (with_reducible assumption) | assumption) : 0 ≤ (ji3))
  obtain ⟨ji7, hj3⟩ : ∃ j_ : Int, (shr .i64 (wrap64 (ji5)) (ji3)) = j_ := ⟨_, rfl⟩
  replace H : (some ji7) = some r := by first | (rw [hj3] at H; exact H) | (simp only [hj3] at H ⊢; exact H)
  have hji7_ : ((wrap64 (ji5)) / 2 ^ min (ji3).toNat 64) = ji7 := hj3
  have hji7z : (ji3) ≤ 64 → ((wrap64 (ji5)) / 2 ^ (ji3).toNat) = ji7 := shr_small hj3
  obtain rfl := Option.some.inj H
  go_enter Tryz.func148, Tryz.ntmps148
  go_wp2
  go_ret
  exact ⟨by first | rfl | (simp; done) | (simp only [← hj1, ← hj2, ← hj3] <;> (first | rfl | simp)) | (simp [*]; done), Sh.dr⟩
 ·rw [if_neg c4] at H
  cases H
end Go.Proofs.YtngefmofelengaaGreat.P
