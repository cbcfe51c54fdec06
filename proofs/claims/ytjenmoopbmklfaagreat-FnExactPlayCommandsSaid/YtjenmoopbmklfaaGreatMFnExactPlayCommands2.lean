/- Go functions of this seat as Lean functions, and the proofs that the calls come to what these say; printed by a program of this session. No condition. -/
import Derived.Test.YtjenmoopbmklfaaGreatP0
import Derived.Test.YtjenmoopbmklfaaGreatMFnExactPlayCommands1
set_option linter.unusedVariables false
set_option linter.unusedSimpArgs false
set_option maxHeartbeats 40000000
set_option maxRecDepth 100000
namespace Go.Proofs.YtjenmoopbmklfaaGreat.P
open Go.RowKit Go.Proofs.YtjenmoopbmklfaaGreatW.PrintWords Go.Proofs.YtjenmoopbmklfaaGreatW.PrintLast Go.Proofs.YtjenmoopbmklfaaGreatW.PrintMore Go.Proofs.YtjenmoopbmklfaaGreat.Hof
attribute [local go_sem] max2_int min2_int max_two min_two max_three min_three max_four min_four
def spec_l7Enabled.l0 : Nat → List Int → List Int → List (S72) → Int → Int → Int → Int → List (S80) → List (S72) → Option (List Int)
 | 0, _, _, _, _, _, _, _, _, _ => none
 | k + 1, x1, x5, x9, x10, x11, x198000, x198001, x198002, x198003 => if x11 < x10 then (if 0 ≤ x11 then (if x11 < (x9.length : Int) then ((spec_l7Holds.f k x198000 x198001 x198002 x198003 ((rd_T72 x9 x11).f0) x1).bind fun t200 => (if t200 = true then (if x5.length < 17592186044416 then (spec_l7Enabled.l0 k x1 (x5 ++ [x11]) x9 x10 (wrap64 (x11 + 1)) x198000 x198001 x198002 x198003) else (none)) else (spec_l7Enabled.l0 k x1 x5 x9 x10 (wrap64 (x11 + 1)) x198000 x198001 x198002 x198003))) else (none)) else (none)) else (some x5)
def spec_l7Enabled.f (k : Nat) (a0_0 : Int) (a0_1 : Int) (l0_2 : List (S80)) (l0_3 : List (S72)) (l1 : List Int) : Option (List Int) := spec_l7Enabled.l0 k l1 ([] : List Int) l0_3 (l0_3.length : Int) 0 a0_0 a0_1 l0_2 l0_3
theorem spec_l7Enabled.mono_l : ∀ k, (∀ y0 y1 y2 y3 y4 y5 y6 y7 y8, LeO (spec_l7Enabled.l0 k y0 y1 y2 y3 y4 y5 y6 y7 y8) (spec_l7Enabled.l0 (k + 1) y0 y1 y2 y3 y4 y5 y6 y7 y8))
 | 0 => fun _ _ _ _ _ _ _ _ _ r h => by simp [spec_l7Enabled.l0] at h
 | k + 1 => by
  have ih0 := spec_l7Enabled.mono_l k
  ·intro y0 y1 y2 y3 y4 y5 y6 y7 y8
   unfold spec_l7Enabled.l0
   repeat' with_reducible first | apply ih0 | apply spec_l7Holds.mono | exact LeO.refl _ | exact LeO.none _ | apply LeO.ite | refine LeO.bind ?_ fun _ => ?_
theorem spec_l7Enabled.mono : ∀ a0 a1 a2 a3 a4 k, LeO (spec_l7Enabled.f k a0 a1 a2 a3 a4) (spec_l7Enabled.f (k + 1) a0 a1 a2 a3 a4) := by
 intro a0 a1 a2 a3 a4 k
 have ih0 := spec_l7Enabled.mono_l k
 unfold spec_l7Enabled.f
 repeat' with_reducible first | apply ih0 | apply spec_l7Holds.mono | exact LeO.refl _ | exact LeO.none _ | apply LeO.ite | refine LeO.bind ?_ fun _ => ?_
theorem spec_l7Enabled.calls (k : Nat) (a0_0 : Int) (a0_1 : Int) (A0_2 : Option Addr) (c0_2 : Nat) (l0_2 : List (S80)) (A0_3 : Option Addr) (c0_3 : Nat) (l0_3 : List (S72)) (A1 : Option Addr) (c1 : Nat) (l1 : List Int) (r : List Int) (w : World) (hr0_2 : Kd.C k80 w A0_2 l0_2.length l0_2) (hc0_2 : l0_2.length ≤ c0_2) (hr0_3 : Kd.C k72 w A0_3 l0_3.length l0_3) (hc0_3 : l0_3.length ≤ c0_3) (hr1 : Kd.C (Kd.int .u64) w A1 l1.length l1) (hc1 : l1.length ≤ c1) (h : spec_l7Enabled.f k a0_0 a0_1 l0_2 l0_3 l1 = some r) :
  Calls Tryz.prog 58 #[.agg #[.int .i64 a0_0, .int .i64 a0_1, .slice A0_2 l0_2.length c0_2, .slice A0_3 l0_3.length c0_3], .slice A1 l1.length c1] w fun e w' => ∃ v0_ : Value, e = .returned (v0_) ∧ Kd.R (Kd.int .i64) 3 w' w.heap.size (fun _ => True) v0_ r ∧ Below w.heap.size w w' := by
 have hu36 := Tryz.underlying36
 have hu72 := Tryz.underlying72
 have HR0_2 := am_ hr0_2
 have HC0_2 := am_ hc0_2
 clear hr0_2 hc0_2
 have HR0_3 := am_ hr0_3
 have HC0_3 := am_ hc0_3
 clear hr0_3 hc0_3
 have HR1 := am_ hr1
 have HC1 := am_ hc1
 clear hr1 hc1
 have HB := am_ (Below.refl w.heap.size w)
 have H := h
 clear h
 unfold spec_l7Enabled.f at H
 have H' := am_ H
 clear H
 go_enter Tryz.func58, Tryz.ntmps58
 go_wp2_with (first | ((with_reducible refine Sh.d 2 ?_); refine Sh.bz w (N := 2) (cs := #[.int .i64 a0_0, .int .i64 a0_1, .slice A0_2 l0_2.length c0_2, .slice A0_3 l0_3.length c0_3]) (t := 36) (h := ?_); clear HB; intro gb197 w3 BK197 GE197 HB; obtain ⟨hcz4_0, hcz4_1, hcz4_2, hcz4_3, hfz4_0, hfz4_1, hfz4_2, hfz4_3⟩ := Sh.b4 BK197.out))
 go_loopg [5, 11] k (fun kq v5 v11 w' => ∃ (x5_1 : List Int) (x11_1 : Int), v11 = .int .i64 x11_1 ∧ Aside0 (spec_l7Enabled.l0 kq l1 x5_1 l0_3 (l0_3.length : Int) x11_1 a0_0 a0_1 l0_2 l0_3 = some r) ∧ Aside0 (kq ≤ k) ∧ Aside0 (Kd.R (Kd.int .i64) 3 w' w.heap.size (fun _ => True) v5 x5_1) ∧ Aside0 (w'.heap[gb197]? = some (.cells #[.int .i64 a0_0, .int .i64 a0_1, (.slice A0_2 l0_2.length c0_2), (.slice A0_3 l0_3.length c0_3)] 36 (0, 0))) ∧ Aside0 (Below w.heap.size w w'))
 case atStart => exact ⟨(([] : List Int)), (0), (Sh.es), H', ⟨Nat.le_refl _⟩, ⟨by first | exact Kd.R_nil _ _ _ _ _ | exact Kd.N_nil _ _ _ _ _ | exact Kd.V_nil _ _ _ _ _ | exact Kd.Q_nil _ _ _ _ _ | exact Kd.S_nil _ _ _ _ _⟩, ⟨by refine Sh.pl ?_; exact BK197.out⟩, ⟨Sh.bw⟩⟩
 case round =>
  clear H'
  try clear hcz4_0
  try clear hcz4_1
  try clear hcz4_2
  try clear hcz4_3
  try clear hfz4_0
  try clear hfz4_1
  try clear hfz4_2
  try clear hfz4_3
  obtain ⟨x5_1, x11_1, rfl, HA, HK1, HO_5, BK197, HB⟩ := hrel
  cases gk with
  | zero => exact absurd HA.out (by simp [spec_l7Enabled.l0])
  | succ k1 =>
   have H := HA.out
   clear HA
   simp only [spec_l7Enabled.l0] at H
   by_cases c5 : x11_1 < (l0_3.length : Int)
   ·rw [if_pos c5] at H
    have c5b0 := decide_eq_true c5
    clear c5
    by_cases c6 : 0 ≤ x11_1
    ·rw [if_pos c6] at H
     have c6b0 := decide_eq_true c6
     clear c6
     by_cases c7 : x11_1 < (l0_3.length : Int)
     ·rw [if_pos c7] at H
      have c7b0 := decide_eq_true c7
      clear c7
      obtain ⟨t200, A8, H⟩ := Sh.ba H
      by_cases c9 : t200 = true
      ·subst c9
       rw [if_pos rfl] at H
       by_cases c10 : x5_1.length < 17592186044416
       ·rw [if_pos c10] at H
        have LMc10 := am_ c10
        clear c10
        obtain ⟨y201, hy201⟩ : ∃ y_ : List Int, y_ = (x5_1 ++ [x11_1]) := ⟨_, rfl⟩
        replace H : (spec_l7Enabled.l0 k1 l1 y201 l0_3 (l0_3.length : Int) (wrap64 (x11_1 + 1)) a0_0 a0_1 l0_2 l0_3) = some r := by first | (rw [hy201]; with_reducible exact H) | (have H2_ := (Option.bind_some _ _).symm.trans H; rw [hy201]; with_reducible exact H2_) | (have H2_ := (Option.bind_some _ _).symm.trans H; with_reducible exact H2_) | with_reducible exact H | (rw [hy201]; exact H) | exact H
        have Ny201 := am_ hy201
        clear hy201
        have H' := am_ H
        clear H
        have p198 : 0 ≤ (x11_1 : Int) := Sh.od
        have q198 : x11_1 < (l0_3.length : Int) := Sh.od
        obtain ⟨ad198, A198_0, c198_0, A198_1, c198_1, e198, hx198_0, hx198_1, hl198_0, hi198_0, hl198_1, hi198_1⟩ := at_T72 HR0_3.out x11_1 p198 q198
        cases e198
        try replace hx198_0 := Sh.cw hx198_0
        try replace hx198_1 := Sh.cw hx198_1
        have HR198_0 := am_ hi198_0
        have HC198_0 := am_ hl198_0
        clear hi198_0 hl198_0
        have HR198_1 := am_ hi198_1
        have HC198_1 := am_ hl198_1
        clear hi198_1 hl198_1
        replace p198 := eq_true p198
        replace q198 := eq_true q198
        go_wp2_with (first | ((with_reducible refine Sh.d 7 ?_); refine Sh.bx (N := 7) (cs := #[.slice none 0 0, .slice none 0 0]) (t := 72) (h := ?_); intro gb199 hg w11 hbox hb; replace HO_5 := am_ (Kd.R_below (Sh.rl HO_5.out) hb); have BK199 := am_ hbox; have GE199 := Sh.ag w hg; replace HB := Sh.hb hb; have NB197_199 := am_ (Sh.nl hg BK197.out); have NB199_197 := am_ (Sh.ng hg BK197.out); replace BK197 := Sh.ab BK197 hb; clear hb hbox hg; have hnb12 := NB199_197.out; have hnc12 := NB197_199.out; obtain ⟨hcz13_0, hcz13_1, hfz13_0, hfz13_1⟩ := Sh.b2 BK199.out; obtain ⟨hcz14_0, hcz14_1, hcz14_2, hcz14_3, hfz14_0, hfz14_1, hfz14_2, hfz14_3⟩ := Sh.b4 BK197.out) | ((with_reducible refine Sh.k 77 ?_); refine Sh.gB (some 20) Tryz.func77 #[.agg #[.int .i64 a0_0, .int .i64 a0_1, .slice A0_2 l0_2.length c0_2, .slice (some ad198) l0_3.length c0_3], .slice A198_0 ((rd_T72 l0_3 x11_1).f0).length c198_0, .slice A1 l1.length c1] (spec_l7Holds.calls k1 a0_0 a0_1 _ _ l0_2 _ _ l0_3 _ _ ((rd_T72 l0_3 x11_1).f0) _ _ l1 true _ (Sh.cB HR0_2.out) HC0_2.out (Sh.cB HR0_3.out) HC0_3.out (Sh.cB HR198_0.out) HC198_0.out (Sh.cB HR1.out) HC1.out A8.out) fun w15 hb => ?_; have n0_ := am_ (Kd.R_below (Sh.rl (Kd.R_mono (Kd.R_far (p := ⟨gb199, 1, none⟩) (Kd.R_far (p := ⟨gb199, 0, none⟩) (Kd.R_types HO_5.out BK199.out (by decide)) (fun _ hk => hk.2) (.slice A198_0 ((rd_T72 l0_3 x11_1).f0).length c198_0)) (fun _ hk => hk.2) (.slice A198_1 ((rd_T72 l0_3 x11_1).f1).length c198_1)) (fun _ h_ => h_.1))) hb); have n1_ := am_ (blk_below (g := gb197) (o := .cells #[.int .i64 a0_0, .int .i64 a0_1, .slice A0_2 l0_2.length c0_2, .slice (some ad198) l0_3.length c0_3] 36 (0, 0)) (by refine Sh.pl ?_; refine blk_far ?_ NB197_199.out _; refine Sh.pl ?_; refine blk_far ?_ NB197_199.out _; refine Sh.pl ?_; exact BK197.out) hb); have n2_ := am_ (blk_below (g := gb199) (o := .cells #[.slice A198_0 ((rd_T72 l0_3 x11_1).f0).length c198_0, .slice A198_1 ((rd_T72 l0_3 x11_1).f1).length c198_1] 72 (0, 0)) (by refine Sh.pl ?_; refine blk_put (cs := #[.slice A198_0 ((rd_T72 l0_3 x11_1).f0).length c198_0, .slice none 0 0]) ?_ 1 _ rfl; refine Sh.pl ?_; refine blk_put (cs := #[.slice none 0 0, .slice none 0 0]) ?_ 0 _ rfl; refine Sh.pl ?_; exact BK199.out) hb); have n3_ := am_ (below_step Sh.bw hb); clear HO_5; clear BK197; clear BK199; clear HB; have HO_5 := n0_; have BK197 := n1_; have BK199 := n2_; have HB := n3_; clear n0_ n1_ n2_ n3_; (try clear hb); (try clear hb2); (try clear hk); (try clear hi)) | ((with_reducible refine gate_builtin (b := .append) (xs := #[.tmp 21, .tmp 23]) rfl ?_); at_builtin; refine Kd.R_append (Kd.int .i64) (w0 := w) w.heap.size rfl (.tmp 21) (.tmp 23) 27 3 (.int .i64 0) 8 rfl Tryz.underlying27 info3 rfl (by decide) (by omega) u5 x5_1 x11_1 [.int .i64 x11_1] (fun _ => True) (fun _ => False) rfl rfl ?aP (fun _ hk => hk.elim) ?aF ?aO ?aB ?aS ?aL ?_; (case aP => exact rfl); (case aB => exact Sh.bw); (case aF => exact (fun _ _ => trivial)); (case aO => exact (Sh.rl HO_5.out)); (case aS => exact (below_size Sh.bw)); (case aL => have := LMc10.out; omega); intro v202 w16 ho hb hg hat; rw [← Ny201.out] at ho; have n0_ := am_ (blk_grown (g := gb197) (o := .cells #[.int .i64 a0_0, .int .i64 a0_1, .slice A0_2 l0_2.length c0_2, .slice (some ad198) l0_3.length c0_3] 36 (0, 0)) (Sh.pl BK197.out) hg (Kd.R_ne HO_5.out BK197.out (by decide))); have n1_ := am_ (blk_grown (g := gb199) (o := .cells #[.slice A198_0 ((rd_T72 l0_3 x11_1).f0).length c198_0, .slice A198_1 ((rd_T72 l0_3 x11_1).f1).length c198_1] 72 (0, 0)) (Sh.pl BK199.out) hg (Kd.R_ne HO_5.out BK199.out (by decide))); have n2_ := am_ hb; have n3_ := am_ ho; clear BK197; clear BK199; clear HB; clear HO_5; have BK197 := n0_; have BK199 := n1_; have HB := n2_; have HO203 := n3_; clear n0_ n1_ n2_ n3_; clear ho hb hg hat))
        go_roundg k1
        case measure => have := HK1.out; omega
        case rel => exact ⟨(y201), (wrap64 (x11_1 + 1)), (Sh.es), H', ⟨by have := HK1.out; omega⟩, ⟨Sh.rl HO203.out⟩, ⟨by refine Sh.pl ?_; exact BK197.out⟩, ⟨Sh.bw⟩⟩
       ·rw [if_neg c10] at H
        exact absurd H (by simp)
      ·replace c9 := Bool.eq_false_iff.mpr c9
       subst c9
       rw [Sh.nf] at H
       have H' := am_ H
       clear H
       have p198 : 0 ≤ (x11_1 : Int) := Sh.od
       have q198 : x11_1 < (l0_3.length : Int) := Sh.od
       obtain ⟨ad198, A198_0, c198_0, A198_1, c198_1, e198, hx198_0, hx198_1, hl198_0, hi198_0, hl198_1, hi198_1⟩ := at_T72 HR0_3.out x11_1 p198 q198
       cases e198
       try replace hx198_0 := Sh.cw hx198_0
       try replace hx198_1 := Sh.cw hx198_1
       have HR198_0 := am_ hi198_0
       have HC198_0 := am_ hl198_0
       clear hi198_0 hl198_0
       have HR198_1 := am_ hi198_1
       have HC198_1 := am_ hl198_1
       clear hi198_1 hl198_1
       replace p198 := eq_true p198
       replace q198 := eq_true q198
       go_wp2_with (first | ((with_reducible refine Sh.d 7 ?_); refine Sh.bx (N := 7) (cs := #[.slice none 0 0, .slice none 0 0]) (t := 72) (h := ?_); intro gb199 hg w17 hbox hb; replace HO_5 := am_ (Kd.R_below (Sh.rl HO_5.out) hb); have BK199 := am_ hbox; have GE199 := Sh.ag w hg; replace HB := Sh.hb hb; have NB197_199 := am_ (Sh.nl hg BK197.out); have NB199_197 := am_ (Sh.ng hg BK197.out); replace BK197 := Sh.ab BK197 hb; clear hb hbox hg; have hnb18 := NB199_197.out; have hnc18 := NB197_199.out; obtain ⟨hcz19_0, hcz19_1, hfz19_0, hfz19_1⟩ := Sh.b2 BK199.out; obtain ⟨hcz20_0, hcz20_1, hcz20_2, hcz20_3, hfz20_0, hfz20_1, hfz20_2, hfz20_3⟩ := Sh.b4 BK197.out) | ((with_reducible refine Sh.k 77 ?_); refine Sh.gB (some 20) Tryz.func77 #[.agg #[.int .i64 a0_0, .int .i64 a0_1, .slice A0_2 l0_2.length c0_2, .slice (some ad198) l0_3.length c0_3], .slice A198_0 ((rd_T72 l0_3 x11_1).f0).length c198_0, .slice A1 l1.length c1] (spec_l7Holds.calls k1 a0_0 a0_1 _ _ l0_2 _ _ l0_3 _ _ ((rd_T72 l0_3 x11_1).f0) _ _ l1 false _ (Sh.cB HR0_2.out) HC0_2.out (Sh.cB HR0_3.out) HC0_3.out (Sh.cB HR198_0.out) HC198_0.out (Sh.cB HR1.out) HC1.out A8.out) fun w21 hb => ?_; have n0_ := am_ (Kd.R_below (Sh.rl (Kd.R_mono (Kd.R_far (p := ⟨gb199, 1, none⟩) (Kd.R_far (p := ⟨gb199, 0, none⟩) (Kd.R_types HO_5.out BK199.out (by decide)) (fun _ hk => hk.2) (.slice A198_0 ((rd_T72 l0_3 x11_1).f0).length c198_0)) (fun _ hk => hk.2) (.slice A198_1 ((rd_T72 l0_3 x11_1).f1).length c198_1)) (fun _ h_ => h_.1))) hb); have n1_ := am_ (blk_below (g := gb197) (o := .cells #[.int .i64 a0_0, .int .i64 a0_1, .slice A0_2 l0_2.length c0_2, .slice (some ad198) l0_3.length c0_3] 36 (0, 0)) (by refine Sh.pl ?_; refine blk_far ?_ NB197_199.out _; refine Sh.pl ?_; refine blk_far ?_ NB197_199.out _; refine Sh.pl ?_; exact BK197.out) hb); have n2_ := am_ (blk_below (g := gb199) (o := .cells #[.slice A198_0 ((rd_T72 l0_3 x11_1).f0).length c198_0, .slice A198_1 ((rd_T72 l0_3 x11_1).f1).length c198_1] 72 (0, 0)) (by refine Sh.pl ?_; refine blk_put (cs := #[.slice A198_0 ((rd_T72 l0_3 x11_1).f0).length c198_0, .slice none 0 0]) ?_ 1 _ rfl; refine Sh.pl ?_; refine blk_put (cs := #[.slice none 0 0, .slice none 0 0]) ?_ 0 _ rfl; refine Sh.pl ?_; exact BK199.out) hb); have n3_ := am_ (below_step Sh.bw hb); clear HO_5; clear BK197; clear BK199; clear HB; have HO_5 := n0_; have BK197 := n1_; have BK199 := n2_; have HB := n3_; clear n0_ n1_ n2_ n3_; (try clear hb); (try clear hb2); (try clear hk); (try clear hi)))
       go_roundg k1
       case measure => have := HK1.out; omega
       case rel => exact ⟨(x5_1), (wrap64 (x11_1 + 1)), (Sh.es), H', ⟨by have := HK1.out; omega⟩, ⟨Sh.rl HO_5.out⟩, ⟨by refine Sh.pl ?_; exact BK197.out⟩, ⟨Sh.bw⟩⟩
     ·rw [if_neg c7] at H
      exact absurd H (by simp)
    ·rw [if_neg c6] at H
     exact absurd H (by simp)
   ·rw [if_neg c5] at H
    have c5b0 := decide_eq_false c5
    clear c5
    obtain rfl := Option.some.inj H
    go_wp2
    go_ret
    exact ⟨_, Sh.eR, Sh.rl HO_5.out, Sh.bw⟩
def spec_Enabled.f (k : Nat) (a0_0 : Int) (a0_1 : Int) (l0_2 : List (S80)) (l0_3 : List (S72)) (l1 : List Int) : Option (List Int × Bool) := (spec_GoodProgram.f k a0_0 a0_1 l0_2 l0_3).bind fun t205 => (if t205 = true then ((spec_l7State.f k a0_0 a0_1 l0_2 l0_3 l1).bind fun t206 => (if t206 = true then ((spec_l7Enabled.f k a0_0 a0_1 l0_2 l0_3 l1).bind fun t207 => (some (t207, true))) else (some (([] : List Int), false)))) else (some (([] : List Int), false)))
theorem spec_Enabled.mono : ∀ a0 a1 a2 a3 a4 k, LeO (spec_Enabled.f k a0 a1 a2 a3 a4) (spec_Enabled.f (k + 1) a0 a1 a2 a3 a4) := by
 intro a0 a1 a2 a3 a4 k
 unfold spec_Enabled.f
 repeat' with_reducible first | apply spec_GoodProgram.mono | apply spec_l7Enabled.mono | apply spec_l7State.mono | exact LeO.refl _ | exact LeO.none _ | apply LeO.ite | refine LeO.bind ?_ fun _ => ?_
theorem spec_Enabled.calls (k : Nat) (a0_0 : Int) (a0_1 : Int) (A0_2 : Option Addr) (c0_2 : Nat) (l0_2 : List (S80)) (A0_3 : Option Addr) (c0_3 : Nat) (l0_3 : List (S72)) (A1 : Option Addr) (c1 : Nat) (l1 : List Int) (r1 : List Int) (r2 : Bool) (w : World) (hr0_2 : Kd.C k80 w A0_2 l0_2.length l0_2) (hc0_2 : l0_2.length ≤ c0_2) (hr0_3 : Kd.C k72 w A0_3 l0_3.length l0_3) (hc0_3 : l0_3.length ≤ c0_3) (hr1 : Kd.C (Kd.int .u64) w A1 l1.length l1) (hc1 : l1.length ≤ c1) (h : spec_Enabled.f k a0_0 a0_1 l0_2 l0_3 l1 = some (r1, r2)) :
  Calls Tryz.prog 42 #[.agg #[.int .i64 a0_0, .int .i64 a0_1, .slice A0_2 l0_2.length c0_2, .slice A0_3 l0_3.length c0_3], .slice A1 l1.length c1] w fun e w' => ∃ v0_ : Value, e = .returned (.tuple #[v0_, .bool r2]) ∧ Kd.R (Kd.int .i64) 3 w' w.heap.size (fun _ => True) v0_ r1 ∧ Below w.heap.size w w' := by
 have hu36 := Tryz.underlying36
 have HR0_2 := am_ hr0_2
 have HC0_2 := am_ hc0_2
 clear hr0_2 hc0_2
 have HR0_3 := am_ hr0_3
 have HC0_3 := am_ hc0_3
 clear hr0_3 hc0_3
 have HR1 := am_ hr1
 have HC1 := am_ hc1
 clear hr1 hc1
 have HB := am_ (Below.refl w.heap.size w)
 have H := h
 clear h
 unfold spec_Enabled.f at H
 obtain ⟨t205, A3, H⟩ := Sh.ba H
 by_cases c4 : t205 = true
 ·subst c4
  rw [if_pos rfl] at H
  obtain ⟨t206, A5, H⟩ := Sh.ba H
  by_cases c6 : t206 = true
  ·subst c6
   rw [if_pos rfl] at H
   obtain ⟨t207, A7, H⟩ := Sh.ba H
   simp only [Option.some.injEq, Prod.mk.injEq] at H
   obtain ⟨rfl, rfl⟩ := H
   go_enter Tryz.func42, Tryz.ntmps42
   go_wp2_with (first | ((with_reducible refine Sh.d 2 ?_); refine Sh.bz w (N := 2) (cs := #[.int .i64 a0_0, .int .i64 a0_1, .slice A0_2 l0_2.length c0_2, .slice A0_3 l0_3.length c0_3]) (t := 36) (h := ?_); clear HB; intro gb204 w8 BK204 GE204 HB; obtain ⟨hcz9_0, hcz9_1, hcz9_2, hcz9_3, hfz9_0, hfz9_1, hfz9_2, hfz9_3⟩ := Sh.b4 BK204.out) | ((with_reducible refine Sh.k 24 ?_); refine Sh.gB (some 7) Tryz.func24 #[.agg #[.int .i64 a0_0, .int .i64 a0_1, .slice A0_2 l0_2.length c0_2, .slice A0_3 l0_3.length c0_3]] (spec_GoodProgram.calls k a0_0 a0_1 _ _ l0_2 _ _ l0_3 true _ (Sh.cB HR0_2.out) HC0_2.out (Sh.cB HR0_3.out) HC0_3.out A3.out) fun w10 hb => ?_; replace BK204 := Sh.ab BK204 hb; replace HB := Sh.hb hb; (try clear hb); (try clear hb2); (try clear hk); (try clear hi); obtain ⟨hcz11_0, hcz11_1, hcz11_2, hcz11_3, hfz11_0, hfz11_1, hfz11_2, hfz11_3⟩ := Sh.b4 BK204.out) | (go_at_call 25; (with_reducible refine (spec_l7State.calls k a0_0 a0_1 _ _ l0_2 _ _ l0_3 _ _ l1 true _ (Sh.cB HR0_2.out) HC0_2.out (Sh.cB HR0_3.out) HC0_3.out (Sh.cB HR1.out) HC1.out A5.out).mono ?_); rintro e w12 ⟨rfl, hb⟩; replace BK204 := Sh.ab BK204 hb; replace HB := Sh.hb hb; (try clear hb); (try clear hb2); (try clear hk); (try clear hi); obtain ⟨hcz13_0, hcz13_1, hcz13_2, hcz13_3, hfz13_0, hfz13_1, hfz13_2, hfz13_3⟩ := Sh.b4 BK204.out) | ((with_reducible refine Sh.k 58 ?_); refine Sh.gL (some 17) Tryz.func58 #[.agg #[.int .i64 a0_0, .int .i64 a0_1, .slice A0_2 l0_2.length c0_2, .slice A0_3 l0_3.length c0_3], .slice A1 l1.length c1] (h := ?_); (with_reducible refine (spec_l7Enabled.calls k a0_0 a0_1 _ _ l0_2 _ _ l0_3 _ _ l1 t207 _ (Sh.cB HR0_2.out) HC0_2.out (Sh.cB HR0_3.out) HC0_3.out (Sh.cB HR1.out) HC1.out A7.out).mono ?_); rintro e w14 ⟨v208, rfl, ho0, hb⟩; refine ⟨_, rfl, ?_⟩; have HO209 := am_ (Kd.R_lower ho0 (below_size Sh.bw)); replace BK204 := Sh.ab BK204 hb; replace HB := Sh.hb hb; (try clear hb); (try clear hb2); (try clear hk); (try clear hi); (try clear ho0)))
   go_ret2
   exact ⟨_, Sh.eR, Sh.rl HO209.out, Sh.bw⟩
  ·replace c6 := Bool.eq_false_iff.mpr c6
   subst c6
   rw [Sh.nf] at H
   simp only [Option.some.injEq, Prod.mk.injEq] at H
   obtain ⟨rfl, rfl⟩ := H
   go_enter Tryz.func42, Tryz.ntmps42
   go_wp2_with (first | ((with_reducible refine Sh.d 2 ?_); refine Sh.bz w (N := 2) (cs := #[.int .i64 a0_0, .int .i64 a0_1, .slice A0_2 l0_2.length c0_2, .slice A0_3 l0_3.length c0_3]) (t := 36) (h := ?_); clear HB; intro gb204 w15 BK204 GE204 HB; obtain ⟨hcz16_0, hcz16_1, hcz16_2, hcz16_3, hfz16_0, hfz16_1, hfz16_2, hfz16_3⟩ := Sh.b4 BK204.out) | ((with_reducible refine Sh.k 24 ?_); refine Sh.gB (some 7) Tryz.func24 #[.agg #[.int .i64 a0_0, .int .i64 a0_1, .slice A0_2 l0_2.length c0_2, .slice A0_3 l0_3.length c0_3]] (spec_GoodProgram.calls k a0_0 a0_1 _ _ l0_2 _ _ l0_3 true _ (Sh.cB HR0_2.out) HC0_2.out (Sh.cB HR0_3.out) HC0_3.out A3.out) fun w17 hb => ?_; replace BK204 := Sh.ab BK204 hb; replace HB := Sh.hb hb; (try clear hb); (try clear hb2); (try clear hk); (try clear hi); obtain ⟨hcz18_0, hcz18_1, hcz18_2, hcz18_3, hfz18_0, hfz18_1, hfz18_2, hfz18_3⟩ := Sh.b4 BK204.out) | (go_at_call 25; (with_reducible refine (spec_l7State.calls k a0_0 a0_1 _ _ l0_2 _ _ l0_3 _ _ l1 false _ (Sh.cB HR0_2.out) HC0_2.out (Sh.cB HR0_3.out) HC0_3.out (Sh.cB HR1.out) HC1.out A5.out).mono ?_); rintro e w19 ⟨rfl, hb⟩; replace BK204 := Sh.ab BK204 hb; replace HB := Sh.hb hb; (try clear hb); (try clear hb2); (try clear hk); (try clear hi)))
   go_ret2
   exact ⟨_, Sh.eR, by first | exact Kd.R_nil _ _ _ _ _ | exact Kd.N_nil _ _ _ _ _ | exact Kd.V_nil _ _ _ _ _ | exact Kd.Q_nil _ _ _ _ _ | exact Kd.S_nil _ _ _ _ _, Sh.bw⟩
 ·replace c4 := Bool.eq_false_iff.mpr c4
  subst c4
  rw [Sh.nf] at H
  simp only [Option.some.injEq, Prod.mk.injEq] at H
  obtain ⟨rfl, rfl⟩ := H
  go_enter Tryz.func42, Tryz.ntmps42
  go_wp2_with (first | ((with_reducible refine Sh.d 2 ?_); refine Sh.bz w (N := 2) (cs := #[.int .i64 a0_0, .int .i64 a0_1, .slice A0_2 l0_2.length c0_2, .slice A0_3 l0_3.length c0_3]) (t := 36) (h := ?_); clear HB; intro gb204 w20 BK204 GE204 HB; obtain ⟨hcz21_0, hcz21_1, hcz21_2, hcz21_3, hfz21_0, hfz21_1, hfz21_2, hfz21_3⟩ := Sh.b4 BK204.out) | ((with_reducible refine Sh.k 24 ?_); refine Sh.gB (some 7) Tryz.func24 #[.agg #[.int .i64 a0_0, .int .i64 a0_1, .slice A0_2 l0_2.length c0_2, .slice A0_3 l0_3.length c0_3]] (spec_GoodProgram.calls k a0_0 a0_1 _ _ l0_2 _ _ l0_3 false _ (Sh.cB HR0_2.out) HC0_2.out (Sh.cB HR0_3.out) HC0_3.out A3.out) fun w22 hb => ?_; replace BK204 := Sh.ab BK204 hb; replace HB := Sh.hb hb; (try clear hb); (try clear hb2); (try clear hk); (try clear hi)))
  go_ret2
  exact ⟨_, Sh.eR, by first | exact Kd.R_nil _ _ _ _ _ | exact Kd.N_nil _ _ _ _ _ | exact Kd.V_nil _ _ _ _ _ | exact Kd.Q_nil _ _ _ _ _ | exact Kd.S_nil _ _ _ _ _, Sh.bw⟩
def spec_l1Has.l0 : Nat → Int → List Int → Int → Int → Option (Bool)
 | 0, _, _, _, _ => none
 | k + 1, x1, x7, x8, x9 => if x9 < x8 then (if 0 ≤ x9 then (if x9 < (x7.length : Int) then (if (rd x7 x9) = x1 then (some true) else (spec_l1Has.l0 k x1 x7 x8 (wrap64 (x9 + 1)))) else (none)) else (none)) else (some false)
def spec_l1Has.f (k : Nat) (l0 : List Int) (a1 : Int) : Option (Bool) := spec_l1Has.l0 k a1 l0 (l0.length : Int) 0
theorem spec_l1Has.mono_l : ∀ k, (∀ y0 y1 y2 y3, LeO (spec_l1Has.l0 k y0 y1 y2 y3) (spec_l1Has.l0 (k + 1) y0 y1 y2 y3))
 | 0 => fun _ _ _ _ r h => by simp [spec_l1Has.l0] at h
 | k + 1 => by
  have ih0 := spec_l1Has.mono_l k
  ·intro y0 y1 y2 y3
   unfold spec_l1Has.l0
   repeat' with_reducible first | apply ih0 | exact LeO.refl _ | exact LeO.none _ | apply LeO.ite | refine LeO.bind ?_ fun _ => ?_
theorem spec_l1Has.mono : ∀ a0 a1 k, LeO (spec_l1Has.f k a0 a1) (spec_l1Has.f (k + 1) a0 a1) := by
 intro a0 a1 k
 have ih0 := spec_l1Has.mono_l k
 unfold spec_l1Has.f
 repeat' with_reducible first | apply ih0 | exact LeO.refl _ | exact LeO.none _ | apply LeO.ite | refine LeO.bind ?_ fun _ => ?_
theorem spec_l1Has.calls (k : Nat) (A0 : Option Addr) (c0 : Nat) (l0 : List Int) (a1 : Int) (r : Bool) (w : World) (hr0 : Kd.C (Kd.int .i64) w A0 l0.length l0) (hc0 : l0.length ≤ c0) (h : spec_l1Has.f k l0 a1 = some r) :
  Calls Tryz.prog 43 #[.slice A0 l0.length c0, .int .i64 a1] w fun e w' => e = .returned (.bool r) ∧ Drawn0 w w' := by
 have HR0 := am_ hr0
 have HC0 := am_ hc0
 clear hr0 hc0
 have H := h
 clear h
 unfold spec_l1Has.f at H
 have H' := am_ H
 clear H
 go_enter Tryz.func43, Tryz.ntmps43
 go_wp2
 go_loopg [9] k (fun kq v9 w' => ∃ (x9_1 : Int), v9 = .int .i64 x9_1 ∧ Aside0 (spec_l1Has.l0 kq a1 l0 (l0.length : Int) x9_1 = some r) ∧ Aside0 (kq ≤ k) ∧ Drawn0 w w')
 case atStart => exact ⟨(0), (Sh.es), H', ⟨Nat.le_refl _⟩, Sh.dr⟩
 case round =>
  clear H'
  obtain ⟨x9_1, rfl, HA, HK1, ⟨m1, rfl⟩⟩ := hrel
  cases gk with
  | zero => exact absurd HA.out (by simp [spec_l1Has.l0])
  | succ k1 =>
   have H := HA.out
   clear HA
   simp only [spec_l1Has.l0] at H
   by_cases c3 : x9_1 < (l0.length : Int)
   ·rw [if_pos c3] at H
    have c3b0 := decide_eq_true c3
    clear c3
    by_cases c4 : 0 ≤ x9_1
    ·rw [if_pos c4] at H
     have c4b0 := decide_eq_true c4
     clear c4
     by_cases c5 : x9_1 < (l0.length : Int)
     ·rw [if_pos c5] at H
      have c5b0 := decide_eq_true c5
      clear c5
      by_cases c6 : (rd l0 x9_1) = a1
      ·rw [if_pos c6] at H
       have c6b0 : ((rd l0 x9_1) == a1) = true := beq_iff_eq.mpr c6
       have c6b1 : ((rd l0 x9_1) != a1) = false := bne_eq_false_iff_eq.mpr c6
       clear c6
       obtain rfl := Option.some.inj H
       have p210 : 0 ≤ (x9_1 : Int) := Sh.od
       have q210 : x9_1 < (l0.length : Int) := Sh.od
       obtain ⟨ad210, e210, hx210_0⟩ := Kd.at_int HR0.out x9_1 p210 q210
       cases e210
       replace p210 := eq_true p210
       replace q210 := eq_true q210
       go_wp2
       go_ret
       exact ⟨Sh.es, Sh.dr⟩
      ·rw [if_neg c6] at H
       have c6b0 : ((rd l0 x9_1) == a1) = false := beq_eq_false_iff_ne.mpr c6
       have c6b1 : ((rd l0 x9_1) != a1) = true := bne_iff_ne.mpr c6
       have H' := am_ H
       clear H
       have p210 : 0 ≤ (x9_1 : Int) := Sh.od
       have q210 : x9_1 < (l0.length : Int) := Sh.od
       obtain ⟨ad210, e210, hx210_0⟩ := Kd.at_int HR0.out x9_1 p210 q210
       cases e210
       replace p210 := eq_true p210
       replace q210 := eq_true q210
       go_wp2
       go_roundg k1
       case measure => have := HK1.out; omega
       case rel => exact ⟨(wrap64 (x9_1 + 1)), (Sh.es), H', ⟨by have := HK1.out; omega⟩, Sh.dr⟩
     ·rw [if_neg c5] at H
      exact absurd H (by simp)
    ·rw [if_neg c4] at H
     exact absurd H (by simp)
   ·rw [if_neg c3] at H
    have c3b0 := decide_eq_false c3
    clear c3
    obtain rfl := Option.some.inj H
    go_wp2
    go_ret
    exact ⟨Sh.es, Sh.dr⟩
def spec_l7Do.l0 : Nat → List Int → List Int → List (S94) → Int → Int → Int → Int → List (S80) → List (S72) → Option (List Int)
 | 0, _, _, _, _, _, _, _, _, _ => none
 | k + 1, x1, x7, x18, x19, x20, x212000, x212001, x212002, x212003 => if x20 < x19 then (if 0 ≤ x20 then (if x20 < (x18.length : Int) then ((spec_l2Value.f k x212000 ((rd_T94 x18 x20).f1) (wrap64 ((((rd_T94 x18 x20).f1).length : Int) - 1)) x1).bind fun t221 => (if 0 ≤ ((rd_T94 x18 x20).f0) then (if ((rd_T94 x18 x20).f0) < (x7.length : Int) then (spec_l7Do.l0 k x1 (x7.set (((rd_T94 x18 x20).f0) : Int).toNat t221) x18 x19 (wrap64 (x20 + 1)) x212000 x212001 x212002 x212003) else (none)) else (none))) else (none)) else (none)) else (some x7)
def spec_l7Do.f (k : Nat) (a0_0 : Int) (a0_1 : Int) (l0_2 : List (S80)) (l0_3 : List (S72)) (l1 : List Int) (a2 : Int) : Option (List Int) := (some (([] : List Int) : List Int)).bind fun y212 => (if y212.length + l1.length < 17592186044416 then (if 0 ≤ a2 then (if a2 < (l0_3.length : Int) then (spec_l7Do.l0 k l1 (y212 ++ l1) ((rd_T72 l0_3 a2).f1) (((rd_T72 l0_3 a2).f1).length : Int) 0 a0_0 a0_1 l0_2 l0_3) else (none)) else (none)) else (none))
theorem spec_l7Do.mono_l : ∀ k, (∀ y0 y1 y2 y3 y4 y5 y6 y7 y8, LeO (spec_l7Do.l0 k y0 y1 y2 y3 y4 y5 y6 y7 y8) (spec_l7Do.l0 (k + 1) y0 y1 y2 y3 y4 y5 y6 y7 y8))
 | 0 => fun _ _ _ _ _ _ _ _ _ r h => by simp [spec_l7Do.l0] at h
 | k + 1 => by
  have ih0 := spec_l7Do.mono_l k
  ·intro y0 y1 y2 y3 y4 y5 y6 y7 y8
   unfold spec_l7Do.l0
   repeat' with_reducible first | apply ih0 | apply spec_l2Value.mono | exact LeO.refl _ | exact LeO.none _ | apply LeO.ite | refine LeO.bind ?_ fun _ => ?_
theorem spec_l7Do.mono : ∀ a0 a1 a2 a3 a4 a5 k, LeO (spec_l7Do.f k a0 a1 a2 a3 a4 a5) (spec_l7Do.f (k + 1) a0 a1 a2 a3 a4 a5) := by
 intro a0 a1 a2 a3 a4 a5 k
 have ih0 := spec_l7Do.mono_l k
 unfold spec_l7Do.f
 repeat' with_reducible first | apply ih0 | apply spec_l2Value.mono | exact LeO.refl _ | exact LeO.none _ | apply LeO.ite | refine LeO.bind ?_ fun _ => ?_
def spec_l7Do.T5 : Bool × List (List Nat × List Nat) := (true, [([], []), ([], []), ([1], [1]), ([], []), ([3], [3]), ([], []), ([5], [5]), ([], []), ([7], [7]), ([8], [8]), ([9], [9]), ([], []), ([4, 6, 10, 11], [4, 6, 10, 11]), ([0, 2, 0, 1, 2, 3, 4, 5, 6, 7, 8, 9, 10, 11, 12], [0, 2]), ([13, 12, 12, 0, 1, 2, 3, 4, 5, 6, 7, 8, 9, 10, 11, 12], [12, 13])])
def spec_l7Do.B5 : List Nat := [0, 0, 2, 0, 8, 0, 32, 0, 128, 384, 896, 0, 4088, 8191, 16383]
theorem spec_l7Do.tab5 : rtab .any (opsOf Tryz.f44 5) = spec_l7Do.T5 := by kernel_rfl
theorem spec_l7Do.bits5 : waitsOk spec_l7Do.T5.2 spec_l7Do.B5 = true := by kernel_rfl
theorem spec_l7Do.calls (k : Nat) (a0_0 : Int) (a0_1 : Int) (A0_2 : Option Addr) (c0_2 : Nat) (l0_2 : List (S80)) (A0_3 : Option Addr) (c0_3 : Nat) (l0_3 : List (S72)) (A1 : Option Addr) (c1 : Nat) (l1 : List Int) (a2 : Int) (r : List Int) (w : World) (hr0_2 : Kd.C k80 w A0_2 l0_2.length l0_2) (hc0_2 : l0_2.length ≤ c0_2) (hr0_3 : Kd.C k72 w A0_3 l0_3.length l0_3) (hc0_3 : l0_3.length ≤ c0_3) (hr1 : Kd.C (Kd.int .u64) w A1 l1.length l1) (hc1 : l1.length ≤ c1) (h : spec_l7Do.f k a0_0 a0_1 l0_2 l0_3 l1 a2 = some r) :
  Calls Tryz.prog 44 #[.agg #[.int .i64 a0_0, .int .i64 a0_1, .slice A0_2 l0_2.length c0_2, .slice A0_3 l0_3.length c0_3], .slice A1 l1.length c1, .int .i64 a2] w fun e w' => ∃ v0_ : Value, e = .returned (v0_) ∧ Kd.R (Kd.int .u64) 59 w' w.heap.size (fun _ => True) v0_ r ∧ Below w.heap.size w w' := by
 have hu36 := Tryz.underlying36
 have hu94 := Tryz.underlying94
 have HR0_2 := am_ hr0_2
 have HC0_2 := am_ hc0_2
 clear hr0_2 hc0_2
 have HR0_3 := am_ hr0_3
 have HC0_3 := am_ hc0_3
 clear hr0_3 hc0_3
 have HR1 := am_ hr1
 have HC1 := am_ hc1
 clear hr1 hc1
 have HB := am_ (Below.refl w.heap.size w)
 have H := h
 clear h
 unfold spec_l7Do.f at H
 obtain ⟨y212, hy212⟩ : ∃ y_ : List Int, y_ = (([] : List Int)) := ⟨_, rfl⟩
 replace H : (if y212.length + l1.length < 17592186044416 then (if 0 ≤ a2 then (if a2 < (l0_3.length : Int) then (spec_l7Do.l0 k l1 (y212 ++ l1) ((rd_T72 l0_3 a2).f1) (((rd_T72 l0_3 a2).f1).length : Int) 0 a0_0 a0_1 l0_2 l0_3) else (none)) else (none)) else (none)) = some r := by first | (rw [hy212]; with_reducible exact H) | (have H2_ := (Option.bind_some _ _).symm.trans H; rw [hy212]; with_reducible exact H2_) | (have H2_ := (Option.bind_some _ _).symm.trans H; with_reducible exact H2_) | with_reducible exact H | (rw [hy212]; exact H) | exact H
 have Ny212 := am_ hy212
 clear hy212
 by_cases c4 : y212.length + l1.length < 17592186044416
 ·rw [if_pos c4] at H
  have LMc4 := am_ c4
  clear c4
  obtain ⟨y215, hy215⟩ : ∃ y_ : List Int, y_ = (y212 ++ l1) := ⟨_, rfl⟩
  replace H : (if 0 ≤ a2 then (if a2 < (l0_3.length : Int) then (spec_l7Do.l0 k l1 y215 ((rd_T72 l0_3 a2).f1) (((rd_T72 l0_3 a2).f1).length : Int) 0 a0_0 a0_1 l0_2 l0_3) else (none)) else (none)) = some r := by first | (rw [hy215]; with_reducible exact H) | (have H2_ := (Option.bind_some _ _).symm.trans H; rw [hy215]; with_reducible exact H2_) | (have H2_ := (Option.bind_some _ _).symm.trans H; with_reducible exact H2_) | with_reducible exact H | (rw [hy215]; exact H) | exact H
  have Ny215 := am_ hy215
  clear hy215
  by_cases c5 : 0 ≤ a2
  ·rw [if_pos c5] at H
   have c5b0 := decide_eq_true c5
   clear c5
   by_cases c6 : a2 < (l0_3.length : Int)
   ·rw [if_pos c6] at H
    have c6b0 := decide_eq_true c6
    clear c6
    have H' := am_ H
    clear H
    go_enter Tryz.func44, Tryz.ntmps44
    go_wp2_with (first | ((with_reducible refine Sh.d 3 ?_); refine Sh.bz w (N := 3) (cs := #[.int .i64 a0_0, .int .i64 a0_1, .slice A0_2 l0_2.length c0_2, .slice A0_3 l0_3.length c0_3]) (t := 36) (h := ?_); clear HB; intro gb211 w7 BK211 GE211 HB) | ((with_reducible refine Sh.d 10 ?_); refine Kd.R_lit (Kd.int .u64) _ 59 ?hg (N := 10) ?hd (xs := ([] : List Int)) (inner := []) (ok := fun _ => True) (okp := fun _ => True) ?hr ?hp (fun _ hk => hk) trivial (Below.refl _ _) (Nat.le_refl _) (by simp) ?_; (case hd => rfl); (case hg => rfl); (case hr => first | (go_simp; done) | (go_simp; rfl)); (case hp => exact (Reps.none _ _)); intro v213 w8 ho9 hb hg_ hnew_; clear hg_ hnew_; (first | rw [← Ny212.out] at ho9 | (simp only [Int.reduceToNat] at ho9; rw [← Ny212.out] at ho9)); have HO214 := am_ (Kd.R_lower ho9 (below_size Sh.bw)); replace BK211 := Sh.ab BK211 hb; replace HB := Sh.hb hb; clear hb ho9) | ((with_reducible refine gate_builtin (b := .append) (xs := #[.tmp 10, .tmp 11]) rfl ?_); at_builtin; refine Kd.R_append_rows (Kd.int .u64) (w0 := w) w.heap.size rfl (.tmp 10) (.tmp 11) 26 59 (.int .u64 0) 8 rfl Tryz.underlying26 info59 rfl (by decide) (by omega) v213 y212 l1 _ _ _ (fun _ => True) (fun _ => False) rfl rfl ?aO ?aR (fun _ _ h => h) (fun _ h => h.elim) ?aF ?aB ?aS ?aL ?_; (case aR => repeat (first | exact (Kd.C_below HR1.out HB.out) | (with_reducible first | refine Kd.C_alloc ?_ _ | refine Kd.C_drewN ?_ _ | refine Kd.C_drew ?_))); (case aB => exact Sh.bw); (case aF => exact (fun _ _ => trivial)); (case aO => exact (Sh.rl HO214.out)); (case aS => exact (below_size Sh.bw)); (case aL => have := LMc4.out; omega); intro v216 w10 ho hb hg hat; rw [← Ny215.out] at ho; have n0_ := am_ (blk_grown (g := gb211) (o := .cells #[.int .i64 a0_0, .int .i64 a0_1, .slice A0_2 l0_2.length c0_2, .slice A0_3 l0_3.length c0_3] 36 (0, 0)) (Sh.pl BK211.out) hg (Kd.R_ne HO214.out BK211.out (by decide))); have n1_ := am_ hb; have n2_ := am_ ho; clear BK211; clear HB; clear HO214; have BK211 := n0_; have HB := n1_; have HO217 := n2_; clear n0_ n1_ n2_; clear ho hb hg hat; obtain ⟨hcz11_0, hcz11_1, hcz11_2, hcz11_3, hfz11_0, hfz11_1, hfz11_2, hfz11_3⟩ := Sh.b4 BK211.out; have p218 : 0 ≤ (a2 : Int) := Sh.od; have q218 : a2 < (l0_3.length : Int) := Sh.od; obtain ⟨ad218, A218_0, c218_0, A218_1, c218_1, e218, hx218_0, hx218_1, hl218_0, hi218_0, hl218_1, hi218_1⟩ := at_T72 HR0_3.out a2 p218 q218; cases e218; replace hx218_0 := (HB.out.cell (World.block_lt_of_cell? w _ hx218_0)).trans hx218_0; replace hx218_1 := (HB.out.cell (World.block_lt_of_cell? w _ hx218_1)).trans hx218_1; have HR218_0 := am_ hi218_0; have HC218_0 := am_ hl218_0; clear hi218_0 hl218_0; have HR218_1 := am_ hi218_1; have HC218_1 := am_ hl218_1; clear hi218_1 hl218_1; replace p218 := eq_true p218; replace q218 := eq_true q218))
    go_loopg [20] k (fun kq v20 w' => ∃ (x7_1 : List Int) (x20_1 : Int), v20 = .int .i64 x20_1 ∧ Aside0 (spec_l7Do.l0 kq l1 x7_1 ((rd_T72 l0_3 a2).f1) (((rd_T72 l0_3 a2).f1).length : Int) x20_1 a0_0 a0_1 l0_2 l0_3 = some r) ∧ Aside0 (kq ≤ k) ∧ Aside0 (Kd.R (Kd.int .u64) 59 w' w.heap.size (fun _ => True) v216 x7_1) ∧ Aside0 (w'.heap[gb211]? = some (.cells #[.int .i64 a0_0, .int .i64 a0_1, (.slice A0_2 l0_2.length c0_2), (.slice (some ad218) l0_3.length c0_3)] 36 (0, 0))) ∧ Aside0 (Below w.heap.size w w'))
    case atStart => exact ⟨(y215), (0), (Sh.es), H', ⟨Nat.le_refl _⟩, ⟨Sh.rl HO217.out⟩, ⟨by refine Sh.pl ?_; exact BK211.out⟩, ⟨Sh.bw⟩⟩
    case round =>
     clear H'
     try clear hx2
     try clear hcz11_0
     try clear hcz11_1
     try clear hcz11_2
     try clear hcz11_3
     try clear hfz11_0
     try clear hfz11_1
     try clear hfz11_2
     try clear hfz11_3
     try clear hx218_0
     try clear hx218_1
     obtain ⟨x7_1, x20_1, rfl, HA, HK1, HO_7, BK211, HB⟩ := hrel
     cases gk with
     | zero => exact absurd HA.out (by simp [spec_l7Do.l0])
     | succ k1 =>
      have H := HA.out
      clear HA
      simp only [spec_l7Do.l0] at H
      by_cases c12 : x20_1 < (((rd_T72 l0_3 a2).f1).length : Int)
      ·rw [if_pos c12] at H
       have c12b0 := decide_eq_true c12
       clear c12
       by_cases c13 : 0 ≤ x20_1
       ·rw [if_pos c13] at H
        have c13b0 := decide_eq_true c13
        clear c13
        by_cases c14 : x20_1 < (((rd_T72 l0_3 a2).f1).length : Int)
        ·rw [if_pos c14] at H
         have c14b0 := decide_eq_true c14
         clear c14
         obtain ⟨t221, A15, H⟩ := Sh.ba H
         by_cases c16 : 0 ≤ ((rd_T94 ((rd_T72 l0_3 a2).f1) x20_1).f0)
         ·rw [if_pos c16] at H
          have c16b0 := decide_eq_true c16
          clear c16
          by_cases c17 : ((rd_T94 ((rd_T72 l0_3 a2).f1) x20_1).f0) < (x7_1.length : Int)
          ·rw [if_pos c17] at H
           have c17b0 := decide_eq_true c17
           clear c17
           obtain ⟨y222, hy222⟩ : ∃ y_ : List Int, y_ = (x7_1.set (((rd_T94 ((rd_T72 l0_3 a2).f1) x20_1).f0) : Int).toNat t221) := ⟨_, rfl⟩
           replace H : (spec_l7Do.l0 k1 l1 y222 ((rd_T72 l0_3 a2).f1) (((rd_T72 l0_3 a2).f1).length : Int) (wrap64 (x20_1 + 1)) a0_0 a0_1 l0_2 l0_3) = some r := by first | (rw [hy222]; with_reducible exact H) | (have H2_ := (Option.bind_some _ _).symm.trans H; rw [hy222]; with_reducible exact H2_) | (have H2_ := (Option.bind_some _ _).symm.trans H; with_reducible exact H2_) | with_reducible exact H | (rw [hy222]; exact H) | exact H
           have Ny222 := am_ hy222
           clear hy222
           have H' := am_ H
           clear H
           have p219 : 0 ≤ (x20_1 : Int) := Sh.od
           have q219 : x20_1 < (((rd_T72 l0_3 a2).f1).length : Int) := Sh.od
           obtain ⟨ad219, A219_1, c219_1, e219, hx219_0, hx219_1, hl219_1, hi219_1⟩ := at_T94 HR218_1.out x20_1 p219 q219
           cases e219
           try replace hx219_0 := Sh.cw hx219_0
           try replace hx219_1 := Sh.cw hx219_1
           have HR219_1 := am_ hi219_1
           have HC219_1 := am_ hl219_1
           clear hi219_1 hl219_1
           replace p219 := eq_true p219
           replace q219 := eq_true q219
           try go_wp2_with (first | ((with_reducible refine Sh.d 9 ?_); refine Sh.bx (N := 9) (cs := #[.int .i64 0, .slice none 0 0]) (t := 94) (h := ?_); intro gb220 hg w19 hbox hb; replace HO_7 := am_ (Kd.R_below (Sh.rl HO_7.out) hb); have BK220 := am_ hbox; have GE220 := Sh.ag w hg; replace HB := Sh.hb hb; have NB211_220 := am_ (Sh.nl hg BK211.out); have NB220_211 := am_ (Sh.ng hg BK211.out); replace BK211 := Sh.ab BK211 hb; clear hb hbox hg; have hnb20 := NB220_211.out; have hnc20 := NB211_220.out; obtain ⟨hcz21_0, hcz21_1, hfz21_0, hfz21_1⟩ := Sh.b2 BK220.out))
           have n0_ : Aside0 (Kd.R (Kd.int .u64) 59 ((w19.setCell ⟨gb220, 0, none⟩ (.int .i64 ((rd_T94 ((rd_T72 l0_3 a2).f1) x20_1).f0))).setCell ⟨gb220, 1, none⟩ (.slice A219_1 ((rd_T94 ((rd_T72 l0_3 a2).f1) x20_1).f1).length c219_1)) w.heap.size (fun _ => True) v216 x7_1) := ⟨Sh.rl (Kd.R_mono (Kd.R_far (p := ⟨gb220, 1, none⟩) (Kd.R_far (p := ⟨gb220, 0, none⟩) (Kd.R_types HO_7.out BK220.out (by decide)) (fun _ hk => hk.2) (.int .i64 ((rd_T94 ((rd_T72 l0_3 a2).f1) x20_1).f0))) (fun _ hk => hk.2) (.slice A219_1 ((rd_T94 ((rd_T72 l0_3 a2).f1) x20_1).f1).length c219_1)) (fun _ hk => trivial))⟩
           have n1_ : Aside0 (((w19.setCell ⟨gb220, 0, none⟩ (.int .i64 ((rd_T94 ((rd_T72 l0_3 a2).f1) x20_1).f0))).setCell ⟨gb220, 1, none⟩ (.slice A219_1 ((rd_T94 ((rd_T72 l0_3 a2).f1) x20_1).f1).length c219_1)).heap[gb211]? = some (.cells #[.int .i64 a0_0, .int .i64 a0_1, .slice A0_2 l0_2.length c0_2, .slice (some ad218) l0_3.length c0_3] 36 (0, 0))) := ⟨by refine Sh.pl ?_; refine blk_far ?_ NB211_220.out _; refine Sh.pl ?_; refine blk_far ?_ NB211_220.out _; refine Sh.pl ?_; exact BK211.out⟩
           have n2_ : Aside0 (((w19.setCell ⟨gb220, 0, none⟩ (.int .i64 ((rd_T94 ((rd_T72 l0_3 a2).f1) x20_1).f0))).setCell ⟨gb220, 1, none⟩ (.slice A219_1 ((rd_T94 ((rd_T72 l0_3 a2).f1) x20_1).f1).length c219_1)).heap[gb220]? = some (.cells #[.int .i64 ((rd_T94 ((rd_T72 l0_3 a2).f1) x20_1).f0), .slice A219_1 ((rd_T94 ((rd_T72 l0_3 a2).f1) x20_1).f1).length c219_1] 94 (0, 0))) := ⟨by refine Sh.pl ?_; refine blk_put (cs := #[.int .i64 ((rd_T94 ((rd_T72 l0_3 a2).f1) x20_1).f0), .slice none 0 0]) ?_ 1 _ rfl; refine Sh.pl ?_; refine blk_put (cs := #[.int .i64 0, .slice none 0 0]) ?_ 0 _ rfl; refine Sh.pl ?_; exact BK220.out⟩
           have n3_ : Aside0 (Below w.heap.size w ((w19.setCell ⟨gb220, 0, none⟩ (.int .i64 ((rd_T94 ((rd_T72 l0_3 a2).f1) x20_1).f0))).setCell ⟨gb220, 1, none⟩ (.slice A219_1 ((rd_T94 ((rd_T72 l0_3 a2).f1) x20_1).f1).length c219_1))) := ⟨Sh.bw⟩
           (try clear HO_7)
           (try clear BK211)
           (try clear BK220)
           (try clear HB)
           generalize ((w19.setCell ⟨gb220, 0, none⟩ (.int .i64 ((rd_T94 ((rd_T72 l0_3 a2).f1) x20_1).f0))).setCell ⟨gb220, 1, none⟩ (.slice A219_1 ((rd_T94 ((rd_T72 l0_3 a2).f1) x20_1).f1).length c219_1)) = w22 at n0_ n1_ n2_ n3_ ⊢
           have HO_7 := n0_
           have BK211 := n1_
           have BK220 := n2_
           have HB := n3_
           clear n0_ n1_ n2_ n3_
           replace HO_7 := am_ (Kd.R_drew HO_7.out)
           replace BK211 := am_ (blk_drew BK211.out)
           replace BK220 := am_ (blk_drew BK220.out)
           replace HB := am_ (below_drew1 HB.out)
           refine start_ (n := 15) (S := fun w' => w'.cell? ⟨gb220, 0, none⟩ = some (.int .i64 ((rd_T94 ((rd_T72 l0_3 a2).f1) x20_1).f0)) ∧ w'.cell? ⟨gb220, 1, none⟩ = some (.slice A219_1 ((rd_T94 ((rd_T72 l0_3 a2).f1) x20_1).f1).length c219_1) ∧ w'.cell? ⟨gb211, 0, none⟩ = some (.int .i64 a0_0) ∧ w'.cell? ⟨gb211, 1, none⟩ = some (.int .i64 a0_1) ∧ w'.cell? ⟨gb211, 2, none⟩ = some (.slice A0_2 l0_2.length c0_2) ∧ w'.cell? ⟨gb211, 3, none⟩ = some (.slice (some ad218) l0_3.length c0_3)) (ds := [14]) (Sh.nm 15 0) (by kernel_rfl) rfl rfl Sh.cs (fun hHeld => ?_); refine with_tabW spec_l7Do.tab5 spec_l7Do.bits5 (fun HT_ HW_ => ?_)
           generalize w22.drew = w23 at HO_7 BK211 BK220 HB hHeld ⊢
           refine Sh.qA 0 ?_; refine Sh.qA 1 ?_; refine Sh.qA 3 ?_; refine Sh.qA 5 ?_; refine Sh.qA 7 ?_; refine Sh.qA 11 ?_; refine Sh.qT 2 hHeld ?_; refine Sh.qT 4 hHeld ?_; refine Sh.qT 6 hHeld ?_; refine Sh.qT 8 hHeld ?_; refine Sh.qA 9 ?_; refine Sh.qA 10 ?_
           refine Sh.oC 12 Tryz.func59 #[.int .i64 a0_0, .slice A219_1 ((rd_T94 ((rd_T72 l0_3 a2).f1) x20_1).f1).length c219_1, .int .i64 (wrap64 ((((rd_T94 ((rd_T72 l0_3 a2).f1) x20_1).f1).length : Int) - 1)), .slice A1 l1.length c1] fun K hK => ?_
           with_reducible refine (spec_l2Value.calls k1 a0_0 _ _ ((rd_T94 ((rd_T72 l0_3 a2).f1) x20_1).f1) (wrap64 ((((rd_T94 ((rd_T72 l0_3 a2).f1) x20_1).f1).length : Int) - 1)) _ _ l1 t221 _ (Sh.cB HR219_1.out) HC219_1.out (Sh.cB HR1.out) HC1.out A15.out).mono ?_
           rintro e w24 ⟨rfl, hb⟩
           refine ⟨_, rfl, ?_⟩
           replace HO_7 := am_ (Kd.R_below (Sh.rl HO_7.out) hb)
           replace BK211 := Sh.ab BK211 hb
           replace BK220 := Sh.ab BK220 hb
           replace HB := Sh.hb hb
           (try clear hb)
           (try clear hb2)
           (try clear hk)
           (try clear hi)
           have p18 : 0 ≤ (((rd_T94 ((rd_T72 l0_3 a2).f1) x20_1).f0) : Int) := Sh.od
           have q18 : (((rd_T94 ((rd_T72 l0_3 a2).f1) x20_1).f0) : Int) < ((x7_1.length : Int) : Int) := Sh.od
           obtain ⟨go18, co18, eo18, gb18, gl18, cl18, HG18⟩ := Kd.R_form HO_7.out (by omega)
           (first | cases eo18 | (injection eo18 with ea_ en_ ec_; (first | subst ea_ | (injection ea_ with ea_; subst ea_)); subst ec_; clear en_))
           have GB18 := am_ gb18
           have GG18 := am_ HG18
           clear gb18 gl18 HG18
           obtain ⟨hx18_0, hf18_0⟩ := Kd.R_celln 0 HO_7.out (((rd_T94 ((rd_T72 l0_3 a2).f1) x20_1).f0) : Int) p18 q18
           replace p18 := eq_true p18
           replace q18 := eq_true q18
           have HP25 := Kd.R_putn HO_7.out (((rd_T94 ((rd_T72 l0_3 a2).f1) x20_1).f0) : Int) t221
           rw [← Ny222.out] at HP25
           have HQ25 := am_ HP25
           clear HP25
           refine Sh.kN hK Sh.cs fun hHeld => ?_
           clear hK K
           refine Sh.qA 13 ?_
           refine last_ (i := 14) (N := none) (Sh.nm 15 32767) rfl rfl (one_of HT_.out (by kernel_rfl)) (by decide) (fun K hK => ?_)
           refine skip_ (w1 := ?_) (by rfl) rfl ?_ ?_
           rotate_left
           ·go_simp
            rfl
           refine hK.out _ _ ?_
           clear hK K
           refine done_ (done_of HT_.out (by kernel_rfl)) ?_
           try go_wp2
           go_roundg k1
           case measure => have := HK1.out; omega
           case rel => exact ⟨(y222), (wrap64 (x20_1 + 1)), (Sh.es), H', ⟨by have := HK1.out; omega⟩, ⟨by (with_reducible repeat (first | apply Kd.R_alloc | apply Kd.R_drewN | apply Kd.R_drew)); exact HQ25.out⟩, ⟨by refine Sh.pl ?_; refine blk_far ?_ (by have h_ := Kd.R_ne HO_7.out BK211.out (by decide); intro e_; exact h_ (by rw [e_]; rfl)) _; refine Sh.pl ?_; exact BK211.out⟩, ⟨Sh.bw⟩⟩
          ·rw [if_neg c17] at H
           exact absurd H (by simp)
         ·rw [if_neg c16] at H
          exact absurd H (by simp)
        ·rw [if_neg c14] at H
         exact absurd H (by simp)
       ·rw [if_neg c13] at H
        exact absurd H (by simp)
      ·rw [if_neg c12] at H
       have c12b0 := decide_eq_false c12
       clear c12
       obtain rfl := Option.some.inj H
       go_wp2
       go_ret
       exact ⟨_, Sh.eR, Sh.rl HO_7.out, Sh.bw⟩
   ·rw [if_neg c6] at H
    exact absurd H (by simp)
  ·rw [if_neg c5] at H
   exact absurd H (by simp)
 ·rw [if_neg c4] at H
  exact absurd H (by simp)
def spec_StepBy.f (k : Nat) (a0_0 : Int) (a0_1 : Int) (l0_2 : List (S80)) (l0_3 : List (S72)) (l1 : List Int) (a2 : Int) : Option (List Int × Bool) := (spec_Enabled.f k a0_0 a0_1 l0_2 l0_3 l1).bind fun bt224 => (if bt224.2 = true then ((spec_l1Has.f k bt224.1 a2).bind fun t228 => (if t228 = true then ((spec_l7Do.f k a0_0 a0_1 l0_2 l0_3 l1 a2).bind fun t229 => (some (t229, true))) else (some (([] : List Int), false)))) else (some (([] : List Int), false)))
theorem spec_StepBy.mono : ∀ a0 a1 a2 a3 a4 a5 k, LeO (spec_StepBy.f k a0 a1 a2 a3 a4 a5) (spec_StepBy.f (k + 1) a0 a1 a2 a3 a4 a5) := by
 intro a0 a1 a2 a3 a4 a5 k
 unfold spec_StepBy.f
 repeat' with_reducible first | apply spec_Enabled.mono | apply spec_l1Has.mono | apply spec_l7Do.mono | exact LeO.refl _ | exact LeO.none _ | apply LeO.ite | refine LeO.bind ?_ fun _ => ?_
theorem spec_StepBy.calls (k : Nat) (a0_0 : Int) (a0_1 : Int) (A0_2 : Option Addr) (c0_2 : Nat) (l0_2 : List (S80)) (A0_3 : Option Addr) (c0_3 : Nat) (l0_3 : List (S72)) (A1 : Option Addr) (c1 : Nat) (l1 : List Int) (a2 : Int) (r1 : List Int) (r2 : Bool) (w : World) (hr0_2 : Kd.C k80 w A0_2 l0_2.length l0_2) (hc0_2 : l0_2.length ≤ c0_2) (hr0_3 : Kd.C k72 w A0_3 l0_3.length l0_3) (hc0_3 : l0_3.length ≤ c0_3) (hr1 : Kd.C (Kd.int .u64) w A1 l1.length l1) (hc1 : l1.length ≤ c1) (h : spec_StepBy.f k a0_0 a0_1 l0_2 l0_3 l1 a2 = some (r1, r2)) :
  Calls Tryz.prog 26 #[.agg #[.int .i64 a0_0, .int .i64 a0_1, .slice A0_2 l0_2.length c0_2, .slice A0_3 l0_3.length c0_3], .slice A1 l1.length c1, .int .i64 a2] w fun e w' => ∃ v0_ : Value, e = .returned (.tuple #[v0_, .bool r2]) ∧ Kd.R (Kd.int .u64) 59 w' w.heap.size (fun _ => True) v0_ r1 ∧ Below w.heap.size w w' := by
 have hu36 := Tryz.underlying36
 have HR0_2 := am_ hr0_2
 have HC0_2 := am_ hc0_2
 clear hr0_2 hc0_2
 have HR0_3 := am_ hr0_3
 have HC0_3 := am_ hc0_3
 clear hr0_3 hc0_3
 have HR1 := am_ hr1
 have HC1 := am_ hc1
 clear hr1 hc1
 have HB := am_ (Below.refl w.heap.size w)
 have H := h
 clear h
 unfold spec_StepBy.f at H
 obtain ⟨⟨t224, t227⟩, A40, H⟩ := Sh.bd H
 have A4 := am_ A40
 clear A40
 by_cases c5 : t227 = true
 ·subst c5
  rw [if_pos rfl] at H
  obtain ⟨t228, A6, H⟩ := Sh.ba H
  by_cases c7 : t228 = true
  ·subst c7
   rw [if_pos rfl] at H
   obtain ⟨t229, A8, H⟩ := Sh.ba H
   simp only [Option.some.injEq, Prod.mk.injEq] at H
   obtain ⟨rfl, rfl⟩ := H
   go_enter Tryz.func26, Tryz.ntmps26
   go_wp2_with (first | ((with_reducible refine Sh.d 3 ?_); refine Sh.bz w (N := 3) (cs := #[.int .i64 a0_0, .int .i64 a0_1, .slice A0_2 l0_2.length c0_2, .slice A0_3 l0_3.length c0_3]) (t := 36) (h := ?_); clear HB; intro gb223 w9 BK223 GE223 HB; obtain ⟨hcz10_0, hcz10_1, hcz10_2, hcz10_3, hfz10_0, hfz10_1, hfz10_2, hfz10_3⟩ := Sh.b4 BK223.out) | ((with_reducible refine Sh.k 42 ?_); refine Sh.gL (some 13) Tryz.func42 #[.agg #[.int .i64 a0_0, .int .i64 a0_1, .slice A0_2 l0_2.length c0_2, .slice A0_3 l0_3.length c0_3], .slice A1 l1.length c1] (h := ?_); (with_reducible refine (spec_Enabled.calls k a0_0 a0_1 _ _ l0_2 _ _ l0_3 _ _ l1 t224 true _ (Sh.cB HR0_2.out) HC0_2.out (Sh.cB HR0_3.out) HC0_3.out (Sh.cB HR1.out) HC1.out A4.out).mono ?_); rintro e w11 ⟨v225, rfl, ho0, hb⟩; refine ⟨_, rfl, ?_⟩; have HO226 := am_ (Kd.R_lower ho0 (below_size Sh.bw)); replace BK223 := Sh.ab BK223 hb; replace HB := Sh.hb hb; (try clear hb); (try clear hb2); (try clear hk); (try clear hi); (try clear ho0); obtain ⟨Ao12, co12, eo12⟩ := Kd.R_slice HO226.out; subst eo12) | (go_at_call 43; (with_reducible refine (spec_l1Has.calls k _ _ t224 a2 true _ (Sh.cR (Kd.R_reads' HO226.out).2.2) (Kd.R_reads' HO226.out).2.1 A6.out).mono ?_); rintro e w' ⟨rfl, ⟨nd, rfl⟩⟩; obtain ⟨hcz13_0, hcz13_1, hcz13_2, hcz13_3, hfz13_0, hfz13_1, hfz13_2, hfz13_3⟩ := Sh.b4 BK223.out) | ((with_reducible refine Sh.k 44 ?_); refine Sh.gL (some 27) Tryz.func44 #[.agg #[.int .i64 a0_0, .int .i64 a0_1, .slice A0_2 l0_2.length c0_2, .slice A0_3 l0_3.length c0_3], .slice A1 l1.length c1, .int .i64 a2] (h := ?_); (with_reducible refine (spec_l7Do.calls k a0_0 a0_1 _ _ l0_2 _ _ l0_3 _ _ l1 a2 t229 _ (Sh.cB HR0_2.out) HC0_2.out (Sh.cB HR0_3.out) HC0_3.out (Sh.cB HR1.out) HC1.out A8.out).mono ?_); rintro e w14 ⟨v230, rfl, ho0, hb⟩; refine ⟨_, rfl, ?_⟩; replace HO226 := am_ (Kd.R_below (Sh.rl HO226.out) hb); have HO231 := am_ (Kd.R_lower ho0 (below_size Sh.bw)); replace BK223 := Sh.ab BK223 hb; replace HB := Sh.hb hb; (try clear hb); (try clear hb2); (try clear hk); (try clear hi); (try clear ho0)))
   go_ret2
   exact ⟨_, Sh.eR, Sh.rl HO231.out, Sh.bw⟩
  ·replace c7 := Bool.eq_false_iff.mpr c7
   subst c7
   rw [Sh.nf] at H
   simp only [Option.some.injEq, Prod.mk.injEq] at H
   obtain ⟨rfl, rfl⟩ := H
   go_enter Tryz.func26, Tryz.ntmps26
   go_wp2_with (first | ((with_reducible refine Sh.d 3 ?_); refine Sh.bz w (N := 3) (cs := #[.int .i64 a0_0, .int .i64 a0_1, .slice A0_2 l0_2.length c0_2, .slice A0_3 l0_3.length c0_3]) (t := 36) (h := ?_); clear HB; intro gb223 w15 BK223 GE223 HB; obtain ⟨hcz16_0, hcz16_1, hcz16_2, hcz16_3, hfz16_0, hfz16_1, hfz16_2, hfz16_3⟩ := Sh.b4 BK223.out) | ((with_reducible refine Sh.k 42 ?_); refine Sh.gL (some 13) Tryz.func42 #[.agg #[.int .i64 a0_0, .int .i64 a0_1, .slice A0_2 l0_2.length c0_2, .slice A0_3 l0_3.length c0_3], .slice A1 l1.length c1] (h := ?_); (with_reducible refine (spec_Enabled.calls k a0_0 a0_1 _ _ l0_2 _ _ l0_3 _ _ l1 t224 true _ (Sh.cB HR0_2.out) HC0_2.out (Sh.cB HR0_3.out) HC0_3.out (Sh.cB HR1.out) HC1.out A4.out).mono ?_); rintro e w17 ⟨v225, rfl, ho0, hb⟩; refine ⟨_, rfl, ?_⟩; have HO226 := am_ (Kd.R_lower ho0 (below_size Sh.bw)); replace BK223 := Sh.ab BK223 hb; replace HB := Sh.hb hb; (try clear hb); (try clear hb2); (try clear hk); (try clear hi); (try clear ho0); obtain ⟨Ao18, co18, eo18⟩ := Kd.R_slice HO226.out; subst eo18) | (go_at_call 43; (with_reducible refine (spec_l1Has.calls k _ _ t224 a2 false _ (Sh.cR (Kd.R_reads' HO226.out).2.2) (Kd.R_reads' HO226.out).2.1 A6.out).mono ?_); rintro e w' ⟨rfl, ⟨nd, rfl⟩⟩))
   go_ret2
   exact ⟨_, Sh.eR, by first | exact Kd.R_nil _ _ _ _ _ | exact Kd.N_nil _ _ _ _ _ | exact Kd.V_nil _ _ _ _ _ | exact Kd.Q_nil _ _ _ _ _ | exact Kd.S_nil _ _ _ _ _, Sh.bw⟩
 ·replace c5 := Bool.eq_false_iff.mpr c5
  subst c5
  rw [Sh.nf] at H
  simp only [Option.some.injEq, Prod.mk.injEq] at H
  obtain ⟨rfl, rfl⟩ := H
  go_enter Tryz.func26, Tryz.ntmps26
  go_wp2_with (first | ((with_reducible refine Sh.d 3 ?_); refine Sh.bz w (N := 3) (cs := #[.int .i64 a0_0, .int .i64 a0_1, .slice A0_2 l0_2.length c0_2, .slice A0_3 l0_3.length c0_3]) (t := 36) (h := ?_); clear HB; intro gb223 w19 BK223 GE223 HB; obtain ⟨hcz20_0, hcz20_1, hcz20_2, hcz20_3, hfz20_0, hfz20_1, hfz20_2, hfz20_3⟩ := Sh.b4 BK223.out) | ((with_reducible refine Sh.k 42 ?_); refine Sh.gL (some 13) Tryz.func42 #[.agg #[.int .i64 a0_0, .int .i64 a0_1, .slice A0_2 l0_2.length c0_2, .slice A0_3 l0_3.length c0_3], .slice A1 l1.length c1] (h := ?_); (with_reducible refine (spec_Enabled.calls k a0_0 a0_1 _ _ l0_2 _ _ l0_3 _ _ l1 t224 false _ (Sh.cB HR0_2.out) HC0_2.out (Sh.cB HR0_3.out) HC0_3.out (Sh.cB HR1.out) HC1.out A4.out).mono ?_); rintro e w21 ⟨v225, rfl, ho0, hb⟩; refine ⟨_, rfl, ?_⟩; have HO226 := am_ (Kd.R_lower ho0 (below_size Sh.bw)); replace BK223 := Sh.ab BK223 hb; replace HB := Sh.hb hb; (try clear hb); (try clear hb2); (try clear hk); (try clear hi); (try clear ho0)))
  go_ret2
  exact ⟨_, Sh.eR, by first | exact Kd.R_nil _ _ _ _ _ | exact Kd.N_nil _ _ _ _ _ | exact Kd.V_nil _ _ _ _ _ | exact Kd.Q_nil _ _ _ _ _ | exact Kd.S_nil _ _ _ _ _, Sh.bw⟩
mutual
def spec_PlayCommands.j0 : Nat → List Int → List Int → Bool → Int → Int → List (S80) → List (S72) → Option ((List (List Int)) × List Bool × Bool)
 | 0, _, _, _, _, _, _, _ => none
 | k + 1, x1, x2, x28, x233000, x233001, x233002, x233003 => if x28 = true then (some (([] : List (List Int)), ([] : List Bool), false)) else (spec_PlayCommands.l0 k x1 ([] : List (List Int)) ([] : List Bool) x2 (x2.length : Int) 0 x233000 x233001 x233002 x233003)
def spec_PlayCommands.l0 : Nat → List Int → List (List Int) → List Bool → List Int → Int → Int → Int → Int → List (S80) → List (S72) → Option ((List (List Int)) × List Bool × Bool)
 | 0, _, _, _, _, _, _, _, _, _, _ => none
 | k + 1, x1, x9, x10, x29, x30, x31, x233000, x233001, x233002, x233003 => if x31 < x30 then (if 0 ≤ x31 then (if x31 < (x29.length : Int) then ((spec_StepBy.f k x233000 x233001 x233002 x233003 x1 (rd x29 x31)).bind fun bt236 => (if bt236.2 = true then ((some (([] : List Int) : List Int)).bind fun y240 => (if y240.length + bt236.1.length < 17592186044416 then (if x9.length < 5864062014805 then (if x10.length < 140737488355328 then (spec_PlayCommands.l0 k bt236.1 (x9 ++ [(y240 ++ bt236.1)]) (x10 ++ [bt236.2]) x29 x30 (wrap64 (x31 + 1)) x233000 x233001 x233002 x233003) else (none)) else (none)) else (none))) else ((some (([] : List Int) : List Int)).bind fun y252 => (if y252.length + x1.length < 17592186044416 then (if x9.length < 5864062014805 then (if x10.length < 140737488355328 then (spec_PlayCommands.l0 k x1 (x9 ++ [(y252 ++ x1)]) (x10 ++ [bt236.2]) x29 x30 (wrap64 (x31 + 1)) x233000 x233001 x233002 x233003) else (none)) else (none)) else (none))))) else (none)) else (none)) else (some (x9, x10, true))
end
def spec_PlayCommands.f (k : Nat) (a0_0 : Int) (a0_1 : Int) (l0_2 : List (S80)) (l0_3 : List (S72)) (l1 : List Int) (l2 : List Int) : Option ((List (List Int)) × List Bool × Bool) := (spec_GoodProgram.f k a0_0 a0_1 l0_2 l0_3).bind fun t233 => (if t233 = true then ((spec_l7State.f k a0_0 a0_1 l0_2 l0_3 l1).bind fun t234 => (if t234 = true then (spec_PlayCommands.j0 k l1 l2 (decide ((l2.length : Int) > 60)) a0_0 a0_1 l0_2 l0_3) else (spec_PlayCommands.j0 k l1 l2 true a0_0 a0_1 l0_2 l0_3))) else (spec_PlayCommands.j0 k l1 l2 true a0_0 a0_1 l0_2 l0_3))
theorem spec_PlayCommands.mono_l : ∀ k, (∀ y0 y1 y2 y3 y4 y5 y6, LeO (spec_PlayCommands.j0 k y0 y1 y2 y3 y4 y5 y6) (spec_PlayCommands.j0 (k + 1) y0 y1 y2 y3 y4 y5 y6)) ∧ (∀ y0 y1 y2 y3 y4 y5 y6 y7 y8 y9, LeO (spec_PlayCommands.l0 k y0 y1 y2 y3 y4 y5 y6 y7 y8 y9) (spec_PlayCommands.l0 (k + 1) y0 y1 y2 y3 y4 y5 y6 y7 y8 y9))
 | 0 => ⟨fun _ _ _ _ _ _ _ r h => by simp [spec_PlayCommands.j0] at h, fun _ _ _ _ _ _ _ _ _ _ r h => by simp [spec_PlayCommands.l0] at h⟩
 | k + 1 => by
  obtain ⟨ih0, ih1⟩ := spec_PlayCommands.mono_l k
  and_intros <;> intros
  all_goals (first | unfold spec_PlayCommands.j0 | unfold spec_PlayCommands.l0)
  all_goals repeat' with_reducible first | apply ih0 | apply ih1 | apply spec_GoodProgram.mono | apply spec_StepBy.mono | apply spec_l7State.mono | exact LeO.refl _ | exact LeO.none _ | apply LeO.ite | refine LeO.bind ?_ fun _ => ?_
theorem spec_PlayCommands.mono : ∀ a0 a1 a2 a3 a4 a5 k, LeO (spec_PlayCommands.f k a0 a1 a2 a3 a4 a5) (spec_PlayCommands.f (k + 1) a0 a1 a2 a3 a4 a5) := by
 intro a0 a1 a2 a3 a4 a5 k
 obtain ⟨ih0, ih1⟩ := spec_PlayCommands.mono_l k
 unfold spec_PlayCommands.f
 repeat' with_reducible first | apply ih0 | apply ih1 | apply spec_GoodProgram.mono | apply spec_StepBy.mono | apply spec_l7State.mono | exact LeO.refl _ | exact LeO.none _ | apply LeO.ite | refine LeO.bind ?_ fun _ => ?_
theorem spec_PlayCommands.calls (k : Nat) (a0_0 : Int) (a0_1 : Int) (A0_2 : Option Addr) (c0_2 : Nat) (l0_2 : List (S80)) (A0_3 : Option Addr) (c0_3 : Nat) (l0_3 : List (S72)) (P1_ : Nat → Prop) (A1 : Option Addr) (c1 : Nat) (l1 : List Int) (A2 : Option Addr) (c2 : Nat) (l2 : List Int) (r1 : List (List Int)) (r2 : List Bool) (r3 : Bool) (w : World) (hr0_2 : Kd.C k80 w A0_2 l0_2.length l0_2) (hc0_2 : l0_2.length ≤ c0_2) (hr0_3 : Kd.C k72 w A0_3 l0_3.length l0_3) (hc0_3 : l0_3.length ≤ c0_3) (hs1 : Kd.V (Kd.int .u64) 59 w w.heap.size (fun k_ => P1_ k_) (.slice A1 l1.length c1) l1) (hr2 : Kd.C (Kd.int .i64) w A2 l2.length l2) (hc2 : l2.length ≤ c2) (h : spec_PlayCommands.f k a0_0 a0_1 l0_2 l0_3 l1 l2 = some (r1, r2, r3)) :
  Calls Tryz.prog 5 #[.agg #[.int .i64 a0_0, .int .i64 a0_1, .slice A0_2 l0_2.length c0_2, .slice A0_3 l0_3.length c0_3], .slice A1 l1.length c1, .slice A2 l2.length c2] w fun e w' => ∃ v0_ v1_ : Value, e = .returned (.tuple #[v0_, v1_, .bool r3]) ∧ Kd.S (Kd.slice 59 (Kd.int .u64)) 26 w' w.heap.size (fun k_ => (w.heap.size ≤ k_)) v0_ r1 ∧ Kd.R Kd.bool 4 w' w.heap.size (fun k_ => (w.heap.size ≤ k_)) v1_ r2 ∧ Below w.heap.size w w' := by
 have hu36 := Tryz.underlying36
 have HR0_2 := am_ hr0_2
 have HC0_2 := am_ hc0_2
 clear hr0_2 hc0_2
 have HR0_3 := am_ hr0_3
 have HC0_3 := am_ hc0_3
 clear hr0_3 hc0_3
 have HO1 := am_ (show Kd.V (Kd.int .u64) 59 w w.heap.size (fun k_ => (P1_ k_ ∨ w.heap.size ≤ k_)) (.slice A1 l1.length c1) l1 from Kd.V_mono hs1 (fun k_ hk => .inl hk))
 have HR2 := am_ hr2
 have HC2 := am_ hc2
 clear hr2 hc2
 have HB := am_ (Below.refl w.heap.size w)
 have H := h
 clear h
 unfold spec_PlayCommands.f at H
 have HC4 := am_ H
 clear H
 go_enter Tryz.func5, Tryz.ntmps5
 go_upto_region 1 with (first | ((with_reducible refine Sh.d 3 ?_); (try (refine gate_guard (by rfl) ?_; dsimp only)); refine Sh.bx (N := 3) (cs := #[.int .i64 a0_0, .int .i64 a0_1, .slice A0_2 l0_2.length c0_2, .slice A0_3 l0_3.length c0_3]) (t := 36) (h := ?_); intro gb232 hg w5 hbox hb; replace HO1 := am_ (Kd.V_below (Kd.V_elderB (by (with_reducible repeat (first | apply Kd.V_alloc | apply Kd.V_drewN | apply Kd.V_drew)); exact HO1.out) gb232 (Nat.le_of_eq hg.symm)) hb); have BK232 := am_ hbox; have GE232 := Sh.ag w hg; replace HB := Sh.hb hb; clear hb hbox hg))
 (try simp only [Act.put, List.setIfInBounds_toArray, List.set_cons_zero, List.set_cons_succ])
 go_cut [28] (fun v28 wc => ∃ (kq : Nat) (x28_3 : Bool), v28 = .bool x28_3 ∧ Aside0 (spec_PlayCommands.j0 kq l1 l2 x28_3 a0_0 a0_1 l0_2 l0_3 = some (r1, r2, r3)) ∧ Aside0 (kq ≤ k) ∧ Aside0 (Kd.V (Kd.int .u64) 59 wc w.heap.size (fun k_ => (P1_ k_ ∨ w.heap.size ≤ k_) ∧ k_ ≠ gb232) (.slice A1 l1.length c1) l1) ∧ Aside0 (wc.heap[gb232]? = some (.cells #[.int .i64 a0_0, .int .i64 a0_1, (.slice A0_2 l0_2.length c0_2), (.slice A0_3 l0_3.length c0_3)] 36 (0, 0))) ∧ Aside0 (Below w.heap.size w wc))
 case first =>
  have H := HC4.out
  clear HC4
  obtain ⟨t233, A6, H⟩ := Sh.ba H
  by_cases c7 : t233 = true
  ·subst c7
   rw [if_pos rfl] at H
   obtain ⟨t234, A8, H⟩ := Sh.ba H
   by_cases c9 : t234 = true
   ·subst c9
    rw [if_pos rfl] at H
    have H' := am_ H
    clear H
    have hcz10_0 := Sh.bc BK232.out 0
    have hcz10_1 := Sh.bc BK232.out 1
    have hcz10_2 := Sh.bc BK232.out 2
    have hcz10_3 := Sh.bc BK232.out 3
    have hfz10_0 := blk_frozen BK232.out 0
    have hfz10_1 := blk_frozen BK232.out 1
    have hfz10_2 := blk_frozen BK232.out 2
    have hfz10_3 := blk_frozen BK232.out 3
    go_wp2_with (first | ((with_reducible refine Sh.k 24 ?_); refine Sh.gB (some 16) Tryz.func24 #[.agg #[.int .i64 a0_0, .int .i64 a0_1, .slice A0_2 l0_2.length c0_2, .slice A0_3 l0_3.length c0_3]] (spec_GoodProgram.calls k a0_0 a0_1 _ _ l0_2 _ _ l0_3 true _ (Sh.cB HR0_2.out) HC0_2.out (Sh.cB HR0_3.out) HC0_3.out A6.out) fun w11 hb => ?_; replace HO1 := am_ (Kd.V_below (by (with_reducible repeat (first | apply Kd.V_alloc | apply Kd.V_drewN | apply Kd.V_drew)); exact HO1.out) hb); replace BK232 := Sh.ab BK232 hb; replace HB := Sh.hb hb; (try clear hb); (try clear hb2); (try clear hk); (try clear hi); obtain ⟨hcz12_0, hcz12_1, hcz12_2, hcz12_3, hfz12_0, hfz12_1, hfz12_2, hfz12_3⟩ := Sh.b4 BK232.out) | (go_at_call 25; (with_reducible refine (spec_l7State.calls k a0_0 a0_1 _ _ l0_2 _ _ l0_3 _ _ l1 true _ (Sh.cB HR0_2.out) HC0_2.out (Sh.cB HR0_3.out) HC0_3.out (Sh.cR (Kd.V_reads' HO1.out).2.2) (Kd.V_reads' HO1.out).2.1 A8.out).mono ?_); rintro e w13 ⟨rfl, hb⟩; replace HO1 := am_ (Kd.V_below (by (with_reducible repeat (first | apply Kd.V_alloc | apply Kd.V_drewN | apply Kd.V_drew)); exact HO1.out) hb); replace BK232 := Sh.ab BK232 hb; replace HB := Sh.hb hb; (try clear hb); (try clear hb2); (try clear hk); (try clear hi)))
    go_meet
    case rel => exact ⟨_, (decide ((l2.length : Int) > 60)), (Sh.es), H', ⟨Sh.om⟩, ⟨by (with_reducible repeat (first | apply Kd.V_alloc | apply Kd.V_drewN | apply Kd.V_drew)); exact HO1.out⟩, ⟨by refine Sh.pl ?_; exact BK232.out⟩, ⟨Sh.bw⟩⟩
   ·replace c9 := Bool.eq_false_iff.mpr c9
    subst c9
    rw [Sh.nf] at H
    have H' := am_ H
    clear H
    have hcz14_0 := Sh.bc BK232.out 0
    have hcz14_1 := Sh.bc BK232.out 1
    have hcz14_2 := Sh.bc BK232.out 2
    have hcz14_3 := Sh.bc BK232.out 3
    have hfz14_0 := blk_frozen BK232.out 0
    have hfz14_1 := blk_frozen BK232.out 1
    have hfz14_2 := blk_frozen BK232.out 2
    have hfz14_3 := blk_frozen BK232.out 3
    go_wp2_with (first | ((with_reducible refine Sh.k 24 ?_); refine Sh.gB (some 16) Tryz.func24 #[.agg #[.int .i64 a0_0, .int .i64 a0_1, .slice A0_2 l0_2.length c0_2, .slice A0_3 l0_3.length c0_3]] (spec_GoodProgram.calls k a0_0 a0_1 _ _ l0_2 _ _ l0_3 true _ (Sh.cB HR0_2.out) HC0_2.out (Sh.cB HR0_3.out) HC0_3.out A6.out) fun w15 hb => ?_; replace HO1 := am_ (Kd.V_below (by (with_reducible repeat (first | apply Kd.V_alloc | apply Kd.V_drewN | apply Kd.V_drew)); exact HO1.out) hb); replace BK232 := Sh.ab BK232 hb; replace HB := Sh.hb hb; (try clear hb); (try clear hb2); (try clear hk); (try clear hi); obtain ⟨hcz16_0, hcz16_1, hcz16_2, hcz16_3, hfz16_0, hfz16_1, hfz16_2, hfz16_3⟩ := Sh.b4 BK232.out) | (go_at_call 25; (with_reducible refine (spec_l7State.calls k a0_0 a0_1 _ _ l0_2 _ _ l0_3 _ _ l1 false _ (Sh.cB HR0_2.out) HC0_2.out (Sh.cB HR0_3.out) HC0_3.out (Sh.cR (Kd.V_reads' HO1.out).2.2) (Kd.V_reads' HO1.out).2.1 A8.out).mono ?_); rintro e w17 ⟨rfl, hb⟩; replace HO1 := am_ (Kd.V_below (by (with_reducible repeat (first | apply Kd.V_alloc | apply Kd.V_drewN | apply Kd.V_drew)); exact HO1.out) hb); replace BK232 := Sh.ab BK232 hb; replace HB := Sh.hb hb; (try clear hb); (try clear hb2); (try clear hk); (try clear hi)))
    go_meet
    case rel => exact ⟨_, (true), (Sh.es), H', ⟨Sh.om⟩, ⟨by (with_reducible repeat (first | apply Kd.V_alloc | apply Kd.V_drewN | apply Kd.V_drew)); exact HO1.out⟩, ⟨by refine Sh.pl ?_; exact BK232.out⟩, ⟨Sh.bw⟩⟩
  ·replace c7 := Bool.eq_false_iff.mpr c7
   subst c7
   rw [Sh.nf] at H
   have H' := am_ H
   clear H
   have hcz18_0 := Sh.bc BK232.out 0
   have hcz18_1 := Sh.bc BK232.out 1
   have hcz18_2 := Sh.bc BK232.out 2
   have hcz18_3 := Sh.bc BK232.out 3
   have hfz18_0 := blk_frozen BK232.out 0
   have hfz18_1 := blk_frozen BK232.out 1
   have hfz18_2 := blk_frozen BK232.out 2
   have hfz18_3 := blk_frozen BK232.out 3
   go_wp2_with (first | ((with_reducible refine Sh.k 24 ?_); refine Sh.gB (some 16) Tryz.func24 #[.agg #[.int .i64 a0_0, .int .i64 a0_1, .slice A0_2 l0_2.length c0_2, .slice A0_3 l0_3.length c0_3]] (spec_GoodProgram.calls k a0_0 a0_1 _ _ l0_2 _ _ l0_3 false _ (Sh.cB HR0_2.out) HC0_2.out (Sh.cB HR0_3.out) HC0_3.out A6.out) fun w19 hb => ?_; replace HO1 := am_ (Kd.V_below (by (with_reducible repeat (first | apply Kd.V_alloc | apply Kd.V_drewN | apply Kd.V_drew)); exact HO1.out) hb); replace BK232 := Sh.ab BK232 hb; replace HB := Sh.hb hb; (try clear hb); (try clear hb2); (try clear hk); (try clear hi)))
   go_meet
   case rel => exact ⟨_, (true), (Sh.es), H', ⟨Sh.om⟩, ⟨by (with_reducible repeat (first | apply Kd.V_alloc | apply Kd.V_drewN | apply Kd.V_drew)); exact HO1.out⟩, ⟨by refine Sh.pl ?_; exact BK232.out⟩, ⟨Sh.bw⟩⟩
 case rest =>
  clear HC4
  try clear hcz10_0
  try clear hcz10_1
  try clear hcz10_2
  try clear hcz10_3
  try clear hcz12_0
  try clear hcz12_1
  try clear hcz12_2
  try clear hcz12_3
  try clear hcz14_0
  try clear hcz14_1
  try clear hcz14_2
  try clear hcz14_3
  try clear hcz16_0
  try clear hcz16_1
  try clear hcz16_2
  try clear hcz16_3
  try clear hcz18_0
  try clear hcz18_1
  try clear hcz18_2
  try clear hcz18_3
  try clear hfz10_0
  try clear hfz10_1
  try clear hfz10_2
  try clear hfz10_3
  try clear hfz12_0
  try clear hfz12_1
  try clear hfz12_2
  try clear hfz12_3
  try clear hfz14_0
  try clear hfz14_1
  try clear hfz14_2
  try clear hfz14_3
  try clear hfz16_0
  try clear hfz16_1
  try clear hfz16_2
  try clear hfz16_3
  try clear hfz18_0
  try clear hfz18_1
  try clear hfz18_2
  try clear hfz18_3
  obtain ⟨kq, x28_3, rfl, HA, HJ3, HO_1, BK232, HB⟩ := hcut
  cases kq with
  | zero => exact absurd HA.out (by simp [spec_PlayCommands.j0])
  | succ kj3 =>
   have H := HA.out
   clear HA
   simp only [spec_PlayCommands.j0] at H
   by_cases c20 : x28_3 = true
   ·subst c20
    rw [if_pos rfl] at H
    simp only [Option.some.injEq, Prod.mk.injEq] at H
    obtain ⟨rfl, rfl, rfl⟩ := H
    go_wp2
    go_ret3
    exact ⟨_, _, by first | rfl | (simp [errW_none, errW_some] <;> rfl) | (simp [*, errW_none, errW_some] <;> rfl), by first | exact Kd.S_nil _ _ _ _ _ | exact Kd.N_nil _ _ _ _ _ | exact Kd.V_nil _ _ _ _ _ | exact Kd.Q_nil _ _ _ _ _ | exact Kd.R_nil _ _ _ _ _, by first | exact Kd.R_nil _ _ _ _ _ | exact Kd.N_nil _ _ _ _ _ | exact Kd.V_nil _ _ _ _ _ | exact Kd.Q_nil _ _ _ _ _ | exact Kd.S_nil _ _ _ _ _, Sh.bw⟩
   ·replace c20 := Bool.eq_false_iff.mpr c20
    subst c20
    rw [Sh.nf] at H
    have H' := am_ H
    clear H
    go_wp2
    go_loopg [1, 9, 10, 31] kj3 (fun kq v1 v9 v10 v31 w' => ∃ (x1_2 : List Int) (x9_2 : List (List Int)) (x10_2 : List Bool) (x31_2 : Int), v31 = .int .i64 x31_2 ∧ Aside0 (spec_PlayCommands.l0 kq x1_2 x9_2 x10_2 l2 (l2.length : Int) x31_2 a0_0 a0_1 l0_2 l0_3 = some (r1, r2, r3)) ∧ Aside0 (kq ≤ kj3) ∧ Aside0 (Kd.V (Kd.int .u64) 59 w' w.heap.size (fun k_ => (P1_ k_ ∨ w.heap.size ≤ k_) ∧ some k_ ≠ (v9 : Value).ownBlock ∧ some k_ ≠ (v10 : Value).ownBlock ∧ k_ ≠ gb232) v1 x1_2) ∧ Aside0 (Kd.S (Kd.slice 59 (Kd.int .u64)) 26 w' w.heap.size (fun k_ => (w.heap.size ≤ k_)) v9 x9_2) ∧ Aside0 (Kd.R Kd.bool 4 w' w.heap.size (fun k_ => (w.heap.size ≤ k_)) v10 x10_2) ∧ Aside0 (w'.heap[gb232]? = some (.cells #[.int .i64 a0_0, .int .i64 a0_1, (.slice A0_2 l0_2.length c0_2), (.slice A0_3 l0_3.length c0_3)] 36 (0, 0))) ∧ Aside0 (Below w.heap.size w w'))
    case atStart => exact ⟨(l1), (([] : List (List Int))), (([] : List Bool)), (0), (Sh.es), H', ⟨Nat.le_refl _⟩, ⟨by (with_reducible repeat (first | apply Kd.V_alloc | apply Kd.V_drewN | apply Kd.V_drew)); exact Kd.V_mono HO_1.out (fun _ hk => ⟨hk.1, ⟨(by simp [Value.ownBlock]), ⟨(by simp [Value.ownBlock]), hk.2⟩⟩⟩)⟩, ⟨by first | exact Kd.S_nil _ _ _ _ _ | exact Kd.N_nil _ _ _ _ _ | exact Kd.V_nil _ _ _ _ _ | exact Kd.Q_nil _ _ _ _ _ | exact Kd.R_nil _ _ _ _ _⟩, ⟨by first | exact Kd.R_nil _ _ _ _ _ | exact Kd.N_nil _ _ _ _ _ | exact Kd.V_nil _ _ _ _ _ | exact Kd.Q_nil _ _ _ _ _ | exact Kd.S_nil _ _ _ _ _⟩, ⟨by refine Sh.pl ?_; exact BK232.out⟩, ⟨Sh.bw⟩⟩
    case round =>
     clear H'
     try clear hcz10_0
     try clear hcz10_1
     try clear hcz10_2
     try clear hcz10_3
     try clear hcz12_0
     try clear hcz12_1
     try clear hcz12_2
     try clear hcz12_3
     try clear hcz14_0
     try clear hcz14_1
     try clear hcz14_2
     try clear hcz14_3
     try clear hcz16_0
     try clear hcz16_1
     try clear hcz16_2
     try clear hcz16_3
     try clear hcz18_0
     try clear hcz18_1
     try clear hcz18_2
     try clear hcz18_3
     try clear hfz10_0
     try clear hfz10_1
     try clear hfz10_2
     try clear hfz10_3
     try clear hfz12_0
     try clear hfz12_1
     try clear hfz12_2
     try clear hfz12_3
     try clear hfz14_0
     try clear hfz14_1
     try clear hfz14_2
     try clear hfz14_3
     try clear hfz16_0
     try clear hfz16_1
     try clear hfz16_2
     try clear hfz16_3
     try clear hfz18_0
     try clear hfz18_1
     try clear hfz18_2
     try clear hfz18_3
     obtain ⟨x1_2, x9_2, x10_2, x31_2, rfl, HA, HK2, HO_1, HO_9, HO_10, BK232, HB⟩ := hrel
     cases gk with
     | zero => exact absurd HA.out (by simp [spec_PlayCommands.l0])
     | succ k2 =>
      have H := HA.out
      clear HA
      simp only [spec_PlayCommands.l0] at H
      by_cases c21 : x31_2 < (l2.length : Int)
      ·rw [if_pos c21] at H
       have c21b0 := decide_eq_true c21
       clear c21
       by_cases c22 : 0 ≤ x31_2
       ·rw [if_pos c22] at H
        have c22b0 := decide_eq_true c22
        clear c22
        by_cases c23 : x31_2 < (l2.length : Int)
        ·rw [if_pos c23] at H
         have c23b0 := decide_eq_true c23
         clear c23
         obtain ⟨⟨t236, t239⟩, A240, H⟩ := Sh.bd H
         have A24 := am_ A240
         clear A240
         by_cases c25 : t239 = true
         ·subst c25
          rw [if_pos rfl] at H
          obtain ⟨y240, hy240⟩ : ∃ y_ : List Int, y_ = (([] : List Int)) := ⟨_, rfl⟩
          replace H : (if y240.length + t236.length < 17592186044416 then (if x9_2.length < 5864062014805 then (if x10_2.length < 140737488355328 then (spec_PlayCommands.l0 k2 t236 (x9_2 ++ [(y240 ++ t236)]) (x10_2 ++ [true]) l2 (l2.length : Int) (wrap64 (x31_2 + 1)) a0_0 a0_1 l0_2 l0_3) else (none)) else (none)) else (none)) = some (r1, r2, r3) := by first | (rw [hy240]; with_reducible exact H) | (have H2_ := (Option.bind_some _ _).symm.trans H; rw [hy240]; with_reducible exact H2_) | (have H2_ := (Option.bind_some _ _).symm.trans H; with_reducible exact H2_) | with_reducible exact H | (rw [hy240]; exact H) | exact H
          have Ny240 := am_ hy240
          clear hy240
          by_cases c26 : y240.length + t236.length < 17592186044416
          ·rw [if_pos c26] at H
           have LMc26 := am_ c26
           clear c26
           obtain ⟨y243, hy243⟩ : ∃ y_ : List Int, y_ = (y240 ++ t236) := ⟨_, rfl⟩
           replace H : (if x9_2.length < 5864062014805 then (if x10_2.length < 140737488355328 then (spec_PlayCommands.l0 k2 t236 (x9_2 ++ [y243]) (x10_2 ++ [true]) l2 (l2.length : Int) (wrap64 (x31_2 + 1)) a0_0 a0_1 l0_2 l0_3) else (none)) else (none)) = some (r1, r2, r3) := by first | (rw [hy243]; with_reducible exact H) | (have H2_ := (Option.bind_some _ _).symm.trans H; rw [hy243]; with_reducible exact H2_) | (have H2_ := (Option.bind_some _ _).symm.trans H; with_reducible exact H2_) | with_reducible exact H | (rw [hy243]; exact H) | exact H
           have Ny243 := am_ hy243
           clear hy243
           by_cases c27 : x9_2.length < 5864062014805
           ·rw [if_pos c27] at H
            have LMc27 := am_ c27
            clear c27
            obtain ⟨y246, hy246⟩ : ∃ y_ : List (List Int), y_ = (x9_2 ++ [y243]) := ⟨_, rfl⟩
            replace H : (if x10_2.length < 140737488355328 then (spec_PlayCommands.l0 k2 t236 y246 (x10_2 ++ [true]) l2 (l2.length : Int) (wrap64 (x31_2 + 1)) a0_0 a0_1 l0_2 l0_3) else (none)) = some (r1, r2, r3) := by first | (rw [hy246]; with_reducible exact H) | (have H2_ := (Option.bind_some _ _).symm.trans H; rw [hy246]; with_reducible exact H2_) | (have H2_ := (Option.bind_some _ _).symm.trans H; with_reducible exact H2_) | with_reducible exact H | (rw [hy246]; exact H) | exact H
            have Ny246 := am_ hy246
            clear hy246
            by_cases c28 : x10_2.length < 140737488355328
            ·rw [if_pos c28] at H
             have LMc28 := am_ c28
             clear c28
             obtain ⟨y249, hy249⟩ : ∃ y_ : List Bool, y_ = (x10_2 ++ [true]) := ⟨_, rfl⟩
             replace H : (spec_PlayCommands.l0 k2 t236 y246 y249 l2 (l2.length : Int) (wrap64 (x31_2 + 1)) a0_0 a0_1 l0_2 l0_3) = some (r1, r2, r3) := by first | (rw [hy249]; with_reducible exact H) | (have H2_ := (Option.bind_some _ _).symm.trans H; rw [hy249]; with_reducible exact H2_) | (have H2_ := (Option.bind_some _ _).symm.trans H; with_reducible exact H2_) | with_reducible exact H | (rw [hy249]; exact H) | exact H
             have Ny249 := am_ hy249
             clear hy249
             have H' := am_ H
             clear H
             have p235 : 0 ≤ (x31_2 : Int) := Sh.od
             have q235 : x31_2 < (l2.length : Int) := Sh.od
             obtain ⟨ad235, e235, hx235_0⟩ := Kd.at_int HR2.out x31_2 p235 q235
             cases e235
             try replace hx235_0 := Sh.cw hx235_0
             replace p235 := eq_true p235
             replace q235 := eq_true q235
             have hcz29_0 := Sh.bc BK232.out 0
             have hcz29_1 := Sh.bc BK232.out 1
             have hcz29_2 := Sh.bc BK232.out 2
             have hcz29_3 := Sh.bc BK232.out 3
             have hfz29_0 := blk_frozen BK232.out 0
             have hfz29_1 := blk_frozen BK232.out 1
             have hfz29_2 := blk_frozen BK232.out 2
             have hfz29_3 := blk_frozen BK232.out 3
             obtain ⟨Ao30, co30, eo30⟩ := Kd.V_slice HO_1.out
             subst eo30
             go_wp2_with (first | ((with_reducible refine Sh.k 26 ?_); refine Sh.gL (some 39) Tryz.func26 #[.agg #[.int .i64 a0_0, .int .i64 a0_1, .slice A0_2 l0_2.length c0_2, .slice A0_3 l0_3.length c0_3], .slice Ao30 x1_2.length co30, .int .i64 (rd l2 x31_2)] (h := ?_); (with_reducible refine (spec_StepBy.calls k2 a0_0 a0_1 _ _ l0_2 _ _ l0_3 _ _ x1_2 (rd l2 x31_2) t236 true _ (Sh.cB HR0_2.out) HC0_2.out (Sh.cB HR0_3.out) HC0_3.out (Sh.cR (Kd.V_reads' HO_1.out).2.2) (Kd.V_reads' HO_1.out).2.1 A24.out).mono ?_); rintro e w31 ⟨v237, rfl, ho0, hb⟩; refine ⟨_, rfl, ?_⟩; replace HO_1 := am_ (Kd.V_elder' (by (with_reducible repeat (first | apply Kd.V_alloc | apply Kd.V_drewN | apply Kd.V_drew)); exact HO_1.out) (Kd.R_base ho0) hb); replace HO_9 := am_ (Kd.S_elder' (by (with_reducible repeat (first | apply Kd.S_alloc | apply Kd.S_drewN | apply Kd.S_drew)); exact HO_9.out) (Kd.R_base ho0) hb); replace HO_10 := am_ (Kd.R_below (Sh.rl HO_10.out) hb); have HO238 := am_ (Kd.R_lower (Kd.R_newM (M := fun k_ => (w.heap.size ≤ k_)) ho0 (below_size Sh.bw) (fun k_ h_ => h_)) (below_size Sh.bw)); replace BK232 := Sh.ab BK232 hb; replace HB := Sh.hb hb; (try clear hb); (try clear hb2); (try clear hk); (try clear hi); (try clear ho0)) | ((with_reducible refine Sh.d 45 ?_); (try (refine gate_guard (by rfl) ?_; dsimp only)); refine Kd.R_lit (Kd.int .u64) _ 59 ?hg (N := 45) ?hd (xs := ([] : List Int)) (inner := []) (ok := fun _ => True) (okp := fun _ => True) ?hr ?hp (fun _ hk => hk) trivial (Below.refl _ _) (Nat.le_refl _) (by simp) ?_; (case hd => rfl); (case hg => rfl); (case hr => first | (go_simp; done) | (go_simp; rfl)); (case hp => exact (Reps.none _ _)); intro v241 w32 ho33 hb hg_ hnew_; clear hg_ hnew_; (first | rw [← Ny240.out] at ho33 | (simp only [Int.reduceToNat] at ho33; rw [← Ny240.out] at ho33)); replace HO_1 := am_ (Kd.V_elder' (by (with_reducible repeat (first | apply Kd.V_alloc | apply Kd.V_drewN | apply Kd.V_drew)); exact HO_1.out) (Kd.R_base ho33) hb); replace HO_9 := am_ (Kd.S_elder' (by (with_reducible repeat (first | apply Kd.S_alloc | apply Kd.S_drewN | apply Kd.S_drew)); exact HO_9.out) (Kd.R_base ho33) hb); replace HO_10 := am_ (Kd.R_below (Sh.rl HO_10.out) hb); have HO242 := am_ (Kd.R_lower (Kd.R_new' (Kd.R_newM (M := fun k_ => (w.heap.size ≤ k_)) ho33 (below_size Sh.bw) (fun k_ h_ => h_)) (Kd.R_lt (Sh.rl HO238.out))) (below_size Sh.bw)); replace HO238 := am_ (Kd.R_elder' (Sh.rl HO238.out) (Kd.R_base ho33) hb); replace BK232 := Sh.ab BK232 hb; replace HB := Sh.hb hb; clear hb ho33; obtain ⟨Ao35, co35, eo35⟩ := Kd.R_slice HO238.out; subst eo35) | ((with_reducible refine gate_builtin (b := .append) (xs := #[.tmp 45, .tmp 46]) rfl ?_); (try (refine gate_guard (by rfl) ?_; dsimp only)); at_builtin; refine Kd.R_append_rows (Kd.int .u64) (w0 := w) w.heap.size rfl (.tmp 45) (.tmp 46) 26 59 (.int .u64 0) 8 rfl Tryz.underlying26 info59 rfl (by decide) (by omega) v241 y240 t236 _ _ _ (fun k_ => (w.heap.size ≤ k_) ∧ some k_ ≠ (.slice Ao35 t236.length co35 : Value).ownBlock) (fun _ => False) rfl rfl ?aO ?aR (fun _ _ h => h) (fun _ h => h.elim) ?aF ?aB ?aS ?aL ?_; (case aR => repeat (first | exact (Kd.R_reads' HO238.out).2.2 | (with_reducible first | refine Kd.C_alloc ?_ _ | refine Kd.C_drewN ?_ _ | refine Kd.C_drew ?_))); (case aB => exact Sh.bw); (case aF => exact (fun k_ hk => ⟨(Nat.le_trans (below_size Sh.bw) hk), Kd.fresh' (Kd.R_lt (Sh.rl HO238.out)) k_ hk⟩)); (case aO => exact (Sh.rl (Kd.R_mono HO242.out (fun _ h => ⟨h.1.1, h.2⟩)))); (case aS => exact (below_size Sh.bw)); (case aL => have := LMc26.out; omega); intro v244 w34 ho hb hg hat; rw [← Ny243.out] at ho; have n0_ := am_ (Kd.V_afterv (ok := (fun k_ => (P1_ k_ ∨ w.heap.size ≤ k_) ∧ some k_ ≠ (u9 : Value).ownBlock ∧ some k_ ≠ (u10 : Value).ownBlock ∧ some k_ ≠ (.slice Ao35 t236.length co35 : Value).ownBlock ∧ k_ ≠ gb232)) (by (with_reducible repeat (first | apply Kd.V_alloc | apply Kd.V_drewN | apply Kd.V_drew)); exact Kd.V_mono HO_1.out (fun _ h => ⟨⟨h.1.1.1, h.1.1.2.1, h.1.1.2.2.1, h.1.2, h.1.1.2.2.2⟩, h.2⟩)) hg hat); have n1_ := am_ (Kd.S_after (ok := (fun k_ => (w.heap.size ≤ k_) ∧ some k_ ≠ (.slice Ao35 t236.length co35 : Value).ownBlock)) (by (with_reducible repeat (first | apply Kd.S_alloc | apply Kd.S_drewN | apply Kd.S_drew)); exact HO_9.out) hg hat); have n2_ := am_ (Kd.R_over' (Sh.rl HO_10.out) (Kd.R_typed (Sh.rl HO242.out)) (by decide) hg); have n3_ := am_ (blk_grown (g := gb232) (o := .cells #[.int .i64 a0_0, .int .i64 a0_1, .slice A0_2 l0_2.length c0_2, .slice A0_3 l0_3.length c0_3] 36 (0, 0)) (Sh.pl BK232.out) hg (Kd.R_ne HO242.out BK232.out (by decide))); have n4_ := am_ (Kd.R_after (ok := (fun k_ => (w.heap.size ≤ k_))) (Sh.rl (Kd.R_mono HO238.out (fun _ h => ⟨h.1.1, h.2⟩))) hg hat); have n5_ := am_ hb; have n6_ := am_ ho; clear HO_1; clear HO_9; clear HO_10; clear BK232; clear HO238; clear HB; clear HO242; have HO_1 := n0_; have HO_9 := n1_; have HO_10 := n2_; have BK232 := n3_; have HO238 := n4_; have HB := n5_; have HO245 := n6_; clear n0_ n1_ n2_ n3_ n4_ n5_ n6_; clear ho hb hg hat; obtain ⟨Ao37, co37, eo37⟩ := Kd.R_slice HO245.out; subst eo37) | ((with_reducible refine gate_builtin (b := .append) (xs := #[.tmp 44, .tmp 48]) rfl ?_); (try (refine gate_guard (by rfl) ?_; dsimp only)); at_builtin; refine Kd.S_append (Kd.slice 59 (Kd.int .u64)) (w0 := w) w.heap.size rfl (.tmp 44) (.tmp 48) 29 26 (.slice none 0 0) 24 rfl Tryz.underlying29 info26 rfl (by decide) (by omega) u9 x9_2 y243 [.slice Ao37 y243.length co37] (fun k_ => (w.heap.size ≤ k_) ∧ some k_ ≠ (.slice Ao35 t236.length co35 : Value).ownBlock) (fun k_ => some k_ = (.slice Ao37 y243.length co37 : Value).ownBlock) rfl rfl ?aP (fun k_ hk_ => ((Kd.R_mono (ok' := fun k_ => ((fun k_ => (w.heap.size ≤ k_) ∧ some k_ ≠ (.slice Ao35 t236.length co35 : Value).ownBlock)) k_ ∧ some k_ ≠ (u9 : Value).ownBlock) (Kd.R_apart' (HO245.out) (Kd.S_typed HO_9.out) (by decide)) (fun k_ h => ⟨⟨h.1.1, h.1.2⟩, h.2⟩))).1 k_ hk_.symm) ?aF ?aO ?aB ?aS ?aL ?_; (case aP => exact Kd.M_row (Kd.R_mono (Kd.R_tight rfl (Kd.R_mono (ok' := fun k_ => ((fun k_ => (w.heap.size ≤ k_) ∧ some k_ ≠ (.slice Ao35 t236.length co35 : Value).ownBlock)) k_ ∧ some k_ ≠ (u9 : Value).ownBlock) (Kd.R_apart' (HO245.out) (Kd.S_typed HO_9.out) (by decide)) (fun k_ h => ⟨⟨h.1.1, h.1.2⟩, h.2⟩))) (fun _ h_ => h_))); (case aB => exact Sh.bw); (case aF => exact (fun k_ hk => ⟨(Nat.le_trans (below_size Sh.bw) hk), Kd.fresh' (Kd.R_lt (Sh.rl HO238.out)) k_ hk⟩)); (case aO => exact (by (with_reducible repeat (first | apply Kd.S_alloc | apply Kd.S_drewN | apply Kd.S_drew)); exact Kd.S_mono HO_9.out (fun k_ hk => ⟨⟨hk.1.1, hk.1.2⟩, fun e_ => hk.2 e_⟩))); (case aS => exact (below_size Sh.bw)); (case aL => have := LMc27.out; omega); intro v247 w36 ho hb hg hat; rw [← Ny246.out] at ho; have n0_ := am_ (Kd.V_afterv (ok := (fun k_ => (P1_ k_ ∨ w.heap.size ≤ k_) ∧ some k_ ≠ (u10 : Value).ownBlock ∧ some k_ ≠ (.slice Ao35 t236.length co35 : Value).ownBlock ∧ some k_ ≠ (.slice Ao37 y243.length co37 : Value).ownBlock ∧ k_ ≠ gb232)) (by (with_reducible repeat (first | apply Kd.V_alloc | apply Kd.V_drewN | apply Kd.V_drew)); exact Kd.V_mono HO_1.out (fun _ h => ⟨⟨h.1.1, h.1.2.2.1, h.1.2.2.2.1, h.2, h.1.2.2.2.2⟩, h.1.2.1⟩)) hg hat); have n1_ := am_ (Kd.R_over' (Sh.rl HO_10.out) (Kd.S_typed (by (with_reducible repeat (first | apply Kd.S_alloc | apply Kd.S_drewN | apply Kd.S_drew)); exact HO_9.out)) (by decide) hg); have n2_ := am_ (blk_grown (g := gb232) (o := .cells #[.int .i64 a0_0, .int .i64 a0_1, .slice A0_2 l0_2.length c0_2, .slice A0_3 l0_3.length c0_3] 36 (0, 0)) (Sh.pl BK232.out) hg (Kd.S_ne HO_9.out BK232.out (by decide))); have n3_ := am_ (Kd.R_over' (Sh.rl HO238.out) (Kd.S_typed (by (with_reducible repeat (first | apply Kd.S_alloc | apply Kd.S_drewN | apply Kd.S_drew)); exact HO_9.out)) (by decide) hg); have n4_ := am_ hb; have n5_ := am_ ho; clear HO_1; clear HO_10; clear BK232; clear HO238; clear HB; clear HO_9; clear HO245; have HO_1 := n0_; have HO_10 := n1_; have BK232 := n2_; have HO238 := n3_; have HB := n4_; have HO248 := n5_; clear n0_ n1_ n2_ n3_ n4_ n5_; clear ho hb hg hat) | ((with_reducible refine gate_builtin (b := .append) (xs := #[.tmp 50, .tmp 52]) rfl ?_); (try (refine gate_guard (by rfl) ?_; dsimp only)); at_builtin; refine Kd.R_append Kd.bool (w0 := w) w.heap.size rfl (.tmp 50) (.tmp 52) 30 4 (.bool false) 1 rfl Tryz.underlying30 info4 rfl (by decide) (by omega) u10 x10_2 true [.bool true] (fun k_ => (w.heap.size ≤ k_)) (fun _ => False) rfl rfl ?aP (fun _ hk => hk.elim) ?aF ?aO ?aB ?aS ?aL ?_; (case aP => exact rfl); (case aB => exact Sh.bw); (case aF => exact (fun k_ hk => (Nat.le_trans (below_size Sh.bw) hk))); (case aO => exact (Sh.rl HO_10.out)); (case aS => exact (below_size Sh.bw)); (case aL => have := LMc28.out; omega); intro v250 w38 ho hb hg hat; rw [← Ny249.out] at ho; have n0_ := am_ (Kd.V_afterv (ok := (fun k_ => (P1_ k_ ∨ w.heap.size ≤ k_) ∧ some k_ ≠ (.slice Ao35 t236.length co35 : Value).ownBlock ∧ some k_ ≠ (v247 : Value).ownBlock ∧ k_ ≠ gb232)) (by (with_reducible repeat (first | apply Kd.V_alloc | apply Kd.V_drewN | apply Kd.V_drew)); exact Kd.V_mono HO_1.out (fun _ h => ⟨⟨h.1.1, h.1.2.2.1, h.2, h.1.2.2.2.2⟩, h.1.2.1⟩)) hg hat); have n1_ := am_ (blk_grown (g := gb232) (o := .cells #[.int .i64 a0_0, .int .i64 a0_1, .slice A0_2 l0_2.length c0_2, .slice A0_3 l0_3.length c0_3] 36 (0, 0)) (Sh.pl BK232.out) hg (Kd.R_ne HO_10.out BK232.out (by decide))); have n2_ := am_ (Kd.R_over' (Sh.rl HO238.out) (Kd.R_typed (Sh.rl HO_10.out)) (by decide) hg); have n3_ := am_ (Kd.S_over' (by (with_reducible repeat (first | apply Kd.S_alloc | apply Kd.S_drewN | apply Kd.S_drew)); exact HO248.out) (Kd.R_typed (Sh.rl HO_10.out)) (by decide) hg); have n4_ := am_ hb; have n5_ := am_ ho; clear HO_1; clear BK232; clear HO238; clear HO248; clear HB; clear HO_10; have HO_1 := n0_; have BK232 := n1_; have HO238 := n2_; have HO248 := n3_; have HB := n4_; have HO251 := n5_; clear n0_ n1_ n2_ n3_ n4_ n5_; clear ho hb hg hat))
             go_roundg k2
             case measure => have := HJ3.out; have := HK2.out; omega
             case rel => exact ⟨(t236), (y246), (y249), (wrap64 (x31_2 + 1)), (Sh.es), H', ⟨by have := HJ3.out; have := HK2.out; omega⟩, ⟨Kd.V_mono (Kd.R_V (Sh.rl (Kd.R_types (Kd.R_apart' (Kd.R_apart' HO238.out (Kd.S_typed HO248.out) (by decide)) (Kd.R_typed HO251.out) (by decide)) BK232.out (by decide)))) (fun _ h => ⟨.inr h.1.1.1.1, h.1.1.2, h.1.2, h.2⟩)⟩, ⟨by (with_reducible repeat (first | apply Kd.S_alloc | apply Kd.S_drewN | apply Kd.S_drew)); exact Kd.S_mono HO248.out (fun _ hk => hk.1)⟩, ⟨Sh.rl HO251.out⟩, ⟨by refine Sh.pl ?_; exact BK232.out⟩, ⟨Sh.bw⟩⟩
            ·rw [if_neg c28] at H
             exact absurd H (by simp)
           ·rw [if_neg c27] at H
            exact absurd H (by simp)
          ·rw [if_neg c26] at H
           exact absurd H (by simp)
         ·replace c25 := Bool.eq_false_iff.mpr c25
          subst c25
          rw [Sh.nf] at H
          obtain ⟨y252, hy252⟩ : ∃ y_ : List Int, y_ = (([] : List Int)) := ⟨_, rfl⟩
          replace H : (if y252.length + x1_2.length < 17592186044416 then (if x9_2.length < 5864062014805 then (if x10_2.length < 140737488355328 then (spec_PlayCommands.l0 k2 x1_2 (x9_2 ++ [(y252 ++ x1_2)]) (x10_2 ++ [false]) l2 (l2.length : Int) (wrap64 (x31_2 + 1)) a0_0 a0_1 l0_2 l0_3) else (none)) else (none)) else (none)) = some (r1, r2, r3) := by first | (rw [hy252]; with_reducible exact H) | (have H2_ := (Option.bind_some _ _).symm.trans H; rw [hy252]; with_reducible exact H2_) | (have H2_ := (Option.bind_some _ _).symm.trans H; with_reducible exact H2_) | with_reducible exact H | (rw [hy252]; exact H) | exact H
          have Ny252 := am_ hy252
          clear hy252
          by_cases c39 : y252.length + x1_2.length < 17592186044416
          ·rw [if_pos c39] at H
           have LMc39 := am_ c39
           clear c39
           obtain ⟨y255, hy255⟩ : ∃ y_ : List Int, y_ = (y252 ++ x1_2) := ⟨_, rfl⟩
           replace H : (if x9_2.length < 5864062014805 then (if x10_2.length < 140737488355328 then (spec_PlayCommands.l0 k2 x1_2 (x9_2 ++ [y255]) (x10_2 ++ [false]) l2 (l2.length : Int) (wrap64 (x31_2 + 1)) a0_0 a0_1 l0_2 l0_3) else (none)) else (none)) = some (r1, r2, r3) := by first | (rw [hy255]; with_reducible exact H) | (have H2_ := (Option.bind_some _ _).symm.trans H; rw [hy255]; with_reducible exact H2_) | (have H2_ := (Option.bind_some _ _).symm.trans H; with_reducible exact H2_) | with_reducible exact H | (rw [hy255]; exact H) | exact H
           have Ny255 := am_ hy255
           clear hy255
           by_cases c40 : x9_2.length < 5864062014805
           ·rw [if_pos c40] at H
            have LMc40 := am_ c40
            clear c40
            obtain ⟨y258, hy258⟩ : ∃ y_ : List (List Int), y_ = (x9_2 ++ [y255]) := ⟨_, rfl⟩
            replace H : (if x10_2.length < 140737488355328 then (spec_PlayCommands.l0 k2 x1_2 y258 (x10_2 ++ [false]) l2 (l2.length : Int) (wrap64 (x31_2 + 1)) a0_0 a0_1 l0_2 l0_3) else (none)) = some (r1, r2, r3) := by first | (rw [hy258]; with_reducible exact H) | (have H2_ := (Option.bind_some _ _).symm.trans H; rw [hy258]; with_reducible exact H2_) | (have H2_ := (Option.bind_some _ _).symm.trans H; with_reducible exact H2_) | with_reducible exact H | (rw [hy258]; exact H) | exact H
            have Ny258 := am_ hy258
            clear hy258
            by_cases c41 : x10_2.length < 140737488355328
            ·rw [if_pos c41] at H
             have LMc41 := am_ c41
             clear c41
             obtain ⟨y261, hy261⟩ : ∃ y_ : List Bool, y_ = (x10_2 ++ [false]) := ⟨_, rfl⟩
             replace H : (spec_PlayCommands.l0 k2 x1_2 y258 y261 l2 (l2.length : Int) (wrap64 (x31_2 + 1)) a0_0 a0_1 l0_2 l0_3) = some (r1, r2, r3) := by first | (rw [hy261]; with_reducible exact H) | (have H2_ := (Option.bind_some _ _).symm.trans H; rw [hy261]; with_reducible exact H2_) | (have H2_ := (Option.bind_some _ _).symm.trans H; with_reducible exact H2_) | with_reducible exact H | (rw [hy261]; exact H) | exact H
             have Ny261 := am_ hy261
             clear hy261
             have H' := am_ H
             clear H
             have p235 : 0 ≤ (x31_2 : Int) := Sh.od
             have q235 : x31_2 < (l2.length : Int) := Sh.od
             obtain ⟨ad235, e235, hx235_0⟩ := Kd.at_int HR2.out x31_2 p235 q235
             cases e235
             try replace hx235_0 := Sh.cw hx235_0
             replace p235 := eq_true p235
             replace q235 := eq_true q235
             have hcz42_0 := Sh.bc BK232.out 0
             have hcz42_1 := Sh.bc BK232.out 1
             have hcz42_2 := Sh.bc BK232.out 2
             have hcz42_3 := Sh.bc BK232.out 3
             have hfz42_0 := blk_frozen BK232.out 0
             have hfz42_1 := blk_frozen BK232.out 1
             have hfz42_2 := blk_frozen BK232.out 2
             have hfz42_3 := blk_frozen BK232.out 3
             obtain ⟨Ao43, co43, eo43⟩ := Kd.V_slice HO_1.out
             subst eo43
             go_wp2_with (first | ((with_reducible refine Sh.k 26 ?_); refine Sh.gL (some 39) Tryz.func26 #[.agg #[.int .i64 a0_0, .int .i64 a0_1, .slice A0_2 l0_2.length c0_2, .slice A0_3 l0_3.length c0_3], .slice Ao43 x1_2.length co43, .int .i64 (rd l2 x31_2)] (h := ?_); (with_reducible refine (spec_StepBy.calls k2 a0_0 a0_1 _ _ l0_2 _ _ l0_3 _ _ x1_2 (rd l2 x31_2) t236 false _ (Sh.cB HR0_2.out) HC0_2.out (Sh.cB HR0_3.out) HC0_3.out (Sh.cR (Kd.V_reads' HO_1.out).2.2) (Kd.V_reads' HO_1.out).2.1 A24.out).mono ?_); rintro e w44 ⟨v237, rfl, ho0, hb⟩; refine ⟨_, rfl, ?_⟩; replace HO_1 := am_ (Kd.V_elder' (by (with_reducible repeat (first | apply Kd.V_alloc | apply Kd.V_drewN | apply Kd.V_drew)); exact HO_1.out) (Kd.R_base ho0) hb); replace HO_9 := am_ (Kd.S_elder' (by (with_reducible repeat (first | apply Kd.S_alloc | apply Kd.S_drewN | apply Kd.S_drew)); exact HO_9.out) (Kd.R_base ho0) hb); replace HO_10 := am_ (Kd.R_below (Sh.rl HO_10.out) hb); have HO238 := am_ (Kd.R_lower (Kd.R_newM (M := fun k_ => (w.heap.size ≤ k_)) ho0 (below_size Sh.bw) (fun k_ h_ => h_)) (below_size Sh.bw)); replace BK232 := Sh.ab BK232 hb; replace HB := Sh.hb hb; (try clear hb); (try clear hb2); (try clear hk); (try clear hi); (try clear ho0)) | ((with_reducible refine Sh.d 45 ?_); (try (refine gate_guard (by rfl) ?_; dsimp only)); refine Kd.R_lit (Kd.int .u64) _ 59 ?hg (N := 45) ?hd (xs := ([] : List Int)) (inner := []) (ok := fun _ => True) (okp := fun _ => True) ?hr ?hp (fun _ hk => hk) trivial (Below.refl _ _) (Nat.le_refl _) (by simp) ?_; (case hd => rfl); (case hg => rfl); (case hr => first | (go_simp; done) | (go_simp; rfl)); (case hp => exact (Reps.none _ _)); intro v253 w45 ho46 hb hg_ hnew_; clear hg_ hnew_; (first | rw [← Ny252.out] at ho46 | (simp only [Int.reduceToNat] at ho46; rw [← Ny252.out] at ho46)); replace HO_1 := am_ (Kd.V_elder' (by (with_reducible repeat (first | apply Kd.V_alloc | apply Kd.V_drewN | apply Kd.V_drew)); exact HO_1.out) (Kd.R_base ho46) hb); replace HO_9 := am_ (Kd.S_elder' (by (with_reducible repeat (first | apply Kd.S_alloc | apply Kd.S_drewN | apply Kd.S_drew)); exact HO_9.out) (Kd.R_base ho46) hb); replace HO_10 := am_ (Kd.R_below (Sh.rl HO_10.out) hb); have HO254 := am_ (Kd.R_lower (Kd.R_new' (Kd.R_newM (M := fun k_ => (w.heap.size ≤ k_)) ho46 (below_size Sh.bw) (fun k_ h_ => h_)) (Kd.R_lt (Sh.rl HO238.out))) (below_size Sh.bw)); replace HO238 := am_ (Kd.R_elder' (Sh.rl HO238.out) (Kd.R_base ho46) hb); replace BK232 := Sh.ab BK232 hb; replace HB := Sh.hb hb; clear hb ho46) | ((with_reducible refine gate_builtin (b := .append) (xs := #[.tmp 45, .tmp 46]) rfl ?_); (try (refine gate_guard (by rfl) ?_; dsimp only)); at_builtin; refine Kd.R_append_rows (Kd.int .u64) (w0 := w) w.heap.size rfl (.tmp 45) (.tmp 46) 26 59 (.int .u64 0) 8 rfl Tryz.underlying26 info59 rfl (by decide) (by omega) v253 y252 x1_2 _ _ _ (fun k_ => (w.heap.size ≤ k_) ∧ some k_ ≠ (v237 : Value).ownBlock) (fun _ => False) rfl rfl ?aO ?aR (fun _ _ h => h) (fun _ h => h.elim) ?aF ?aB ?aS ?aL ?_; (case aR => repeat (first | exact (Kd.V_reads' HO_1.out).2.2 | (with_reducible first | refine Kd.C_alloc ?_ _ | refine Kd.C_drewN ?_ _ | refine Kd.C_drew ?_))); (case aB => exact Sh.bw); (case aF => exact (fun k_ hk => ⟨(Nat.le_trans (below_size Sh.bw) hk), Kd.fresh' (Kd.R_lt (Sh.rl HO238.out)) k_ hk⟩)); (case aO => exact (Sh.rl (Kd.R_mono HO254.out (fun _ h => ⟨h.1.1, h.2⟩)))); (case aS => exact (below_size Sh.bw)); (case aL => have := LMc39.out; omega); intro v256 w47 ho hb hg hat; rw [← Ny255.out] at ho; have n0_ := am_ (Kd.V_afterv (ok := (fun k_ => (P1_ k_ ∨ w.heap.size ≤ k_) ∧ some k_ ≠ (u9 : Value).ownBlock ∧ some k_ ≠ (u10 : Value).ownBlock ∧ some k_ ≠ (v237 : Value).ownBlock ∧ k_ ≠ gb232)) (by (with_reducible repeat (first | apply Kd.V_alloc | apply Kd.V_drewN | apply Kd.V_drew)); exact Kd.V_mono HO_1.out (fun _ h => ⟨⟨h.1.1.1, h.1.1.2.1, h.1.1.2.2.1, h.1.2, h.1.1.2.2.2⟩, h.2⟩)) hg hat); have n1_ := am_ (Kd.S_after (ok := (fun k_ => (w.heap.size ≤ k_) ∧ some k_ ≠ (v237 : Value).ownBlock)) (by (with_reducible repeat (first | apply Kd.S_alloc | apply Kd.S_drewN | apply Kd.S_drew)); exact HO_9.out) hg hat); have n2_ := am_ (Kd.R_over' (Sh.rl HO_10.out) (Kd.R_typed (Sh.rl HO254.out)) (by decide) hg); have n3_ := am_ (blk_grown (g := gb232) (o := .cells #[.int .i64 a0_0, .int .i64 a0_1, .slice A0_2 l0_2.length c0_2, .slice A0_3 l0_3.length c0_3] 36 (0, 0)) (Sh.pl BK232.out) hg (Kd.R_ne HO254.out BK232.out (by decide))); have n4_ := am_ (Kd.R_after (ok := (fun k_ => (w.heap.size ≤ k_))) (Sh.rl (Kd.R_mono HO238.out (fun _ h => ⟨h.1.1, h.2⟩))) hg hat); have n5_ := am_ hb; have n6_ := am_ ho; clear HO_1; clear HO_9; clear HO_10; clear BK232; clear HO238; clear HB; clear HO254; have HO_1 := n0_; have HO_9 := n1_; have HO_10 := n2_; have BK232 := n3_; have HO238 := n4_; have HB := n5_; have HO257 := n6_; clear n0_ n1_ n2_ n3_ n4_ n5_ n6_; clear ho hb hg hat; obtain ⟨Ao49, co49, eo49⟩ := Kd.R_slice HO257.out; subst eo49) | ((with_reducible refine gate_builtin (b := .append) (xs := #[.tmp 44, .tmp 48]) rfl ?_); (try (refine gate_guard (by rfl) ?_; dsimp only)); at_builtin; refine Kd.S_append (Kd.slice 59 (Kd.int .u64)) (w0 := w) w.heap.size rfl (.tmp 44) (.tmp 48) 29 26 (.slice none 0 0) 24 rfl Tryz.underlying29 info26 rfl (by decide) (by omega) u9 x9_2 y255 [.slice Ao49 y255.length co49] (fun k_ => (w.heap.size ≤ k_) ∧ some k_ ≠ (v237 : Value).ownBlock) (fun k_ => some k_ = (.slice Ao49 y255.length co49 : Value).ownBlock) rfl rfl ?aP (fun k_ hk_ => ((Kd.R_mono (ok' := fun k_ => ((fun k_ => (w.heap.size ≤ k_) ∧ some k_ ≠ (v237 : Value).ownBlock)) k_ ∧ some k_ ≠ (u9 : Value).ownBlock) (Kd.R_apart' (HO257.out) (Kd.S_typed HO_9.out) (by decide)) (fun k_ h => ⟨⟨h.1.1, h.1.2⟩, h.2⟩))).1 k_ hk_.symm) ?aF ?aO ?aB ?aS ?aL ?_; (case aP => exact Kd.M_row (Kd.R_mono (Kd.R_tight rfl (Kd.R_mono (ok' := fun k_ => ((fun k_ => (w.heap.size ≤ k_) ∧ some k_ ≠ (v237 : Value).ownBlock)) k_ ∧ some k_ ≠ (u9 : Value).ownBlock) (Kd.R_apart' (HO257.out) (Kd.S_typed HO_9.out) (by decide)) (fun k_ h => ⟨⟨h.1.1, h.1.2⟩, h.2⟩))) (fun _ h_ => h_))); (case aB => exact Sh.bw); (case aF => exact (fun k_ hk => ⟨(Nat.le_trans (below_size Sh.bw) hk), Kd.fresh' (Kd.R_lt (Sh.rl HO238.out)) k_ hk⟩)); (case aO => exact (by (with_reducible repeat (first | apply Kd.S_alloc | apply Kd.S_drewN | apply Kd.S_drew)); exact Kd.S_mono HO_9.out (fun k_ hk => ⟨⟨hk.1.1, hk.1.2⟩, fun e_ => hk.2 e_⟩))); (case aS => exact (below_size Sh.bw)); (case aL => have := LMc40.out; omega); intro v259 w48 ho hb hg hat; rw [← Ny258.out] at ho; have n0_ := am_ (Kd.V_afterv (ok := (fun k_ => (P1_ k_ ∨ w.heap.size ≤ k_) ∧ some k_ ≠ (u10 : Value).ownBlock ∧ some k_ ≠ (v237 : Value).ownBlock ∧ some k_ ≠ (.slice Ao49 y255.length co49 : Value).ownBlock ∧ k_ ≠ gb232)) (by (with_reducible repeat (first | apply Kd.V_alloc | apply Kd.V_drewN | apply Kd.V_drew)); exact Kd.V_mono HO_1.out (fun _ h => ⟨⟨h.1.1, h.1.2.2.1, h.1.2.2.2.1, h.2, h.1.2.2.2.2⟩, h.1.2.1⟩)) hg hat); have n1_ := am_ (Kd.R_over' (Sh.rl HO_10.out) (Kd.S_typed (by (with_reducible repeat (first | apply Kd.S_alloc | apply Kd.S_drewN | apply Kd.S_drew)); exact HO_9.out)) (by decide) hg); have n2_ := am_ (blk_grown (g := gb232) (o := .cells #[.int .i64 a0_0, .int .i64 a0_1, .slice A0_2 l0_2.length c0_2, .slice A0_3 l0_3.length c0_3] 36 (0, 0)) (Sh.pl BK232.out) hg (Kd.S_ne HO_9.out BK232.out (by decide))); have n3_ := am_ (Kd.R_over' (Sh.rl HO238.out) (Kd.S_typed (by (with_reducible repeat (first | apply Kd.S_alloc | apply Kd.S_drewN | apply Kd.S_drew)); exact HO_9.out)) (by decide) hg); have n4_ := am_ hb; have n5_ := am_ ho; clear HO_1; clear HO_10; clear BK232; clear HO238; clear HB; clear HO_9; clear HO257; have HO_1 := n0_; have HO_10 := n1_; have BK232 := n2_; have HO238 := n3_; have HB := n4_; have HO260 := n5_; clear n0_ n1_ n2_ n3_ n4_ n5_; clear ho hb hg hat) | ((with_reducible refine gate_builtin (b := .append) (xs := #[.tmp 50, .tmp 52]) rfl ?_); (try (refine gate_guard (by rfl) ?_; dsimp only)); at_builtin; refine Kd.R_append Kd.bool (w0 := w) w.heap.size rfl (.tmp 50) (.tmp 52) 30 4 (.bool false) 1 rfl Tryz.underlying30 info4 rfl (by decide) (by omega) u10 x10_2 false [.bool false] (fun k_ => (w.heap.size ≤ k_)) (fun _ => False) rfl rfl ?aP (fun _ hk => hk.elim) ?aF ?aO ?aB ?aS ?aL ?_; (case aP => exact rfl); (case aB => exact Sh.bw); (case aF => exact (fun k_ hk => (Nat.le_trans (below_size Sh.bw) hk))); (case aO => exact (Sh.rl HO_10.out)); (case aS => exact (below_size Sh.bw)); (case aL => have := LMc41.out; omega); intro v262 w50 ho hb hg hat; rw [← Ny261.out] at ho; have n0_ := am_ (Kd.V_afterv (ok := (fun k_ => (P1_ k_ ∨ w.heap.size ≤ k_) ∧ some k_ ≠ (v237 : Value).ownBlock ∧ some k_ ≠ (v259 : Value).ownBlock ∧ k_ ≠ gb232)) (by (with_reducible repeat (first | apply Kd.V_alloc | apply Kd.V_drewN | apply Kd.V_drew)); exact Kd.V_mono HO_1.out (fun _ h => ⟨⟨h.1.1, h.1.2.2.1, h.2, h.1.2.2.2.2⟩, h.1.2.1⟩)) hg hat); have n1_ := am_ (blk_grown (g := gb232) (o := .cells #[.int .i64 a0_0, .int .i64 a0_1, .slice A0_2 l0_2.length c0_2, .slice A0_3 l0_3.length c0_3] 36 (0, 0)) (Sh.pl BK232.out) hg (Kd.R_ne HO_10.out BK232.out (by decide))); have n2_ := am_ (Kd.R_over' (Sh.rl HO238.out) (Kd.R_typed (Sh.rl HO_10.out)) (by decide) hg); have n3_ := am_ (Kd.S_over' (by (with_reducible repeat (first | apply Kd.S_alloc | apply Kd.S_drewN | apply Kd.S_drew)); exact HO260.out) (Kd.R_typed (Sh.rl HO_10.out)) (by decide) hg); have n4_ := am_ hb; have n5_ := am_ ho; clear HO_1; clear BK232; clear HO238; clear HO260; clear HB; clear HO_10; have HO_1 := n0_; have BK232 := n1_; have HO238 := n2_; have HO260 := n3_; have HB := n4_; have HO263 := n5_; clear n0_ n1_ n2_ n3_ n4_ n5_; clear ho hb hg hat))
             go_roundg k2
             case measure => have := HJ3.out; have := HK2.out; omega
             case rel => exact ⟨(x1_2), (y258), (y261), (wrap64 (x31_2 + 1)), (Sh.es), H', ⟨by have := HJ3.out; have := HK2.out; omega⟩, ⟨by (with_reducible repeat (first | apply Kd.V_alloc | apply Kd.V_drewN | apply Kd.V_drew)); exact Kd.V_mono HO_1.out (fun _ h => ⟨h.1.1, h.1.2.2.1, h.2, h.1.2.2.2⟩)⟩, ⟨by (with_reducible repeat (first | apply Kd.S_alloc | apply Kd.S_drewN | apply Kd.S_drew)); exact Kd.S_mono HO260.out (fun _ hk => hk.1)⟩, ⟨Sh.rl HO263.out⟩, ⟨by refine Sh.pl ?_; exact BK232.out⟩, ⟨Sh.bw⟩⟩
            ·rw [if_neg c41] at H
             exact absurd H (by simp)
           ·rw [if_neg c40] at H
            exact absurd H (by simp)
          ·rw [if_neg c39] at H
           exact absurd H (by simp)
        ·rw [if_neg c23] at H
         exact absurd H (by simp)
       ·rw [if_neg c22] at H
        exact absurd H (by simp)
      ·rw [if_neg c21] at H
       have c21b0 := decide_eq_false c21
       clear c21
       simp only [Option.some.injEq, Prod.mk.injEq] at H
       obtain ⟨rfl, rfl, rfl⟩ := H
       go_wp2
       go_ret3
       exact ⟨_, _, by first | rfl | (simp [errW_none, errW_some] <;> rfl) | (simp [*, errW_none, errW_some] <;> rfl), by (with_reducible repeat (first | apply Kd.S_alloc | apply Kd.S_drewN | apply Kd.S_drew)); exact HO_9.out, Sh.rl HO_10.out, Sh.bw⟩
def laws_toNode.f (a0_0 : Int) (a0_1 : Int) : Option (Int × Int) := some (a0_0, a0_1)
theorem laws_toNode.calls (a0_0 : Int) (a0_1 : Int) (r1 : Int) (r2 : Int) (w : World) (h : laws_toNode.f a0_0 a0_1 = some (r1, r2)) :
  Calls Tryz.prog 45 #[.agg #[.int .i64 a0_0, .int .u64 a0_1]] w fun e w' => e = .returned (.agg #[.int .i64 r1, .int .u64 r2]) ∧ Below w.heap.size w w' := by
 have hu82 := Tryz.underlying82
 have hu80 := Tryz.underlying80
 have HB := am_ (Below.refl w.heap.size w)
 have H := h
 clear h
 unfold laws_toNode.f at H
 simp only [Option.some.injEq, Prod.mk.injEq] at H
 obtain ⟨rfl, rfl⟩ := H
 go_enter Tryz.func45, Tryz.ntmps45
 go_wp2_with (first | ((with_reducible refine Sh.d 1 ?_); refine Sh.bz w (N := 1) (cs := #[.int .i64 a0_0, .int .u64 a0_1]) (t := 82) (h := ?_); clear HB; intro gb264 w2 BK264 GE264 HB) | ((with_reducible refine Sh.d 2 ?_); refine Sh.bx (N := 2) (cs := #[.int .i64 0, .int .u64 0]) (t := 80) (h := ?_); intro gb265 hg w3 hbox hb; have BK265 := am_ hbox; have GE265 := Sh.ag w hg; replace HB := Sh.hb hb; have NB264_265 := am_ (Sh.nl hg BK264.out); have NB265_264 := am_ (Sh.ng hg BK264.out); replace BK264 := Sh.ab BK264 hb; clear hb hbox hg) | ((with_reducible refine Sh.d 3 ?_); refine Sh.bx (N := 3) (cs := #[.int .i64 0, .int .u64 0]) (t := 80) (h := ?_); intro gb266 hg w4 hbox hb; have BK266 := am_ hbox; have GE266 := Sh.ag w hg; replace HB := Sh.hb hb; have NB264_266 := am_ (Sh.nl hg BK264.out); have NB266_264 := am_ (Sh.ng hg BK264.out); replace BK264 := Sh.ab BK264 hb; have NB265_266 := am_ (Sh.nl hg BK265.out); have NB266_265 := am_ (Sh.ng hg BK265.out); replace BK265 := Sh.ab BK265 hb; clear hb hbox hg; have hnb5 := NB264_265.out; have hnc5 := NB265_264.out; have hnb6 := NB264_266.out; have hnc6 := NB266_264.out; obtain ⟨hcz7_0, hcz7_1, hfz7_0, hfz7_1⟩ := Sh.b2 BK264.out; have hnb8 := NB266_265.out; have hnc8 := NB265_266.out; obtain ⟨hcz9_0, hcz9_1, hfz9_0, hfz9_1⟩ := Sh.b2 BK266.out; obtain ⟨hcz10_0, hcz10_1, hfz10_0, hfz10_1⟩ := Sh.b2 BK265.out))
 refine bodyPost_ret (results_cell_row rfl _ _ gb265 80 #[.int .i64 a0_0, .int .u64 a0_1] (0, 0) _ rfl (by refine Sh.pl ?_; refine blk_put (cs := #[.int .i64 a0_0, .int .u64 0]) ?_ 1 _ rfl; refine Sh.pl ?_; refine blk_put (cs := #[.int .i64 0, .int .u64 0]) ?_ 0 _ rfl; refine Sh.pl ?_; refine blk_far ?_ NB265_266.out _; refine Sh.pl ?_; refine blk_far ?_ NB265_266.out _; refine Sh.pl ?_; exact BK265.out) Tryz.underlying80 rfl (by kernel_rfl)) rfl ?_
 exact ⟨Sh.eR, Sh.bw⟩
def laws_toNodeS.l0 : Nat → List (S82) → List (S80) → Int → Option ((List (S80)))
 | 0, _, _, _ => none
 | k + 1, x0, x3, x4 => if x4 < (x0.length : Int) then (if 0 ≤ x4 then ((laws_toNode.f ((rd_T82 x0 x4).f0) ((rd_T82 x0 x4).f1)).bind fun bt271 => (if x4 < (x3.length : Int) then (laws_toNodeS.l0 k x0 (x3.set (x4 : Int).toNat (⟨bt271.1, bt271.2⟩ : S80)) (wrap64 (x4 + 1))) else (none))) else (none)) else (some x3)
def laws_toNodeS.f (k : Nat) (l0 : List (S82)) : Option ((List (S80))) := if 0 ≤ (l0.length : Int) then (if ((l0.length : Int) : Int).toNat ≤ 17592186044416 then (laws_toNodeS.l0 k l0 (List.replicate ((l0.length : Int) : Int).toNat z80) 0) else (none)) else (none)
theorem laws_toNodeS.mono_l : ∀ k, (∀ y0 y1 y2, LeO (laws_toNodeS.l0 k y0 y1 y2) (laws_toNodeS.l0 (k + 1) y0 y1 y2))
 | 0 => fun _ _ _ r h => by simp [laws_toNodeS.l0] at h
 | k + 1 => by
  have ih0 := laws_toNodeS.mono_l k
  ·intro y0 y1 y2
   unfold laws_toNodeS.l0
   repeat' with_reducible first | apply ih0 | exact LeO.refl _ | exact LeO.none _ | apply LeO.ite | refine LeO.bind ?_ fun _ => ?_
theorem laws_toNodeS.mono : ∀ a0 k, LeO (laws_toNodeS.f k a0) (laws_toNodeS.f (k + 1) a0) := by
 intro a0 k
 have ih0 := laws_toNodeS.mono_l k
 unfold laws_toNodeS.f
 repeat' with_reducible first | apply ih0 | exact LeO.refl _ | exact LeO.none _ | apply LeO.ite | refine LeO.bind ?_ fun _ => ?_
theorem laws_toNodeS.calls (k : Nat) (A0 : Option Addr) (c0 : Nat) (l0 : List (S82)) (r : List (S80)) (w : World) (hr0 : Kd.C k82 w A0 l0.length l0) (hc0 : l0.length ≤ c0) (h : laws_toNodeS.f k l0 = some r) :
  Calls Tryz.prog 27 #[.slice A0 l0.length c0] w fun e w' => ∃ v0_ : Value, e = .returned (v0_) ∧ Kd.R k80 80 w' w.heap.size (fun _ => True) v0_ r ∧ Below w.heap.size w w' := by
 have hu82 := Tryz.underlying82
 have hu80 := Tryz.underlying80
 have HR0 := am_ hr0
 have HC0 := am_ hc0
 clear hr0 hc0
 have HB := am_ (Below.refl w.heap.size w)
 have H := h
 clear h
 unfold laws_toNodeS.f at H
 by_cases c2 : 0 ≤ (l0.length : Int)
 ·rw [if_pos c2] at H
  have c2b0 := eq_true c2
  have c2b1 := decide_eq_true c2
  clear c2
  by_cases c3 : ((l0.length : Int) : Int).toNat ≤ 17592186044416
  ·rw [if_pos c3] at H
   have c3b0 := eq_true c3
   have c3b1 := decide_eq_true c3
   clear c3
   obtain ⟨y267, hy267⟩ : ∃ y_ : List (S80), y_ = (List.replicate ((l0.length : Int) : Int).toNat z80) := ⟨_, rfl⟩
   replace H : (laws_toNodeS.l0 k l0 y267 0) = some r := by first | (rw [hy267]; with_reducible exact H) | (have H2_ := (Option.bind_some _ _).symm.trans H; rw [hy267]; with_reducible exact H2_) | (have H2_ := (Option.bind_some _ _).symm.trans H; with_reducible exact H2_) | with_reducible exact H | (rw [hy267]; exact H) | exact H
   have Ny267 := am_ hy267
   clear hy267
   have H' := am_ H
   clear H
   go_enter Tryz.func27, Tryz.ntmps27
   go_wp2_with (first | ((with_reducible refine Sh.d 7 ?_); refine Kd.R_make k80 _ 80 rfl (N := 7) rfl 33 _ _ rfl (l0.length : Int) rfl rfl Tryz.underlying33 (.agg #[(.int .i64 0), (.int .u64 0)]) 16 info80 rfl (by decide) (by omega) z80 (ok := fun _ => True) (okp := fun _ => True) (k80_mkM _ _ _ z80 ) (fun _ hk => hk) trivial (of_decide_eq_true (by first | (with_reducible assumption) | assumption)) (Nat.le_trans (Nat.mul_le_mul_right _ (of_decide_eq_true (by first | (with_reducible assumption) | assumption) : (l0.length : Int).toNat ≤ 17592186044416)) (by omega)) (Below.refl _ _) (Nat.le_refl _) ?_; intro v268 w4 ho5 hb hg_ hnew_; clear hg_ hnew_; (first | rw [← Ny267.out] at ho5 | (simp only [Int.reduceToNat] at ho5; rw [← Ny267.out] at ho5)); have HO269 := am_ (Kd.R_lower ho5 (below_size Sh.bw)); replace HB := Sh.hb hb; clear hb ho5))
   go_loopg [4] k (fun kq v4 w' => ∃ (x3_1 : List (S80)) (x4_1 : Int), v4 = .int .i64 x4_1 ∧ Aside0 (laws_toNodeS.l0 kq l0 x3_1 x4_1 = some r) ∧ Aside0 (kq ≤ k) ∧ Aside0 (Kd.R k80 80 w' w.heap.size (fun _ => True) v268 x3_1) ∧ Aside0 (Below w.heap.size w w'))
   case atStart => exact ⟨(y267), (0), (Sh.es), H', ⟨Nat.le_refl _⟩, ⟨Sh.rl HO269.out⟩, ⟨Sh.bw⟩⟩
   case round =>
    clear H'
    obtain ⟨x3_1, x4_1, rfl, HA, HK1, HO_3, HB⟩ := hrel
    cases gk with
    | zero => exact absurd HA.out (by simp [laws_toNodeS.l0])
    | succ k1 =>
     have H := HA.out
     clear HA
     simp only [laws_toNodeS.l0] at H
     by_cases c6 : x4_1 < (l0.length : Int)
     ·rw [if_pos c6] at H
      have c6b0 := decide_eq_true c6
      clear c6
      by_cases c7 : 0 ≤ x4_1
      ·rw [if_pos c7] at H
       have c7b0 := decide_eq_true c7
       clear c7
       obtain ⟨⟨t271, t272⟩, A80, H⟩ := Sh.bd H
       have A8 := am_ A80
       clear A80
       by_cases c9 : x4_1 < (x3_1.length : Int)
       ·rw [if_pos c9] at H
        have c9b0 := decide_eq_true c9
        clear c9
        obtain ⟨y273, hy273⟩ : ∃ y_ : List (S80), y_ = (x3_1.set (x4_1 : Int).toNat (⟨t271, t272⟩ : S80)) := ⟨_, rfl⟩
        replace H : (laws_toNodeS.l0 k1 l0 y273 (wrap64 (x4_1 + 1))) = some r := by first | (rw [hy273]; with_reducible exact H) | (have H2_ := (Option.bind_some _ _).symm.trans H; rw [hy273]; with_reducible exact H2_) | (have H2_ := (Option.bind_some _ _).symm.trans H; with_reducible exact H2_) | with_reducible exact H | (rw [hy273]; exact H) | exact H
        have Ny273 := am_ hy273
        clear hy273
        have H' := am_ H
        clear H
        have p270 : 0 ≤ (x4_1 : Int) := Sh.od
        have q270 : x4_1 < (l0.length : Int) := Sh.od
        obtain ⟨ad270, e270, hx270_0, hx270_1⟩ := at_T82 HR0.out x4_1 p270 q270
        cases e270
        try replace hx270_0 := Sh.cw hx270_0
        try replace hx270_1 := Sh.cw hx270_1
        replace p270 := eq_true p270
        replace q270 := eq_true q270
        go_wp2_with (first | ((with_reducible refine Sh.k 45 ?_); refine Sh.gB (some 20) Tryz.func45 #[.agg #[.int .i64 ((rd_T82 l0 x4_1).f0), .int .u64 ((rd_T82 l0 x4_1).f1)]] (laws_toNode.calls ((rd_T82 l0 x4_1).f0) ((rd_T82 l0 x4_1).f1) t271 t272 _ A8.out) fun w11 hb => ?_; replace HO_3 := am_ (Kd.R_below (Sh.rl HO_3.out) hb); replace HB := Sh.hb hb; (try clear hb); (try clear hb2); (try clear hk); (try clear hi); have p10 : 0 ≤ (x4_1 : Int) := Sh.od; have q10 : (x4_1 : Int) < ((x3_1.length : Int) : Int) := Sh.od; obtain ⟨go10, co10, eo10, gb10, gl10, cl10, HG10⟩ := Kd.R_form HO_3.out (by omega); (first | cases eo10 | (injection eo10 with ea_ en_ ec_; (first | subst ea_ | (injection ea_ with ea_; subst ea_)); subst ec_; clear en_)); have GB10 := am_ gb10; have GG10 := am_ HG10; clear gb10 gl10 HG10; obtain ⟨ce10, hcl10, hM10, hcc10, hfr10⟩ := Kd.R_elem HO_3.out z80 (x4_1 : Int) p10 q10; obtain rfl := k80_openM hM10; have hx10_0 : w11.cell? ⟨go10, (x4_1 : Int).toNat * 2, none⟩ = some (.int .i64 ((rd_T80 x3_1 x4_1).f0)) := hcc10 0 _ rfl; have hx10_1 : w11.cell? ⟨go10, (x4_1 : Int).toNat * 2 + 1, none⟩ = some (.int .u64 ((rd_T80 x3_1 x4_1).f1)) := hcc10 1 _ rfl; have hf10_0 : w11.frozen? ⟨go10, (x4_1 : Int).toNat * 2, none⟩ = false := hfr10 0; have hf10_1 : w11.frozen? ⟨go10, (x4_1 : Int).toNat * 2 + 1, none⟩ = false := hfr10 1; clear hcl10 hcc10 hfr10; (try clear hM10); replace p10 := eq_true p10; replace q10 := eq_true q10; have HX12 := am_ (show Kd.R k80 80 w11 w.heap.size (fun _ => True) (.slice (some ⟨go10, 0, none⟩) x3_1.length co10) x3_1 from (Sh.rl HO_3.out)); obtain ⟨ce12, hcl12, hM12, hcc12, hfr12⟩ := Kd.R_elem HX12.out z80 (x4_1 : Int) (of_decide_eq_true (by first | (with_reducible assumption) | assumption)) (by have h_ : (x4_1 : Int) < ((x3_1.length : Int) : Int) := Sh.od; first | exact h_ | (have e_ := (Kd.R_reads' HO_3.out).1; omega) | simpa using h_); obtain rfl := k80_openM hM12; have HP12 := Kd.R_seg HX12.out (x4_1 : Int) (of_decide_eq_true (by first | (with_reducible assumption) | assumption)) (by have h_ : (x4_1 : Int) < ((x3_1.length : Int) : Int) := Sh.od; first | exact h_ | (have e_ := (Kd.R_reads' HO_3.out).1; omega) | simpa using h_) (seg := [.int .i64 t271, .int .u64 t272]) (j := 0) hcl12 hcc12 (show 2 ≤ 2 from by decide) (x' := (⟨t271, t272⟩ : S80)) (k80_mkM _ _ _ (⟨t271, t272⟩ : S80) ) (fun _ hk => hk); have hx12_0 := hcc12 0 _ rfl; (try simp only [show (k80).sz = 2 from rfl, Nat.mul_one, Nat.add_zero] at hx12_0); have hf12_0 := hfr12 0; (try simp only [show (k80).sz = 2 from rfl, Nat.mul_one, Nat.add_zero] at hf12_0); have hx12_1 := hcc12 1 _ rfl; (try simp only [show (k80).sz = 2 from rfl, Nat.mul_one, Nat.add_zero] at hx12_1); have hf12_1 := hfr12 1; (try simp only [show (k80).sz = 2 from rfl, Nat.mul_one, Nat.add_zero] at hf12_1); clear hcl12 hcc12 hfr12; (try clear hM12)) | ((with_reducible refine gate_store (t := 80) (p := 21) rfl ?_); refine store_event (t := 80) (p := 21) (v := ?vo_w13) (w1 := ((w11.setCell ⟨go10, (x4_1 : Int).toNat * 2, none⟩ (.int .i64 t271)).setCell ⟨go10, (x4_1 : Int).toNat * 2 + 1, none⟩ (.int .u64 t272))) ?hg ?ho ?hn ?hr ?_; (case ho => rfl); (case hg => rfl); (case hn => rfl); (case hr => first | (go_simp; done) | (go_simp; rfl)); intro w13 hw; have hg : w11.grownBy w13 (some go10) := (by rw [hw]; exact HP12.2); have hp_ : Kd.R k80 80 w13 w.heap.size (fun _ => True) (.slice (some ⟨go10, 0, none⟩) x3_1.length co10) y273 := (by rw [hw, Ny273.out]; exact HP12.1); clear HP12; replace HO_3 := am_ hp_; replace HB := am_ ((by rw [hw]; exact below_set (below_set (HB.out) GB10.out) GB10.out : Below w.heap.size w w13)); clear hg hw hp_))
        go_roundg k1
        case measure => have := HK1.out; omega
        case rel => exact ⟨(y273), (wrap64 (x4_1 + 1)), (Sh.es), H', ⟨by have := HK1.out; omega⟩, ⟨Sh.rl HO_3.out⟩, ⟨Sh.bw⟩⟩
       ·rw [if_neg c9] at H
        exact absurd H (by simp)
      ·rw [if_neg c7] at H
       exact absurd H (by simp)
     ·rw [if_neg c6] at H
      have c6b0 := decide_eq_false c6
      clear c6
      obtain rfl := Option.some.inj H
      go_wp2
      go_ret
      exact ⟨_, Sh.eR, Sh.rl HO_3.out, Sh.bw⟩
  ·rw [if_neg c3] at H
   exact absurd H (by simp)
 ·rw [if_neg c2] at H
  exact absurd H (by simp)
def laws_toChange.f (k : Nat) (a0_0 : Int) (l0_1 : List (S82)) : Option (Int × (List (S80))) := (laws_toNodeS.f k l0_1).bind fun t277 => (some (a0_0, t277))
theorem laws_toChange.mono : ∀ a0 a1 k, LeO (laws_toChange.f k a0 a1) (laws_toChange.f (k + 1) a0 a1) := by
 intro a0 a1 k
 unfold laws_toChange.f
 repeat' with_reducible first | apply laws_toNodeS.mono | exact LeO.refl _ | exact LeO.none _ | apply LeO.ite | refine LeO.bind ?_ fun _ => ?_
theorem laws_toChange.calls (k : Nat) (a0_0 : Int) (A0_1 : Option Addr) (c0_1 : Nat) (l0_1 : List (S82)) (r1 : Int) (r2 : List (S80)) (w : World) (hr0_1 : Kd.C k82 w A0_1 l0_1.length l0_1) (hc0_1 : l0_1.length ≤ c0_1) (h : laws_toChange.f k a0_0 l0_1 = some (r1, r2)) :
  Calls Tryz.prog 80 #[.agg #[.int .i64 a0_0, .slice A0_1 l0_1.length c0_1]] w fun e w' => ∃ v1_ : Value, e = .returned (.agg #[.int .i64 r1, v1_]) ∧ Kd.R k80 80 w' w.heap.size (fun _ => True) v1_ r2 ∧ Below w.heap.size w w' := by
 have hu108 := Tryz.underlying108
 have hu94 := Tryz.underlying94
 have HR0_1 := am_ hr0_1
 have HC0_1 := am_ hc0_1
 clear hr0_1 hc0_1
 have HB := am_ (Below.refl w.heap.size w)
 have H := h
 clear h
 unfold laws_toChange.f at H
 obtain ⟨t277, A2, H⟩ := Sh.ba H
 simp only [Option.some.injEq, Prod.mk.injEq] at H
 obtain ⟨rfl, rfl⟩ := H
 go_enter Tryz.func80, Tryz.ntmps80
 go_wp2_with (first | ((with_reducible refine Sh.d 1 ?_); refine Sh.bz w (N := 1) (cs := #[.int .i64 a0_0, .slice A0_1 l0_1.length c0_1]) (t := 108) (h := ?_); clear HB; intro gb274 w3 BK274 GE274 HB) | ((with_reducible refine Sh.d 2 ?_); refine Sh.bx (N := 2) (cs := #[.int .i64 0, .slice none 0 0]) (t := 94) (h := ?_); intro gb275 hg w4 hbox hb; have BK275 := am_ hbox; have GE275 := Sh.ag w hg; replace HB := Sh.hb hb; have NB274_275 := am_ (Sh.nl hg BK274.out); have NB275_274 := am_ (Sh.ng hg BK274.out); replace BK274 := Sh.ab BK274 hb; clear hb hbox hg) | ((with_reducible refine Sh.d 3 ?_); refine Sh.bx (N := 3) (cs := #[.int .i64 0, .slice none 0 0]) (t := 94) (h := ?_); intro gb276 hg w5 hbox hb; have BK276 := am_ hbox; have GE276 := Sh.ag w hg; replace HB := Sh.hb hb; have NB274_276 := am_ (Sh.nl hg BK274.out); have NB276_274 := am_ (Sh.ng hg BK274.out); replace BK274 := Sh.ab BK274 hb; have NB275_276 := am_ (Sh.nl hg BK275.out); have NB276_275 := am_ (Sh.ng hg BK275.out); replace BK275 := Sh.ab BK275 hb; clear hb hbox hg; have hnb6 := NB274_275.out; have hnc6 := NB275_274.out; have hnb7 := NB274_276.out; have hnc7 := NB276_274.out; obtain ⟨hcz8_0, hcz8_1, hfz8_0, hfz8_1⟩ := Sh.b2 BK274.out; have hnb9 := NB276_275.out; have hnc9 := NB275_276.out; obtain ⟨hcz10_0, hcz10_1, hfz10_0, hfz10_1⟩ := Sh.b2 BK276.out) | ((with_reducible refine Sh.k 27 ?_); refine Sh.gL (some 9) Tryz.func27 #[.slice A0_1 l0_1.length c0_1] (h := ?_); (with_reducible refine (laws_toNodeS.calls k _ _ l0_1 t277 _ (Sh.cB HR0_1.out) HC0_1.out A2.out).mono ?_); rintro e w11 ⟨v278, rfl, ho0, hb⟩; refine ⟨_, rfl, ?_⟩; have HO279 := am_ (Kd.R_lower ho0 (below_size Sh.bw)); replace BK274 := am_ (blk_below (g := gb274) (o := .cells #[.int .i64 a0_0, .slice A0_1 l0_1.length c0_1] 108 (0, 0)) (by refine Sh.pl ?_; refine blk_far ?_ NB274_276.out _; refine Sh.pl ?_; exact BK274.out) hb); replace BK275 := am_ (blk_below (g := gb275) (o := .cells #[.int .i64 0, .slice none 0 0] 94 (0, 0)) (by refine Sh.pl ?_; refine blk_far ?_ NB275_276.out _; refine Sh.pl ?_; exact BK275.out) hb); replace BK276 := am_ (blk_below (g := gb276) (o := .cells #[.int .i64 a0_0, .slice none 0 0] 94 (0, 0)) (by refine Sh.pl ?_; refine blk_put (cs := #[.int .i64 0, .slice none 0 0]) ?_ 0 _ rfl; refine Sh.pl ?_; exact BK276.out) hb); replace HB := Sh.hb hb; (try clear hb); (try clear hb2); (try clear hk); (try clear hi); (try clear ho0); obtain ⟨Ao12, co12, eo12⟩ := Kd.R_slice HO279.out; subst eo12; obtain ⟨hcz13_0, hcz13_1, hfz13_0, hfz13_1⟩ := Sh.b2 BK276.out; obtain ⟨hcz14_0, hcz14_1, hfz14_0, hfz14_1⟩ := Sh.b2 BK275.out))
 refine bodyPost_ret (results_cell_row rfl _ _ gb275 94 #[.int .i64 a0_0, .slice Ao12 t277.length co12] (0, 0) _ rfl (by refine Sh.pl ?_; refine blk_put (cs := #[.int .i64 a0_0, .slice none 0 0]) ?_ 1 _ rfl; refine Sh.pl ?_; refine blk_put (cs := #[.int .i64 0, .slice none 0 0]) ?_ 0 _ rfl; refine Sh.pl ?_; refine blk_far ?_ NB275_276.out _; refine Sh.pl ?_; exact BK275.out) Tryz.underlying94 rfl (by kernel_rfl)) rfl ?_
 exact ⟨_, Sh.eR, Sh.rl (Kd.R_mono (Kd.R_far (p := ⟨gb275, 1, none⟩) (Kd.R_far (p := ⟨gb275, 0, none⟩) (Kd.R_far (p := ⟨gb276, 1, none⟩) (Kd.R_types (Kd.R_types HO279.out BK276.out (by decide)) BK275.out (by decide)) (fun _ hk => hk.1.2) (.slice Ao12 t277.length co12)) (fun _ hk => hk.2) (.int .i64 a0_0)) (fun _ hk => hk.2) (.slice Ao12 t277.length co12)) (fun _ hk => trivial)), Sh.bw⟩
def laws_toChangeS.l0 : Nat → List (S108) → List (S94) → Int → Option ((List (S94)))
 | 0, _, _, _ => none
 | k + 1, x0, x3, x4 => if x4 < (x0.length : Int) then (if 0 ≤ x4 then ((laws_toChange.f k ((rd_T108 x0 x4).f0) ((rd_T108 x0 x4).f1)).bind fun bt284 => (if x4 < (x3.length : Int) then (laws_toChangeS.l0 k x0 (x3.set (x4 : Int).toNat (⟨bt284.1, bt284.2⟩ : S94)) (wrap64 (x4 + 1))) else (none))) else (none)) else (some x3)
def laws_toChangeS.f (k : Nat) (l0 : List (S108)) : Option ((List (S94))) := if 0 ≤ (l0.length : Int) then (if ((l0.length : Int) : Int).toNat ≤ 8796093022208 then (laws_toChangeS.l0 k l0 (List.replicate ((l0.length : Int) : Int).toNat z94) 0) else (none)) else (none)
theorem laws_toChangeS.mono_l : ∀ k, (∀ y0 y1 y2, LeO (laws_toChangeS.l0 k y0 y1 y2) (laws_toChangeS.l0 (k + 1) y0 y1 y2))
 | 0 => fun _ _ _ r h => by simp [laws_toChangeS.l0] at h
 | k + 1 => by
  have ih0 := laws_toChangeS.mono_l k
  ·intro y0 y1 y2
   unfold laws_toChangeS.l0
   repeat' with_reducible first | apply ih0 | apply laws_toChange.mono | exact LeO.refl _ | exact LeO.none _ | apply LeO.ite | refine LeO.bind ?_ fun _ => ?_
theorem laws_toChangeS.mono : ∀ a0 k, LeO (laws_toChangeS.f k a0) (laws_toChangeS.f (k + 1) a0) := by
 intro a0 k
 have ih0 := laws_toChangeS.mono_l k
 unfold laws_toChangeS.f
 repeat' with_reducible first | apply ih0 | apply laws_toChange.mono | exact LeO.refl _ | exact LeO.none _ | apply LeO.ite | refine LeO.bind ?_ fun _ => ?_
theorem laws_toChangeS.calls (k : Nat) (A0 : Option Addr) (c0 : Nat) (l0 : List (S108)) (r : List (S94)) (w : World) (hr0 : Kd.C k108 w A0 l0.length l0) (hc0 : l0.length ≤ c0) (h : laws_toChangeS.f k l0 = some r) :
  Calls Tryz.prog 60 #[.slice A0 l0.length c0] w fun e w' => ∃ v0_ : Value, e = .returned (v0_) ∧ Kd.S k94 94 w' w.heap.size (fun _ => True) v0_ r ∧ Below w.heap.size w w' := by
 have hu108 := Tryz.underlying108
 have hu94 := Tryz.underlying94
 have HR0 := am_ hr0
 have HC0 := am_ hc0
 clear hr0 hc0
 have HB := am_ (Below.refl w.heap.size w)
 have H := h
 clear h
 unfold laws_toChangeS.f at H
 by_cases c2 : 0 ≤ (l0.length : Int)
 ·rw [if_pos c2] at H
  have c2b0 := eq_true c2
  have c2b1 := decide_eq_true c2
  clear c2
  by_cases c3 : ((l0.length : Int) : Int).toNat ≤ 8796093022208
  ·rw [if_pos c3] at H
   have c3b0 := eq_true c3
   have c3b1 := decide_eq_true c3
   clear c3
   obtain ⟨y280, hy280⟩ : ∃ y_ : List (S94), y_ = (List.replicate ((l0.length : Int) : Int).toNat z94) := ⟨_, rfl⟩
   replace H : (laws_toChangeS.l0 k l0 y280 0) = some r := by first | (rw [hy280]; with_reducible exact H) | (have H2_ := (Option.bind_some _ _).symm.trans H; rw [hy280]; with_reducible exact H2_) | (have H2_ := (Option.bind_some _ _).symm.trans H; with_reducible exact H2_) | with_reducible exact H | (rw [hy280]; exact H) | exact H
   have Ny280 := am_ hy280
   clear hy280
   have H' := am_ H
   clear H
   go_enter Tryz.func60, Tryz.ntmps60
   go_wp2_with (first | ((with_reducible refine Sh.d 7 ?_); refine Kd.S_make k94 _ 94 rfl (N := 7) rfl 70 _ _ rfl (l0.length : Int) rfl rfl Tryz.underlying70 (.agg #[(.int .i64 0), (.slice none 0 0)]) 32 info94 rfl (by decide) (by omega) z94 (ok := fun _ => True) (okp := fun _ => True) (k94_mkM _ _ _ z94 (Kd.R_nil _ _ _ _ _)) (fun _ hk => hk) trivial (of_decide_eq_true (by first | (with_reducible assumption) | assumption)) (Nat.le_trans (Nat.mul_le_mul_right _ (of_decide_eq_true (by first | (with_reducible assumption) | assumption) : (l0.length : Int).toNat ≤ 8796093022208)) (by omega)) (Below.refl _ _) (Nat.le_refl _) ?_; intro v281 w4 ho5 hb hg_ hnew_; clear hg_ hnew_; (first | rw [← Ny280.out] at ho5 | (simp only [Int.reduceToNat] at ho5; rw [← Ny280.out] at ho5)); have HO282 := am_ (Kd.S_lower ho5 (below_size Sh.bw)); replace HB := Sh.hb hb; clear hb ho5))
   go_loopg [4] k (fun kq v4 w' => ∃ (x3_1 : List (S94)) (x4_1 : Int), v4 = .int .i64 x4_1 ∧ Aside0 (laws_toChangeS.l0 kq l0 x3_1 x4_1 = some r) ∧ Aside0 (kq ≤ k) ∧ Aside0 (Kd.S k94 94 w' w.heap.size (fun _ => True) v281 x3_1) ∧ Aside0 (Below w.heap.size w w'))
   case atStart => exact ⟨(y280), (0), (Sh.es), H', ⟨Nat.le_refl _⟩, ⟨by (with_reducible repeat (first | apply Kd.S_alloc | apply Kd.S_drewN | apply Kd.S_drew)); exact HO282.out⟩, ⟨Sh.bw⟩⟩
   case round =>
    clear H'
    obtain ⟨x3_1, x4_1, rfl, HA, HK1, HO_3, HB⟩ := hrel
    cases gk with
    | zero => exact absurd HA.out (by simp [laws_toChangeS.l0])
    | succ k1 =>
     have H := HA.out
     clear HA
     simp only [laws_toChangeS.l0] at H
     by_cases c6 : x4_1 < (l0.length : Int)
     ·rw [if_pos c6] at H
      have c6b0 := decide_eq_true c6
      clear c6
      by_cases c7 : 0 ≤ x4_1
      ·rw [if_pos c7] at H
       have c7b0 := decide_eq_true c7
       clear c7
       obtain ⟨⟨t284, t285⟩, A80, H⟩ := Sh.bd H
       have A8 := am_ A80
       clear A80
       by_cases c9 : x4_1 < (x3_1.length : Int)
       ·rw [if_pos c9] at H
        have c9b0 := decide_eq_true c9
        clear c9
        obtain ⟨y288, hy288⟩ : ∃ y_ : List (S94), y_ = (x3_1.set (x4_1 : Int).toNat (⟨t284, t285⟩ : S94)) := ⟨_, rfl⟩
        replace H : (laws_toChangeS.l0 k1 l0 y288 (wrap64 (x4_1 + 1))) = some r := by first | (rw [hy288]; with_reducible exact H) | (have H2_ := (Option.bind_some _ _).symm.trans H; rw [hy288]; with_reducible exact H2_) | (have H2_ := (Option.bind_some _ _).symm.trans H; with_reducible exact H2_) | with_reducible exact H | (rw [hy288]; exact H) | exact H
        have Ny288 := am_ hy288
        clear hy288
        have H' := am_ H
        clear H
        have p283 : 0 ≤ (x4_1 : Int) := Sh.od
        have q283 : x4_1 < (l0.length : Int) := Sh.od
        obtain ⟨ad283, A283_1, c283_1, e283, hx283_0, hx283_1, hl283_1, hi283_1⟩ := at_T108 HR0.out x4_1 p283 q283
        cases e283
        try replace hx283_0 := Sh.cw hx283_0
        try replace hx283_1 := Sh.cw hx283_1
        have HR283_1 := am_ hi283_1
        have HC283_1 := am_ hl283_1
        clear hi283_1 hl283_1
        replace p283 := eq_true p283
        replace q283 := eq_true q283
        go_wp2_with (first | ((with_reducible refine Sh.k 80 ?_); refine Sh.gL (some 20) Tryz.func80 #[.agg #[.int .i64 ((rd_T108 l0 x4_1).f0), .slice A283_1 ((rd_T108 l0 x4_1).f1).length c283_1]] (h := ?_); (with_reducible refine (laws_toChange.calls k1 ((rd_T108 l0 x4_1).f0) _ _ ((rd_T108 l0 x4_1).f1) t284 t285 _ (Sh.cB HR283_1.out) HC283_1.out A8.out).mono ?_); rintro e w11 ⟨v286, rfl, ho0, hb⟩; refine ⟨_, rfl, ?_⟩; replace HO_3 := am_ (Kd.S_elder' (by (with_reducible repeat (first | apply Kd.S_alloc | apply Kd.S_drewN | apply Kd.S_drew)); exact HO_3.out) (Kd.R_base ho0) hb); have HO287 := am_ (Kd.R_lower ho0 (below_size Sh.bw)); replace HB := Sh.hb hb; (try clear hb); (try clear hb2); (try clear hk); (try clear hi); (try clear ho0); have p10 : 0 ≤ (x4_1 : Int) := Sh.od; have q10 : (x4_1 : Int) < ((x3_1.length : Int) : Int) := Sh.od; obtain ⟨go10, co10, eo10, gb10, gl10, cl10, HG10⟩ := Kd.S_form HO_3.out (by omega); (first | cases eo10 | (injection eo10 with ea_ en_ ec_; (first | subst ea_ | (injection ea_ with ea_; subst ea_)); subst ec_; clear en_)); have GB10 := am_ gb10; have GG10 := am_ HG10; clear gb10 gl10 HG10; obtain ⟨_, ce10, hcl10, hM10, hcc10, hfr10, _, _⟩ := Kd.S_elem HO_3.out z94 (x4_1 : Int) p10 q10; obtain ⟨ve10_1, rfl, ge10_1⟩ := k94_openM hM10; have hx10_0 : w11.cell? ⟨go10, (x4_1 : Int).toNat * 2, none⟩ = some (.int .i64 ((rd_T94 x3_1 x4_1).f0)) := hcc10 0 _ rfl; have hx10_1 : w11.cell? ⟨go10, (x4_1 : Int).toNat * 2 + 1, none⟩ = some (ve10_1) := hcc10 1 _ rfl; have hf10_0 : w11.frozen? ⟨go10, (x4_1 : Int).toNat * 2, none⟩ = false := hfr10 0; have hf10_1 : w11.frozen? ⟨go10, (x4_1 : Int).toNat * 2 + 1, none⟩ = false := hfr10 1; clear hcl10 hcc10 hfr10; (try clear hM10); replace p10 := eq_true p10; replace q10 := eq_true q10; obtain ⟨Ao14, co14, eo14⟩ := Kd.R_slice HO287.out; subst eo14; have n_ := am_ (Kd.S_mono (ok' := (fun k_ => some k_ ≠ (.slice Ao14 t285.length co14 : Value).ownBlock)) HO_3.out (fun k_ hk => hk.2)); clear HO_3; have HO_3 := n_; clear n_; have HX12 := am_ (show Kd.S k94 94 w11 w.heap.size (fun k_ => ((fun _ => True)) k_ ∧ ¬ ((fun k_ => some k_ = (.slice Ao14 t285.length co14 : Value).ownBlock)) k_) (.slice (some ⟨go10, 0, none⟩) x3_1.length co10) x3_1 from (by (with_reducible repeat (first | apply Kd.S_alloc | apply Kd.S_drewN | apply Kd.S_drew)); exact Kd.S_mono HO_3.out (fun k_ hk => ⟨trivial, fun e_ => hk e_⟩))); obtain ⟨oki12, ce12, hcl12, hM12, hcc12, hfr12, hoki12, hH12⟩ := Kd.S_elem HX12.out z94 (x4_1 : Int) (of_decide_eq_true (by first | (with_reducible assumption) | assumption)) (by have h_ : (x4_1 : Int) < ((x3_1.length : Int) : Int) := Sh.od; first | exact h_ | (have e_ := (Kd.S_reads' HO_3.out).1; omega) | simpa using h_); obtain ⟨ve12_1, rfl, ge12_1⟩ := k94_openM hM12; have HP12 := Kd.S_seg hH12 (of_decide_eq_true (by first | (with_reducible assumption) | assumption)) (by have h_ : (x4_1 : Int) < ((x3_1.length : Int) : Int) := Sh.od; first | exact h_ | (have e_ := (Kd.S_reads' HO_3.out).1; omega) | simpa using h_) (seg := [.int .i64 t284, .slice Ao14 t285.length co14]) (j := 0) (show 2 ≤ 2 from by decide) (x' := (⟨t284, t285⟩ : S94)) (k94_mkM _ _ _ (⟨t284, t285⟩ : S94) (Kd.R_mono (Kd.R_tight rfl (Kd.R_mono (ok' := fun k_ => ((fun _ => True)) k_ ∧ k_ ≠ go10) (Kd.R_apart' (HO287.out) (Kd.S_typed HO_3.out) (by decide)) (fun k_ hk => ⟨trivial, fun e_ => (hk.2) (by rw [e_]; rfl)⟩))) (fun _ h_ => Or.inr (h_)))) (fun _ hk => hk) (fun k_ hk_ => ((Kd.R_mono (ok' := fun k_ => ((fun _ => True)) k_ ∧ k_ ≠ go10) (Kd.R_apart' (HO287.out) (Kd.S_typed HO_3.out) (by decide)) (fun k_ hk => ⟨trivial, fun e_ => (hk.2) (by rw [e_]; rfl)⟩))).1 k_ hk_.symm); have hx12_0 := hcc12 0 _ rfl; (try simp only [show (k94).sz = 2 from rfl, Nat.mul_one, Nat.add_zero] at hx12_0); have hf12_0 := hfr12 0; (try simp only [show (k94).sz = 2 from rfl, Nat.mul_one, Nat.add_zero] at hf12_0); have hx12_1 := hcc12 1 _ rfl; (try simp only [show (k94).sz = 2 from rfl, Nat.mul_one, Nat.add_zero] at hx12_1); have hf12_1 := hfr12 1; (try simp only [show (k94).sz = 2 from rfl, Nat.mul_one, Nat.add_zero] at hf12_1); clear hcl12 hcc12 hfr12 hoki12 hH12; (try clear hM12)) | ((with_reducible refine gate_store (t := 94) (p := 21) rfl ?_); refine store_event (t := 94) (p := 21) (v := ?vo_w13) (w1 := ((w11.setCell ⟨go10, (x4_1 : Int).toNat * 2, none⟩ (.int .i64 t284)).setCell ⟨go10, (x4_1 : Int).toNat * 2 + 1, none⟩ (.slice Ao14 t285.length co14))) ?hg ?ho ?hn ?hr ?_; (case ho => rfl); (case hg => rfl); (case hn => rfl); (case hr => first | (go_simp; done) | (go_simp; rfl)); intro w13 hw; have hg : w11.grownBy w13 (some go10) := (by rw [hw]; exact HP12.2); have hp_ : Kd.S k94 94 w13 w.heap.size (fun _ => True) (.slice (some ⟨go10, 0, none⟩) x3_1.length co10) y288 := (by rw [hw, Ny288.out]; exact HP12.1); clear HP12; have n0_ := am_ hp_; have n1_ := am_ ((by rw [hw]; exact below_set (below_set (HB.out) GB10.out) GB10.out : Below w.heap.size w w13)); clear HO_3; clear HB; clear HO287; have HO_3 := n0_; have HB := n1_; clear n0_ n1_; clear hg hw hp_))
        go_roundg k1
        case measure => have := HK1.out; omega
        case rel => exact ⟨(y288), (wrap64 (x4_1 + 1)), (Sh.es), H', ⟨by have := HK1.out; omega⟩, ⟨by (with_reducible repeat (first | apply Kd.S_alloc | apply Kd.S_drewN | apply Kd.S_drew)); exact HO_3.out⟩, ⟨Sh.bw⟩⟩
       ·rw [if_neg c9] at H
        exact absurd H (by simp)
      ·rw [if_neg c7] at H
       exact absurd H (by simp)
     ·rw [if_neg c6] at H
      have c6b0 := decide_eq_false c6
      clear c6
      obtain rfl := Option.some.inj H
      go_wp2
      go_ret
      exact ⟨_, Sh.eR, by (with_reducible repeat (first | apply Kd.S_alloc | apply Kd.S_drewN | apply Kd.S_drew)); exact HO_3.out, Sh.bw⟩
  ·rw [if_neg c3] at H
   exact absurd H (by simp)
 ·rw [if_neg c2] at H
  exact absurd H (by simp)
def laws_toCommand.f (k : Nat) (l0_0 : List (S82)) (l0_1 : List (S108)) : Option ((List (S80)) × (List (S94))) := (laws_toNodeS.f k l0_0).bind fun t292 => ((laws_toChangeS.f k l0_1).bind fun t295 => (some (t292, t295)))
theorem laws_toCommand.mono : ∀ a0 a1 k, LeO (laws_toCommand.f k a0 a1) (laws_toCommand.f (k + 1) a0 a1) := by
 intro a0 a1 k
 unfold laws_toCommand.f
 repeat' with_reducible first | apply laws_toChangeS.mono | apply laws_toNodeS.mono | exact LeO.refl _ | exact LeO.none _ | apply LeO.ite | refine LeO.bind ?_ fun _ => ?_
theorem laws_toCommand.calls (k : Nat) (A0_0 : Option Addr) (c0_0 : Nat) (l0_0 : List (S82)) (A0_1 : Option Addr) (c0_1 : Nat) (l0_1 : List (S108)) (r1 : List (S80)) (r2 : List (S94)) (w : World) (hr0_0 : Kd.C k82 w A0_0 l0_0.length l0_0) (hc0_0 : l0_0.length ≤ c0_0) (hr0_1 : Kd.C k108 w A0_1 l0_1.length l0_1) (hc0_1 : l0_1.length ≤ c0_1) (h : laws_toCommand.f k l0_0 l0_1 = some (r1, r2)) :
  Calls Tryz.prog 46 #[.agg #[.slice A0_0 l0_0.length c0_0, .slice A0_1 l0_1.length c0_1]] w fun e w' => ∃ v0_ v1_ : Value, e = .returned (.agg #[v0_, v1_]) ∧ Kd.R k80 80 w' w.heap.size (fun _ => True) v0_ r1 ∧ Kd.S k94 94 w' w.heap.size (fun k_ => some k_ ≠ (v0_ : Value).ownBlock) v1_ r2 ∧ Below w.heap.size w w' := by
 have hu67 := Tryz.underlying67
 have hu72 := Tryz.underlying72
 have HR0_0 := am_ hr0_0
 have HC0_0 := am_ hc0_0
 clear hr0_0 hc0_0
 have HR0_1 := am_ hr0_1
 have HC0_1 := am_ hc0_1
 clear hr0_1 hc0_1
 have HB := am_ (Below.refl w.heap.size w)
 have H := h
 clear h
 unfold laws_toCommand.f at H
 obtain ⟨t292, A2, H⟩ := Sh.ba H
 obtain ⟨t295, A3, H⟩ := Sh.ba H
 simp only [Option.some.injEq, Prod.mk.injEq] at H
 obtain ⟨rfl, rfl⟩ := H
 go_enter Tryz.func46, Tryz.ntmps46
 go_wp2_with (first | ((with_reducible refine Sh.d 1 ?_); refine Sh.bz w (N := 1) (cs := #[.slice A0_0 l0_0.length c0_0, .slice A0_1 l0_1.length c0_1]) (t := 67) (h := ?_); clear HB; intro gb289 w4 BK289 GE289 HB) | ((with_reducible refine Sh.d 2 ?_); refine Sh.bx (N := 2) (cs := #[.slice none 0 0, .slice none 0 0]) (t := 72) (h := ?_); intro gb290 hg w5 hbox hb; have BK290 := am_ hbox; have GE290 := Sh.ag w hg; replace HB := Sh.hb hb; have NB289_290 := am_ (Sh.nl hg BK289.out); have NB290_289 := am_ (Sh.ng hg BK289.out); replace BK289 := Sh.ab BK289 hb; clear hb hbox hg) | ((with_reducible refine Sh.d 3 ?_); refine Sh.bx (N := 3) (cs := #[.slice none 0 0, .slice none 0 0]) (t := 72) (h := ?_); intro gb291 hg w6 hbox hb; have BK291 := am_ hbox; have GE291 := Sh.ag w hg; replace HB := Sh.hb hb; have NB289_291 := am_ (Sh.nl hg BK289.out); have NB291_289 := am_ (Sh.ng hg BK289.out); replace BK289 := Sh.ab BK289 hb; have NB290_291 := am_ (Sh.nl hg BK290.out); have NB291_290 := am_ (Sh.ng hg BK290.out); replace BK290 := Sh.ab BK290 hb; clear hb hbox hg; have hnb7 := NB289_290.out; have hnc7 := NB290_289.out; have hnb8 := NB289_291.out; have hnc8 := NB291_289.out; obtain ⟨hcz9_0, hcz9_1, hfz9_0, hfz9_1⟩ := Sh.b2 BK289.out) | ((with_reducible refine Sh.k 27 ?_); refine Sh.gL (some 6) Tryz.func27 #[.slice A0_0 l0_0.length c0_0] (h := ?_); (with_reducible refine (laws_toNodeS.calls k _ _ l0_0 t292 _ (Sh.cB HR0_0.out) HC0_0.out A2.out).mono ?_); rintro e w10 ⟨v293, rfl, ho0, hb⟩; refine ⟨_, rfl, ?_⟩; have HO294 := am_ (Kd.R_lower ho0 (below_size Sh.bw)); replace BK289 := Sh.ab BK289 hb; replace BK290 := Sh.ab BK290 hb; replace BK291 := Sh.ab BK291 hb; replace HB := Sh.hb hb; (try clear hb); (try clear hb2); (try clear hk); (try clear hi); (try clear ho0); obtain ⟨Ao11, co11, eo11⟩ := Kd.R_slice HO294.out; subst eo11; have hnb12 := NB291_290.out; have hnc12 := NB290_291.out; obtain ⟨hcz13_0, hcz13_1, hfz13_0, hfz13_1⟩ := Sh.b2 BK291.out; obtain ⟨hcz14_0, hcz14_1, hfz14_0, hfz14_1⟩ := Sh.b2 BK289.out) | ((with_reducible refine Sh.k 60 ?_); refine Sh.gL (some 10) Tryz.func60 #[.slice A0_1 l0_1.length c0_1] (h := ?_); (with_reducible refine (laws_toChangeS.calls k _ _ l0_1 t295 _ (Sh.cB HR0_1.out) HC0_1.out A3.out).mono ?_); rintro e w15 ⟨v296, rfl, ho0, hb⟩; refine ⟨_, rfl, ?_⟩; have n0_ := am_ (Kd.R_below (Sh.rl (Kd.R_mono (Kd.R_far (p := ⟨gb291, 0, none⟩) (Kd.R_types HO294.out BK291.out (by decide)) (fun _ hk => hk.2) (.slice Ao11 t292.length co11)) (fun _ h_ => h_.1))) hb); have n1_ := am_ (Kd.S_lower (Kd.S_new' ho0 (Kd.R_lt (Sh.rl (Kd.R_mono (Kd.R_far (p := ⟨gb291, 0, none⟩) (Kd.R_types HO294.out BK291.out (by decide)) (fun _ hk => hk.2) (.slice Ao11 t292.length co11)) (fun _ h_ => h_.1))))) (below_size Sh.bw)); have n2_ := am_ (blk_below (g := gb289) (o := .cells #[.slice A0_0 l0_0.length c0_0, .slice A0_1 l0_1.length c0_1] 67 (0, 0)) (by refine Sh.pl ?_; refine blk_far ?_ NB289_291.out _; refine Sh.pl ?_; exact BK289.out) hb); have n3_ := am_ (blk_below (g := gb290) (o := .cells #[.slice none 0 0, .slice none 0 0] 72 (0, 0)) (by refine Sh.pl ?_; refine blk_far ?_ NB290_291.out _; refine Sh.pl ?_; exact BK290.out) hb); have n4_ := am_ (blk_below (g := gb291) (o := .cells #[.slice Ao11 t292.length co11, .slice none 0 0] 72 (0, 0)) (by refine Sh.pl ?_; refine blk_put (cs := #[.slice none 0 0, .slice none 0 0]) ?_ 0 _ rfl; refine Sh.pl ?_; exact BK291.out) hb); have n5_ := am_ (below_step Sh.bw hb); clear HO294; clear BK289; clear BK290; clear BK291; clear HB; have HO294 := n0_; have HO297 := n1_; have BK289 := n2_; have BK290 := n3_; have BK291 := n4_; have HB := n5_; clear n0_ n1_ n2_ n3_ n4_ n5_; (try clear hb); (try clear hb2); (try clear hk); (try clear hi); (try clear ho0); obtain ⟨Ao16, co16, eo16⟩ := Kd.S_slice HO297.out; subst eo16; obtain ⟨hcz17_0, hcz17_1, hfz17_0, hfz17_1⟩ := Sh.b2 BK291.out; obtain ⟨hcz18_0, hcz18_1, hfz18_0, hfz18_1⟩ := Sh.b2 BK290.out))
 refine bodyPost_ret (results_cell_row rfl _ _ gb290 72 #[.slice Ao11 t292.length co11, .slice Ao16 t295.length co16] (0, 0) _ rfl (by refine Sh.pl ?_; refine blk_put (cs := #[.slice Ao11 t292.length co11, .slice none 0 0]) ?_ 1 _ rfl; refine Sh.pl ?_; refine blk_put (cs := #[.slice none 0 0, .slice none 0 0]) ?_ 0 _ rfl; refine Sh.pl ?_; refine blk_far ?_ NB290_291.out _; refine Sh.pl ?_; exact BK290.out) Tryz.underlying72 rfl (by kernel_rfl)) rfl ?_
 exact ⟨_, _, by first | rfl | (simp [errW_none, errW_some] <;> rfl) | (simp [*, errW_none, errW_some] <;> rfl), Sh.rl (Kd.R_mono (Kd.R_far (p := ⟨gb290, 1, none⟩) (Kd.R_far (p := ⟨gb290, 0, none⟩) (Kd.R_far (p := ⟨gb291, 1, none⟩) (Kd.R_types (Kd.R_types HO294.out BK291.out (by decide)) BK290.out (by decide)) (fun _ hk => hk.1.2) (.slice Ao16 t295.length co16)) (fun _ hk => hk.2) (.slice Ao11 t292.length co11)) (fun _ hk => hk.2) (.slice Ao16 t295.length co16)) (fun _ hk => trivial)), by (with_reducible repeat (first | apply Kd.S_alloc | apply Kd.S_drewN | apply Kd.S_drew)); exact Kd.S_mono (Kd.S_far (p := ⟨gb290, 1, none⟩) (Kd.S_far (p := ⟨gb290, 0, none⟩) (Kd.S_far (p := ⟨gb291, 1, none⟩) (Kd.S_types (Kd.S_types HO297.out BK291.out (by decide)) BK290.out (by decide)) (fun _ hk => hk.1.2) (.slice Ao16 t295.length co16)) (fun _ hk => hk.2) (.slice Ao11 t292.length co11)) (fun _ hk => hk.2) (.slice Ao16 t295.length co16)) (fun _ hk => hk.1.1.2), Sh.bw⟩
def laws_toCommandS.l0 : Nat → List (S67) → List (S72) → Int → Option ((List (S72)))
 | 0, _, _, _ => none
 | k + 1, x0, x3, x4 => if x4 < (x0.length : Int) then (if 0 ≤ x4 then ((laws_toCommand.f k ((rd_T67 x0 x4).f0) ((rd_T67 x0 x4).f1)).bind fun bt302 => (if x4 < (x3.length : Int) then (laws_toCommandS.l0 k x0 (x3.set (x4 : Int).toNat (⟨bt302.1, bt302.2⟩ : S72)) (wrap64 (x4 + 1))) else (none))) else (none)) else (some x3)
def laws_toCommandS.f (k : Nat) (l0 : List (S67)) : Option ((List (S72))) := if 0 ≤ (l0.length : Int) then (if ((l0.length : Int) : Int).toNat ≤ 5864062014805 then (laws_toCommandS.l0 k l0 (List.replicate ((l0.length : Int) : Int).toNat z72) 0) else (none)) else (none)
theorem laws_toCommandS.mono_l : ∀ k, (∀ y0 y1 y2, LeO (laws_toCommandS.l0 k y0 y1 y2) (laws_toCommandS.l0 (k + 1) y0 y1 y2))
 | 0 => fun _ _ _ r h => by simp [laws_toCommandS.l0] at h
 | k + 1 => by
  have ih0 := laws_toCommandS.mono_l k
  ·intro y0 y1 y2
   unfold laws_toCommandS.l0
   repeat' with_reducible first | apply ih0 | apply laws_toCommand.mono | exact LeO.refl _ | exact LeO.none _ | apply LeO.ite | refine LeO.bind ?_ fun _ => ?_
theorem laws_toCommandS.mono : ∀ a0 k, LeO (laws_toCommandS.f k a0) (laws_toCommandS.f (k + 1) a0) := by
 intro a0 k
 have ih0 := laws_toCommandS.mono_l k
 unfold laws_toCommandS.f
 repeat' with_reducible first | apply ih0 | apply laws_toCommand.mono | exact LeO.refl _ | exact LeO.none _ | apply LeO.ite | refine LeO.bind ?_ fun _ => ?_
theorem laws_toCommandS.calls (k : Nat) (A0 : Option Addr) (c0 : Nat) (l0 : List (S67)) (r : List (S72)) (w : World) (hr0 : Kd.C k67 w A0 l0.length l0) (hc0 : l0.length ≤ c0) (h : laws_toCommandS.f k l0 = some r) :
  Calls Tryz.prog 28 #[.slice A0 l0.length c0] w fun e w' => ∃ v0_ : Value, e = .returned (v0_) ∧ Kd.R k72 72 w' w.heap.size (fun _ => True) v0_ r ∧ Below w.heap.size w w' := by
 have hu67 := Tryz.underlying67
 have hu72 := Tryz.underlying72
 have HR0 := am_ hr0
 have HC0 := am_ hc0
 clear hr0 hc0
 have HB := am_ (Below.refl w.heap.size w)
 have H := h
 clear h
 unfold laws_toCommandS.f at H
 by_cases c2 : 0 ≤ (l0.length : Int)
 ·rw [if_pos c2] at H
  have c2b0 := eq_true c2
  have c2b1 := decide_eq_true c2
  clear c2
  by_cases c3 : ((l0.length : Int) : Int).toNat ≤ 5864062014805
  ·rw [if_pos c3] at H
   have c3b0 := eq_true c3
   have c3b1 := decide_eq_true c3
   clear c3
   obtain ⟨y298, hy298⟩ : ∃ y_ : List (S72), y_ = (List.replicate ((l0.length : Int) : Int).toNat z72) := ⟨_, rfl⟩
   replace H : (laws_toCommandS.l0 k l0 y298 0) = some r := by first | (rw [hy298]; with_reducible exact H) | (have H2_ := (Option.bind_some _ _).symm.trans H; rw [hy298]; with_reducible exact H2_) | (have H2_ := (Option.bind_some _ _).symm.trans H; with_reducible exact H2_) | with_reducible exact H | (rw [hy298]; exact H) | exact H
   have Ny298 := am_ hy298
   clear hy298
   have H' := am_ H
   clear H
   go_enter Tryz.func28, Tryz.ntmps28
   go_wp2_with (first | ((with_reducible refine Sh.d 7 ?_); refine Kd.R_make k72 _ 72 rfl (N := 7) rfl 34 _ _ rfl (l0.length : Int) rfl rfl Tryz.underlying34 (.agg #[(.slice none 0 0), (.slice none 0 0)]) 48 info72 rfl (by decide) (by omega) z72 (ok := fun _ => True) (okp := fun _ => True) (k72_mkM _ _ _ z72 (Kd.R_nil _ _ _ _ _) (Kd.R_nil _ _ _ _ _)) (fun _ hk => hk) trivial (of_decide_eq_true (by first | (with_reducible assumption) | assumption)) (Nat.le_trans (Nat.mul_le_mul_right _ (of_decide_eq_true (by first | (with_reducible assumption) | assumption) : (l0.length : Int).toNat ≤ 5864062014805)) (by omega)) (Below.refl _ _) (Nat.le_refl _) ?_; intro v299 w4 ho5 hb hg_ hnew_; clear hg_ hnew_; (first | rw [← Ny298.out] at ho5 | (simp only [Int.reduceToNat] at ho5; rw [← Ny298.out] at ho5)); have HO300 := am_ (Kd.R_lower ho5 (below_size Sh.bw)); replace HB := Sh.hb hb; clear hb ho5))
   go_loopg [4] k (fun kq v4 w' => ∃ (x3_1 : List (S72)) (x4_1 : Int), v4 = .int .i64 x4_1 ∧ Aside0 (laws_toCommandS.l0 kq l0 x3_1 x4_1 = some r) ∧ Aside0 (kq ≤ k) ∧ Aside0 (Kd.R k72 72 w' w.heap.size (fun _ => True) v299 x3_1) ∧ Aside0 (Below w.heap.size w w'))
   case atStart => exact ⟨(y298), (0), (Sh.es), H', ⟨Nat.le_refl _⟩, ⟨Sh.rl HO300.out⟩, ⟨Sh.bw⟩⟩
   case round =>
    clear H'
    obtain ⟨x3_1, x4_1, rfl, HA, HK1, HO_3, HB⟩ := hrel
    cases gk with
    | zero => exact absurd HA.out (by simp [laws_toCommandS.l0])
    | succ k1 =>
     have H := HA.out
     clear HA
     simp only [laws_toCommandS.l0] at H
     by_cases c6 : x4_1 < (l0.length : Int)
     ·rw [if_pos c6] at H
      have c6b0 := decide_eq_true c6
      clear c6
      by_cases c7 : 0 ≤ x4_1
      ·rw [if_pos c7] at H
       have c7b0 := decide_eq_true c7
       clear c7
       obtain ⟨⟨t302, t305⟩, A80, H⟩ := Sh.bd H
       have A8 := am_ A80
       clear A80
       by_cases c9 : x4_1 < (x3_1.length : Int)
       ·rw [if_pos c9] at H
        have c9b0 := decide_eq_true c9
        clear c9
        obtain ⟨y308, hy308⟩ : ∃ y_ : List (S72), y_ = (x3_1.set (x4_1 : Int).toNat (⟨t302, t305⟩ : S72)) := ⟨_, rfl⟩
        replace H : (laws_toCommandS.l0 k1 l0 y308 (wrap64 (x4_1 + 1))) = some r := by first | (rw [hy308]; with_reducible exact H) | (have H2_ := (Option.bind_some _ _).symm.trans H; rw [hy308]; with_reducible exact H2_) | (have H2_ := (Option.bind_some _ _).symm.trans H; with_reducible exact H2_) | with_reducible exact H | (rw [hy308]; exact H) | exact H
        have Ny308 := am_ hy308
        clear hy308
        have H' := am_ H
        clear H
        have p301 : 0 ≤ (x4_1 : Int) := Sh.od
        have q301 : x4_1 < (l0.length : Int) := Sh.od
        obtain ⟨ad301, A301_0, c301_0, A301_1, c301_1, e301, hx301_0, hx301_1, hl301_0, hi301_0, hl301_1, hi301_1⟩ := at_T67 HR0.out x4_1 p301 q301
        cases e301
        try replace hx301_0 := Sh.cw hx301_0
        try replace hx301_1 := Sh.cw hx301_1
        have HR301_0 := am_ hi301_0
        have HC301_0 := am_ hl301_0
        clear hi301_0 hl301_0
        have HR301_1 := am_ hi301_1
        have HC301_1 := am_ hl301_1
        clear hi301_1 hl301_1
        replace p301 := eq_true p301
        replace q301 := eq_true q301
        go_wp2_with (first | ((with_reducible refine Sh.k 46 ?_); refine Sh.gL (some 20) Tryz.func46 #[.agg #[.slice A301_0 ((rd_T67 l0 x4_1).f0).length c301_0, .slice A301_1 ((rd_T67 l0 x4_1).f1).length c301_1]] (h := ?_); (with_reducible refine (laws_toCommand.calls k1 _ _ ((rd_T67 l0 x4_1).f0) _ _ ((rd_T67 l0 x4_1).f1) t302 t305 _ (Sh.cB HR301_0.out) HC301_0.out (Sh.cB HR301_1.out) HC301_1.out A8.out).mono ?_); rintro e w11 ⟨v303, v306, rfl, ho0, ho1, hb⟩; refine ⟨_, rfl, ?_⟩; replace HO_3 := am_ (Kd.R_mono (Kd.R_told (Kd.R_told (Kd.R_old (Sh.rl HO_3.out) hb) (Kd.R_base ho0)) (Kd.S_base ho1)) (fun _ h_ => h_.1)); have HO304 := am_ (Kd.R_lower ho0 (below_size Sh.bw)); have HO307 := am_ (Kd.S_lower ho1 (below_size Sh.bw)); replace HB := Sh.hb hb; (try clear hb); (try clear hb2); (try clear hk); (try clear hi); (try clear ho0); (try clear ho1); have p10 : 0 ≤ (x4_1 : Int) := Sh.od; have q10 : (x4_1 : Int) < ((x3_1.length : Int) : Int) := Sh.od; obtain ⟨go10, co10, eo10, gb10, gl10, cl10, HG10⟩ := Kd.R_form HO_3.out (by omega); (first | cases eo10 | (injection eo10 with ea_ en_ ec_; (first | subst ea_ | (injection ea_ with ea_; subst ea_)); subst ec_; clear en_)); have GB10 := am_ gb10; have GG10 := am_ HG10; clear gb10 gl10 HG10; obtain ⟨ce10, hcl10, hM10, hcc10, hfr10⟩ := Kd.R_elem HO_3.out z72 (x4_1 : Int) p10 q10; obtain ⟨ve10_0, ve10_1, rfl, ge10_0, ge10_1⟩ := k72_openM hM10; have hx10_0 : w11.cell? ⟨go10, (x4_1 : Int).toNat * 2, none⟩ = some (ve10_0) := hcc10 0 _ rfl; have hx10_1 : w11.cell? ⟨go10, (x4_1 : Int).toNat * 2 + 1, none⟩ = some (ve10_1) := hcc10 1 _ rfl; have hf10_0 : w11.frozen? ⟨go10, (x4_1 : Int).toNat * 2, none⟩ = false := hfr10 0; have hf10_1 : w11.frozen? ⟨go10, (x4_1 : Int).toNat * 2 + 1, none⟩ = false := hfr10 1; clear hcl10 hcc10 hfr10; (try clear hM10); replace p10 := eq_true p10; replace q10 := eq_true q10; obtain ⟨Ao14, co14, eo14⟩ := Kd.R_slice HO304.out; subst eo14; obtain ⟨Ao15, co15, eo15⟩ := Kd.S_slice HO307.out; subst eo15; have n_ := am_ (Kd.R_mono (ok' := (fun k_ => some k_ ≠ (.slice Ao14 t302.length co14 : Value).ownBlock ∧ some k_ ≠ (.slice Ao15 t305.length co15 : Value).ownBlock)) HO_3.out (fun k_ h => ⟨h.1.2, h.2⟩)); clear HO_3; have HO_3 := n_; clear n_; have HX12 := am_ (show Kd.R k72 72 w11 w.heap.size (fun _ => True) (.slice (some ⟨go10, 0, none⟩) x3_1.length co10) x3_1 from (Sh.rl (Kd.R_mono HO_3.out (fun _ hk => trivial)))); obtain ⟨ce12, hcl12, hM12, hcc12, hfr12⟩ := Kd.R_elem HX12.out z72 (x4_1 : Int) (of_decide_eq_true (by first | (with_reducible assumption) | assumption)) (by have h_ : (x4_1 : Int) < ((x3_1.length : Int) : Int) := Sh.od; first | exact h_ | (have e_ := (Kd.R_reads' HO_3.out).1; omega) | simpa using h_); obtain ⟨ve12_0, ve12_1, rfl, ge12_0, ge12_1⟩ := k72_openM hM12; have HP12 := Kd.R_seg HX12.out (x4_1 : Int) (of_decide_eq_true (by first | (with_reducible assumption) | assumption)) (by have h_ : (x4_1 : Int) < ((x3_1.length : Int) : Int) := Sh.od; first | exact h_ | (have e_ := (Kd.R_reads' HO_3.out).1; omega) | simpa using h_) (seg := [.slice Ao14 t302.length co14, .slice Ao15 t305.length co15]) (j := 0) hcl12 hcc12 (show 2 ≤ 2 from by decide) (x' := (⟨t302, t305⟩ : S72)) (k72_mkM _ _ _ (⟨t302, t305⟩ : S72) (Kd.R_mono (Kd.R_apart' (HO304.out) (Kd.R_typed HO_3.out) (by decide)) (fun k_ hk => ⟨trivial, fun e_ => (hk.2) (by rw [e_]; rfl)⟩)) (Kd.R_mono (Kd.R_apart' ((Kd.S_R HO307.out)) (Kd.R_typed HO_3.out) (by decide)) (fun k_ hk => ⟨trivial, fun e_ => (hk.2) (by rw [e_]; rfl)⟩))) (fun _ hk => hk); have hx12_0 := hcc12 0 _ rfl; (try simp only [show (k72).sz = 2 from rfl, Nat.mul_one, Nat.add_zero] at hx12_0); have hf12_0 := hfr12 0; (try simp only [show (k72).sz = 2 from rfl, Nat.mul_one, Nat.add_zero] at hf12_0); have hx12_1 := hcc12 1 _ rfl; (try simp only [show (k72).sz = 2 from rfl, Nat.mul_one, Nat.add_zero] at hx12_1); have hf12_1 := hfr12 1; (try simp only [show (k72).sz = 2 from rfl, Nat.mul_one, Nat.add_zero] at hf12_1); clear hcl12 hcc12 hfr12; (try clear hM12)) | ((with_reducible refine gate_store (t := 72) (p := 21) rfl ?_); refine store_event (t := 72) (p := 21) (v := ?vo_w13) (w1 := ((w11.setCell ⟨go10, (x4_1 : Int).toNat * 2, none⟩ (.slice Ao14 t302.length co14)).setCell ⟨go10, (x4_1 : Int).toNat * 2 + 1, none⟩ (.slice Ao15 t305.length co15))) ?hg ?ho ?hn ?hr ?_; (case ho => rfl); (case hg => rfl); (case hn => rfl); (case hr => first | (go_simp; done) | (go_simp; rfl)); intro w13 hw; have hg : w11.grownBy w13 (some go10) := (by rw [hw]; exact HP12.2); have hp_ : Kd.R k72 72 w13 w.heap.size (fun _ => True) (.slice (some ⟨go10, 0, none⟩) x3_1.length co10) y308 := (by rw [hw, Ny308.out]; exact HP12.1); clear HP12; have n0_ := am_ hp_; have n1_ := am_ ((by rw [hw]; exact below_set (below_set (HB.out) GB10.out) GB10.out : Below w.heap.size w w13)); clear HO_3; clear HB; clear HO304; clear HO307; have HO_3 := n0_; have HB := n1_; clear n0_ n1_; clear hg hw hp_))
        go_roundg k1
        case measure => have := HK1.out; omega
        case rel => exact ⟨(y308), (wrap64 (x4_1 + 1)), (Sh.es), H', ⟨by have := HK1.out; omega⟩, ⟨Sh.rl HO_3.out⟩, ⟨Sh.bw⟩⟩
       ·rw [if_neg c9] at H
        exact absurd H (by simp)
      ·rw [if_neg c7] at H
       exact absurd H (by simp)
     ·rw [if_neg c6] at H
      have c6b0 := decide_eq_false c6
      clear c6
      obtain rfl := Option.some.inj H
      go_wp2
      go_ret
      exact ⟨_, Sh.eR, Sh.rl HO_3.out, Sh.bw⟩
  ·rw [if_neg c3] at H
   exact absurd H (by simp)
 ·rw [if_neg c2] at H
  exact absurd H (by simp)
def laws_toProgram.f (k : Nat) (a0_0 : Int) (a0_1 : Int) (l0_2 : List (S82)) (l0_3 : List (S67)) : Option (Int × Int × (List (S80)) × (List (S72))) := (laws_toNodeS.f k l0_2).bind fun t312 => ((laws_toCommandS.f k l0_3).bind fun t315 => (some (a0_0, a0_1, t312, t315)))
theorem laws_toProgram.mono : ∀ a0 a1 a2 a3 k, LeO (laws_toProgram.f k a0 a1 a2 a3) (laws_toProgram.f (k + 1) a0 a1 a2 a3) := by
 intro a0 a1 a2 a3 k
 unfold laws_toProgram.f
 repeat' with_reducible first | apply laws_toCommandS.mono | apply laws_toNodeS.mono | exact LeO.refl _ | exact LeO.none _ | apply LeO.ite | refine LeO.bind ?_ fun _ => ?_
theorem laws_toProgram.calls (k : Nat) (a0_0 : Int) (a0_1 : Int) (A0_2 : Option Addr) (c0_2 : Nat) (l0_2 : List (S82)) (A0_3 : Option Addr) (c0_3 : Nat) (l0_3 : List (S67)) (r1 : Int) (r2 : Int) (r3 : List (S80)) (r4 : List (S72)) (w : World) (hr0_2 : Kd.C k82 w A0_2 l0_2.length l0_2) (hc0_2 : l0_2.length ≤ c0_2) (hr0_3 : Kd.C k67 w A0_3 l0_3.length l0_3) (hc0_3 : l0_3.length ≤ c0_3) (h : laws_toProgram.f k a0_0 a0_1 l0_2 l0_3 = some (r1, r2, r3, r4)) :
  Calls Tryz.prog 6 #[.agg #[.int .i64 a0_0, .int .i64 a0_1, .slice A0_2 l0_2.length c0_2, .slice A0_3 l0_3.length c0_3]] w fun e w' => ∃ v2_ v3_ : Value, e = .returned (.agg #[.int .i64 r1, .int .i64 r2, v2_, v3_]) ∧ Kd.R k80 80 w' w.heap.size (fun _ => True) v2_ r3 ∧ Kd.R k72 72 w' w.heap.size (fun k_ => some k_ ≠ (v2_ : Value).ownBlock) v3_ r4 ∧ Below w.heap.size w w' := by
 have hu25 := Tryz.underlying25
 have hu36 := Tryz.underlying36
 have HR0_2 := am_ hr0_2
 have HC0_2 := am_ hc0_2
 clear hr0_2 hc0_2
 have HR0_3 := am_ hr0_3
 have HC0_3 := am_ hc0_3
 clear hr0_3 hc0_3
 have HB := am_ (Below.refl w.heap.size w)
 have H := h
 clear h
 unfold laws_toProgram.f at H
 obtain ⟨t312, A2, H⟩ := Sh.ba H
 obtain ⟨t315, A3, H⟩ := Sh.ba H
 simp only [Option.some.injEq, Prod.mk.injEq] at H
 obtain ⟨rfl, rfl, rfl, rfl⟩ := H
 go_enter Tryz.func6, Tryz.ntmps6
 go_wp2_with (first | ((with_reducible refine Sh.d 1 ?_); refine Sh.bz w (N := 1) (cs := #[.int .i64 a0_0, .int .i64 a0_1, .slice A0_2 l0_2.length c0_2, .slice A0_3 l0_3.length c0_3]) (t := 25) (h := ?_); clear HB; intro gb309 w4 BK309 GE309 HB) | ((with_reducible refine Sh.d 2 ?_); refine Sh.bx (N := 2) (cs := #[.int .i64 0, .int .i64 0, .slice none 0 0, .slice none 0 0]) (t := 36) (h := ?_); intro gb310 hg w5 hbox hb; have BK310 := am_ hbox; have GE310 := Sh.ag w hg; replace HB := Sh.hb hb; have NB309_310 := am_ (Sh.nl hg BK309.out); have NB310_309 := am_ (Sh.ng hg BK309.out); replace BK309 := Sh.ab BK309 hb; clear hb hbox hg) | ((with_reducible refine Sh.d 3 ?_); refine Sh.bx (N := 3) (cs := #[.int .i64 0, .int .i64 0, .slice none 0 0, .slice none 0 0]) (t := 36) (h := ?_); intro gb311 hg w6 hbox hb; have BK311 := am_ hbox; have GE311 := Sh.ag w hg; replace HB := Sh.hb hb; have NB309_311 := am_ (Sh.nl hg BK309.out); have NB311_309 := am_ (Sh.ng hg BK309.out); replace BK309 := Sh.ab BK309 hb; have NB310_311 := am_ (Sh.nl hg BK310.out); have NB311_310 := am_ (Sh.ng hg BK310.out); replace BK310 := Sh.ab BK310 hb; clear hb hbox hg; have hnb7 := NB309_310.out; have hnc7 := NB310_309.out; have hnb8 := NB309_311.out; have hnc8 := NB311_309.out; obtain ⟨hcz9_0, hcz9_1, hcz9_2, hcz9_3, hfz9_0, hfz9_1, hfz9_2, hfz9_3⟩ := Sh.b4 BK309.out; have hnb10 := NB311_310.out; have hnc10 := NB310_311.out; obtain ⟨hcz11_0, hcz11_1, hcz11_2, hcz11_3, hfz11_0, hfz11_1, hfz11_2, hfz11_3⟩ := Sh.b4 BK311.out) | ((with_reducible refine Sh.k 27 ?_); refine Sh.gL (some 12) Tryz.func27 #[.slice A0_2 l0_2.length c0_2] (h := ?_); (with_reducible refine (laws_toNodeS.calls k _ _ l0_2 t312 _ (Sh.cB HR0_2.out) HC0_2.out A2.out).mono ?_); rintro e w12 ⟨v313, rfl, ho0, hb⟩; refine ⟨_, rfl, ?_⟩; have HO314 := am_ (Kd.R_lower ho0 (below_size Sh.bw)); replace BK309 := am_ (blk_below (g := gb309) (o := .cells #[.int .i64 a0_0, .int .i64 a0_1, .slice A0_2 l0_2.length c0_2, .slice A0_3 l0_3.length c0_3] 25 (0, 0)) (by refine Sh.pl ?_; refine blk_far ?_ NB309_311.out _; refine Sh.pl ?_; refine blk_far ?_ NB309_311.out _; refine Sh.pl ?_; exact BK309.out) hb); replace BK310 := am_ (blk_below (g := gb310) (o := .cells #[.int .i64 0, .int .i64 0, .slice none 0 0, .slice none 0 0] 36 (0, 0)) (by refine Sh.pl ?_; refine blk_far ?_ NB310_311.out _; refine Sh.pl ?_; refine blk_far ?_ NB310_311.out _; refine Sh.pl ?_; exact BK310.out) hb); replace BK311 := am_ (blk_below (g := gb311) (o := .cells #[.int .i64 a0_0, .int .i64 a0_1, .slice none 0 0, .slice none 0 0] 36 (0, 0)) (by refine Sh.pl ?_; refine blk_put (cs := #[.int .i64 a0_0, .int .i64 0, .slice none 0 0, .slice none 0 0]) ?_ 1 _ rfl; refine Sh.pl ?_; refine blk_put (cs := #[.int .i64 0, .int .i64 0, .slice none 0 0, .slice none 0 0]) ?_ 0 _ rfl; refine Sh.pl ?_; exact BK311.out) hb); replace HB := Sh.hb hb; (try clear hb); (try clear hb2); (try clear hk); (try clear hi); (try clear ho0); obtain ⟨Ao13, co13, eo13⟩ := Kd.R_slice HO314.out; subst eo13; obtain ⟨hcz14_0, hcz14_1, hcz14_2, hcz14_3, hfz14_0, hfz14_1, hfz14_2, hfz14_3⟩ := Sh.b4 BK311.out; obtain ⟨hcz15_0, hcz15_1, hcz15_2, hcz15_3, hfz15_0, hfz15_1, hfz15_2, hfz15_3⟩ := Sh.b4 BK309.out) | ((with_reducible refine Sh.k 28 ?_); refine Sh.gL (some 16) Tryz.func28 #[.slice A0_3 l0_3.length c0_3] (h := ?_); (with_reducible refine (laws_toCommandS.calls k _ _ l0_3 t315 _ (Sh.cB HR0_3.out) HC0_3.out A3.out).mono ?_); rintro e w16 ⟨v316, rfl, ho0, hb⟩; refine ⟨_, rfl, ?_⟩; have n0_ := am_ (Kd.R_below (Sh.rl (Kd.R_mono (Kd.R_far (p := ⟨gb311, 2, none⟩) (Kd.R_types HO314.out BK311.out (by decide)) (fun _ hk => hk.2) (.slice Ao13 t312.length co13)) (fun _ h_ => h_.1))) hb); have n1_ := am_ (Kd.R_lower (Kd.R_new' ho0 (Kd.R_lt (Sh.rl (Kd.R_mono (Kd.R_far (p := ⟨gb311, 2, none⟩) (Kd.R_types HO314.out BK311.out (by decide)) (fun _ hk => hk.2) (.slice Ao13 t312.length co13)) (fun _ h_ => h_.1))))) (below_size Sh.bw)); have n2_ := am_ (blk_below (g := gb309) (o := .cells #[.int .i64 a0_0, .int .i64 a0_1, .slice A0_2 l0_2.length c0_2, .slice A0_3 l0_3.length c0_3] 25 (0, 0)) (by refine Sh.pl ?_; refine blk_far ?_ NB309_311.out _; refine Sh.pl ?_; exact BK309.out) hb); have n3_ := am_ (blk_below (g := gb310) (o := .cells #[.int .i64 0, .int .i64 0, .slice none 0 0, .slice none 0 0] 36 (0, 0)) (by refine Sh.pl ?_; refine blk_far ?_ NB310_311.out _; refine Sh.pl ?_; exact BK310.out) hb); have n4_ := am_ (blk_below (g := gb311) (o := .cells #[.int .i64 a0_0, .int .i64 a0_1, .slice Ao13 t312.length co13, .slice none 0 0] 36 (0, 0)) (by refine Sh.pl ?_; refine blk_put (cs := #[.int .i64 a0_0, .int .i64 a0_1, .slice none 0 0, .slice none 0 0]) ?_ 2 _ rfl; refine Sh.pl ?_; exact BK311.out) hb); have n5_ := am_ (below_step Sh.bw hb); clear HO314; clear BK309; clear BK310; clear BK311; clear HB; have HO314 := n0_; have HO317 := n1_; have BK309 := n2_; have BK310 := n3_; have BK311 := n4_; have HB := n5_; clear n0_ n1_ n2_ n3_ n4_ n5_; (try clear hb); (try clear hb2); (try clear hk); (try clear hi); (try clear ho0); obtain ⟨Ao17, co17, eo17⟩ := Kd.R_slice HO317.out; subst eo17; obtain ⟨hcz18_0, hcz18_1, hcz18_2, hcz18_3, hfz18_0, hfz18_1, hfz18_2, hfz18_3⟩ := Sh.b4 BK311.out; obtain ⟨hcz19_0, hcz19_1, hcz19_2, hcz19_3, hfz19_0, hfz19_1, hfz19_2, hfz19_3⟩ := Sh.b4 BK310.out))
 refine bodyPost_ret (results_cell_row rfl _ _ gb310 36 #[.int .i64 a0_0, .int .i64 a0_1, .slice Ao13 t312.length co13, .slice Ao17 t315.length co17] (0, 0) _ rfl (by refine Sh.pl ?_; refine blk_put (cs := #[.int .i64 a0_0, .int .i64 a0_1, .slice Ao13 t312.length co13, .slice none 0 0]) ?_ 3 _ rfl; refine Sh.pl ?_; refine blk_put (cs := #[.int .i64 a0_0, .int .i64 a0_1, .slice none 0 0, .slice none 0 0]) ?_ 2 _ rfl; refine Sh.pl ?_; refine blk_put (cs := #[.int .i64 a0_0, .int .i64 0, .slice none 0 0, .slice none 0 0]) ?_ 1 _ rfl; refine Sh.pl ?_; refine blk_put (cs := #[.int .i64 0, .int .i64 0, .slice none 0 0, .slice none 0 0]) ?_ 0 _ rfl; refine Sh.pl ?_; refine blk_far ?_ NB310_311.out _; refine Sh.pl ?_; exact BK310.out) Tryz.underlying36 rfl (by kernel_rfl)) rfl ?_
 exact ⟨_, _, by first | rfl | (simp [errW_none, errW_some] <;> rfl) | (simp [*, errW_none, errW_some] <;> rfl), Sh.rl (Kd.R_mono (Kd.R_far (p := ⟨gb310, 3, none⟩) (Kd.R_far (p := ⟨gb310, 2, none⟩) (Kd.R_far (p := ⟨gb310, 1, none⟩) (Kd.R_far (p := ⟨gb310, 0, none⟩) (Kd.R_far (p := ⟨gb311, 3, none⟩) (Kd.R_types (Kd.R_types HO314.out BK311.out (by decide)) BK310.out (by decide)) (fun _ hk => hk.1.2) (.slice Ao17 t315.length co17)) (fun _ hk => hk.2) (.int .i64 a0_0)) (fun _ hk => hk.2) (.int .i64 a0_1)) (fun _ hk => hk.2) (.slice Ao13 t312.length co13)) (fun _ hk => hk.2) (.slice Ao17 t315.length co17)) (fun _ hk => trivial)), Sh.rl (Kd.R_mono (Kd.R_far (p := ⟨gb310, 3, none⟩) (Kd.R_far (p := ⟨gb310, 2, none⟩) (Kd.R_far (p := ⟨gb310, 1, none⟩) (Kd.R_far (p := ⟨gb310, 0, none⟩) (Kd.R_far (p := ⟨gb311, 3, none⟩) (Kd.R_types (Kd.R_types HO317.out BK311.out (by decide)) BK310.out (by decide)) (fun _ hk => hk.1.2) (.slice Ao17 t315.length co17)) (fun _ hk => hk.2) (.int .i64 a0_0)) (fun _ hk => hk.2) (.int .i64 a0_1)) (fun _ hk => hk.2) (.slice Ao13 t312.length co13)) (fun _ hk => hk.2) (.slice Ao17 t315.length co17)) (fun _ hk => hk.1.1.2)), Sh.bw⟩
def laws_toUint64S.l0 : Nat → List Int → List Int → Int → Option (List Int)
 | 0, _, _, _ => none
 | k + 1, x0, x3, x4 => if x4 < (x0.length : Int) then (if 0 ≤ x4 then (if x4 < (x3.length : Int) then (laws_toUint64S.l0 k x0 (x3.set (x4 : Int).toNat (rd x0 x4)) (wrap64 (x4 + 1))) else (none)) else (none)) else (some x3)
def laws_toUint64S.f (k : Nat) (l0 : List Int) : Option (List Int) := if 0 ≤ (l0.length : Int) then (if ((l0.length : Int) : Int).toNat ≤ 35184372088832 then (laws_toUint64S.l0 k l0 (List.replicate ((l0.length : Int) : Int).toNat 0) 0) else (none)) else (none)
theorem laws_toUint64S.mono_l : ∀ k, (∀ y0 y1 y2, LeO (laws_toUint64S.l0 k y0 y1 y2) (laws_toUint64S.l0 (k + 1) y0 y1 y2))
 | 0 => fun _ _ _ r h => by simp [laws_toUint64S.l0] at h
 | k + 1 => by
  have ih0 := laws_toUint64S.mono_l k
  ·intro y0 y1 y2
   unfold laws_toUint64S.l0
   repeat' with_reducible first | apply ih0 | exact LeO.refl _ | exact LeO.none _ | apply LeO.ite | refine LeO.bind ?_ fun _ => ?_
theorem laws_toUint64S.mono : ∀ a0 k, LeO (laws_toUint64S.f k a0) (laws_toUint64S.f (k + 1) a0) := by
 intro a0 k
 have ih0 := laws_toUint64S.mono_l k
 unfold laws_toUint64S.f
 repeat' with_reducible first | apply ih0 | exact LeO.refl _ | exact LeO.none _ | apply LeO.ite | refine LeO.bind ?_ fun _ => ?_
theorem laws_toUint64S.calls (k : Nat) (A0 : Option Addr) (c0 : Nat) (l0 : List Int) (r : List Int) (w : World) (hr0 : Kd.C (Kd.int .u64) w A0 l0.length l0) (hc0 : l0.length ≤ c0) (h : laws_toUint64S.f k l0 = some r) :
  Calls Tryz.prog 7 #[.slice A0 l0.length c0] w fun e w' => ∃ v0_ : Value, e = .returned (v0_) ∧ Kd.R (Kd.int .u64) 59 w' w.heap.size (fun _ => True) v0_ r ∧ Below w.heap.size w w' := by
 have HR0 := am_ hr0
 have HC0 := am_ hc0
 clear hr0 hc0
 have HB := am_ (Below.refl w.heap.size w)
 have H := h
 clear h
 unfold laws_toUint64S.f at H
 by_cases c2 : 0 ≤ (l0.length : Int)
 ·rw [if_pos c2] at H
  have c2b0 := eq_true c2
  have c2b1 := decide_eq_true c2
  clear c2
  by_cases c3 : ((l0.length : Int) : Int).toNat ≤ 35184372088832
  ·rw [if_pos c3] at H
   have c3b0 := eq_true c3
   have c3b1 := decide_eq_true c3
   clear c3
   obtain ⟨y318, hy318⟩ : ∃ y_ : List Int, y_ = (List.replicate ((l0.length : Int) : Int).toNat 0) := ⟨_, rfl⟩
   replace H : (laws_toUint64S.l0 k l0 y318 0) = some r := by first | (rw [hy318]; with_reducible exact H) | (have H2_ := (Option.bind_some _ _).symm.trans H; rw [hy318]; with_reducible exact H2_) | (have H2_ := (Option.bind_some _ _).symm.trans H; with_reducible exact H2_) | with_reducible exact H | (rw [hy318]; exact H) | exact H
   have Ny318 := am_ hy318
   clear hy318
   have H' := am_ H
   clear H
   go_enter Tryz.func7, Tryz.ntmps7
   go_wp2_with (first | ((with_reducible refine Sh.d 7 ?_); refine Kd.R_make (Kd.int .u64) _ 59 rfl (N := 7) rfl 26 _ _ rfl (l0.length : Int) rfl rfl Tryz.underlying26 (.int .u64 0) 8 info59 rfl (by decide) (by omega) 0 (ok := fun _ => True) (okp := fun _ => True) rfl (fun _ hk => hk) trivial (of_decide_eq_true (by first | (with_reducible assumption) | assumption)) (Nat.le_trans (Nat.mul_le_mul_right _ (of_decide_eq_true (by first | (with_reducible assumption) | assumption) : (l0.length : Int).toNat ≤ 35184372088832)) (by omega)) (Below.refl _ _) (Nat.le_refl _) ?_; intro v319 w4 ho5 hb hg_ hnew_; clear hg_ hnew_; (first | rw [← Ny318.out] at ho5 | (simp only [Int.reduceToNat] at ho5; rw [← Ny318.out] at ho5)); have HO320 := am_ (Kd.R_lower ho5 (below_size Sh.bw)); replace HB := Sh.hb hb; clear hb ho5))
   go_loopg [4] k (fun kq v4 w' => ∃ (x3_1 : List Int) (x4_1 : Int), v4 = .int .i64 x4_1 ∧ Aside0 (laws_toUint64S.l0 kq l0 x3_1 x4_1 = some r) ∧ Aside0 (kq ≤ k) ∧ Aside0 (Kd.R (Kd.int .u64) 59 w' w.heap.size (fun _ => True) v319 x3_1) ∧ Aside0 (Below w.heap.size w w'))
   case atStart => exact ⟨(y318), (0), (Sh.es), H', ⟨Nat.le_refl _⟩, ⟨Sh.rl HO320.out⟩, ⟨Sh.bw⟩⟩
   case round =>
    clear H'
    obtain ⟨x3_1, x4_1, rfl, HA, HK1, HO_3, HB⟩ := hrel
    cases gk with
    | zero => exact absurd HA.out (by simp [laws_toUint64S.l0])
    | succ k1 =>
     have H := HA.out
     clear HA
     simp only [laws_toUint64S.l0] at H
     by_cases c6 : x4_1 < (l0.length : Int)
     ·rw [if_pos c6] at H
      have c6b0 := decide_eq_true c6
      clear c6
      by_cases c7 : 0 ≤ x4_1
      ·rw [if_pos c7] at H
       have c7b0 := decide_eq_true c7
       clear c7
       by_cases c8 : x4_1 < (x3_1.length : Int)
       ·rw [if_pos c8] at H
        have c8b0 := decide_eq_true c8
        clear c8
        obtain ⟨y322, hy322⟩ : ∃ y_ : List Int, y_ = (x3_1.set (x4_1 : Int).toNat (rd l0 x4_1)) := ⟨_, rfl⟩
        replace H : (laws_toUint64S.l0 k1 l0 y322 (wrap64 (x4_1 + 1))) = some r := by first | (rw [hy322]; with_reducible exact H) | (have H2_ := (Option.bind_some _ _).symm.trans H; rw [hy322]; with_reducible exact H2_) | (have H2_ := (Option.bind_some _ _).symm.trans H; with_reducible exact H2_) | with_reducible exact H | (rw [hy322]; exact H) | exact H
        have Ny322 := am_ hy322
        clear hy322
        have H' := am_ H
        clear H
        have p321 : 0 ≤ (x4_1 : Int) := Sh.od
        have q321 : x4_1 < (l0.length : Int) := Sh.od
        obtain ⟨ad321, e321, hx321_0⟩ := Kd.at_int HR0.out x4_1 p321 q321
        cases e321
        try replace hx321_0 := Sh.cw hx321_0
        replace p321 := eq_true p321
        replace q321 := eq_true q321
        have p9 : 0 ≤ (x4_1 : Int) := Sh.od
        have q9 : (x4_1 : Int) < ((x3_1.length : Int) : Int) := Sh.od
        obtain ⟨go9, co9, eo9, gb9, gl9, cl9, HG9⟩ := Kd.R_form HO_3.out (by omega)
        (first | cases eo9 | (injection eo9 with ea_ en_ ec_; (first | subst ea_ | (injection ea_ with ea_; subst ea_)); subst ec_; clear en_))
        have GB9 := am_ gb9
        have GG9 := am_ HG9
        clear gb9 gl9 HG9
        obtain ⟨hx9_0, hf9_0⟩ := Kd.R_celln 0 HO_3.out (x4_1 : Int) p9 q9
        replace p9 := eq_true p9
        replace q9 := eq_true q9
        have HP10 := Kd.R_putg HO_3.out (x4_1 : Int) (rd l0 x4_1)
        go_wp2_with (first | ((with_reducible refine gate_store (t := 59) (p := 20) rfl ?_); refine store_event (t := 59) (p := 20) (v := ?vo_w11) (w1 := (wr.setCell ⟨go9, (x4_1 : Int).toNat, none⟩ (.int .u64 (rd l0 x4_1)))) ?hg ?ho ?hn ?hr ?_; (case ho => rfl); (case hg => rfl); (case hn => rfl); (case hr => first | (go_simp; done) | (go_simp; rfl)); intro w11 hw; have hg : wr.grownBy w11 (some go9) := (by rw [hw]; exact HP10.2); have hp_ : Kd.R (Kd.int .u64) 59 w11 w.heap.size (fun _ => True) (.slice (some ⟨go9, 0, none⟩) x3_1.length co9) y322 := (by rw [hw, Ny322.out]; exact HP10.1); clear HP10; replace HO_3 := am_ hp_; replace HB := am_ ((by rw [hw]; exact below_set (HB.out) GB9.out : Below w.heap.size w w11)); clear hg hw hp_))
        go_roundg k1
        case measure => have := HK1.out; omega
        case rel => exact ⟨(y322), (wrap64 (x4_1 + 1)), (Sh.es), H', ⟨by have := HK1.out; omega⟩, ⟨Sh.rl HO_3.out⟩, ⟨Sh.bw⟩⟩
       ·rw [if_neg c8] at H
        exact absurd H (by simp)
      ·rw [if_neg c7] at H
       exact absurd H (by simp)
     ·rw [if_neg c6] at H
      have c6b0 := decide_eq_false c6
      clear c6
      obtain rfl := Option.some.inj H
      go_wp2
      go_ret
      exact ⟨_, Sh.eR, Sh.rl HO_3.out, Sh.bw⟩
  ·rw [if_neg c3] at H
   exact absurd H (by simp)
 ·rw [if_neg c2] at H
  exact absurd H (by simp)
def laws_toIntS.l0 : Nat → List Int → List Int → Int → Option (List Int)
 | 0, _, _, _ => none
 | k + 1, x0, x3, x4 => if x4 < (x0.length : Int) then (if 0 ≤ x4 then (if x4 < (x3.length : Int) then (laws_toIntS.l0 k x0 (x3.set (x4 : Int).toNat (rd x0 x4)) (wrap64 (x4 + 1))) else (none)) else (none)) else (some x3)
def laws_toIntS.f (k : Nat) (l0 : List Int) : Option (List Int) := if 0 ≤ (l0.length : Int) then (if ((l0.length : Int) : Int).toNat ≤ 35184372088832 then (laws_toIntS.l0 k l0 (List.replicate ((l0.length : Int) : Int).toNat 0) 0) else (none)) else (none)
theorem laws_toIntS.mono_l : ∀ k, (∀ y0 y1 y2, LeO (laws_toIntS.l0 k y0 y1 y2) (laws_toIntS.l0 (k + 1) y0 y1 y2))
 | 0 => fun _ _ _ r h => by simp [laws_toIntS.l0] at h
 | k + 1 => by
  have ih0 := laws_toIntS.mono_l k
  ·intro y0 y1 y2
   unfold laws_toIntS.l0
   repeat' with_reducible first | apply ih0 | exact LeO.refl _ | exact LeO.none _ | apply LeO.ite | refine LeO.bind ?_ fun _ => ?_
theorem laws_toIntS.mono : ∀ a0 k, LeO (laws_toIntS.f k a0) (laws_toIntS.f (k + 1) a0) := by
 intro a0 k
 have ih0 := laws_toIntS.mono_l k
 unfold laws_toIntS.f
 repeat' with_reducible first | apply ih0 | exact LeO.refl _ | exact LeO.none _ | apply LeO.ite | refine LeO.bind ?_ fun _ => ?_
theorem laws_toIntS.calls (k : Nat) (A0 : Option Addr) (c0 : Nat) (l0 : List Int) (r : List Int) (w : World) (hr0 : Kd.C (Kd.int .i64) w A0 l0.length l0) (hc0 : l0.length ≤ c0) (h : laws_toIntS.f k l0 = some r) :
  Calls Tryz.prog 8 #[.slice A0 l0.length c0] w fun e w' => ∃ v0_ : Value, e = .returned (v0_) ∧ Kd.R (Kd.int .i64) 3 w' w.heap.size (fun _ => True) v0_ r ∧ Below w.heap.size w w' := by
 have HR0 := am_ hr0
 have HC0 := am_ hc0
 clear hr0 hc0
 have HB := am_ (Below.refl w.heap.size w)
 have H := h
 clear h
 unfold laws_toIntS.f at H
 by_cases c2 : 0 ≤ (l0.length : Int)
 ·rw [if_pos c2] at H
  have c2b0 := eq_true c2
  have c2b1 := decide_eq_true c2
  clear c2
  by_cases c3 : ((l0.length : Int) : Int).toNat ≤ 35184372088832
  ·rw [if_pos c3] at H
   have c3b0 := eq_true c3
   have c3b1 := decide_eq_true c3
   clear c3
   obtain ⟨y323, hy323⟩ : ∃ y_ : List Int, y_ = (List.replicate ((l0.length : Int) : Int).toNat 0) := ⟨_, rfl⟩
   replace H : (laws_toIntS.l0 k l0 y323 0) = some r := by first | (rw [hy323]; with_reducible exact H) | (have H2_ := (Option.bind_some _ _).symm.trans H; rw [hy323]; with_reducible exact H2_) | (have H2_ := (Option.bind_some _ _).symm.trans H; with_reducible exact H2_) | with_reducible exact H | (rw [hy323]; exact H) | exact H
   have Ny323 := am_ hy323
   clear hy323
   have H' := am_ H
   clear H
   go_enter Tryz.func8, Tryz.ntmps8
   go_wp2_with (first | ((with_reducible refine Sh.d 7 ?_); refine Kd.R_make (Kd.int .i64) _ 3 rfl (N := 7) rfl 27 _ _ rfl (l0.length : Int) rfl rfl Tryz.underlying27 (.int .i64 0) 8 info3 rfl (by decide) (by omega) 0 (ok := fun _ => True) (okp := fun _ => True) rfl (fun _ hk => hk) trivial (of_decide_eq_true (by first | (with_reducible assumption) | assumption)) (Nat.le_trans (Nat.mul_le_mul_right _ (of_decide_eq_true (by first | (with_reducible assumption) | assumption) : (l0.length : Int).toNat ≤ 35184372088832)) (by omega)) (Below.refl _ _) (Nat.le_refl _) ?_; intro v324 w4 ho5 hb hg_ hnew_; clear hg_ hnew_; (first | rw [← Ny323.out] at ho5 | (simp only [Int.reduceToNat] at ho5; rw [← Ny323.out] at ho5)); have HO325 := am_ (Kd.R_lower ho5 (below_size Sh.bw)); replace HB := Sh.hb hb; clear hb ho5))
   go_loopg [4] k (fun kq v4 w' => ∃ (x3_1 : List Int) (x4_1 : Int), v4 = .int .i64 x4_1 ∧ Aside0 (laws_toIntS.l0 kq l0 x3_1 x4_1 = some r) ∧ Aside0 (kq ≤ k) ∧ Aside0 (Kd.R (Kd.int .i64) 3 w' w.heap.size (fun _ => True) v324 x3_1) ∧ Aside0 (Below w.heap.size w w'))
   case atStart => exact ⟨(y323), (0), (Sh.es), H', ⟨Nat.le_refl _⟩, ⟨Sh.rl HO325.out⟩, ⟨Sh.bw⟩⟩
   case round =>
    clear H'
    obtain ⟨x3_1, x4_1, rfl, HA, HK1, HO_3, HB⟩ := hrel
    cases gk with
    | zero => exact absurd HA.out (by simp [laws_toIntS.l0])
    | succ k1 =>
     have H := HA.out
     clear HA
     simp only [laws_toIntS.l0] at H
     by_cases c6 : x4_1 < (l0.length : Int)
     ·rw [if_pos c6] at H
      have c6b0 := decide_eq_true c6
      clear c6
      by_cases c7 : 0 ≤ x4_1
      ·rw [if_pos c7] at H
       have c7b0 := decide_eq_true c7
       clear c7
       by_cases c8 : x4_1 < (x3_1.length : Int)
       ·rw [if_pos c8] at H
        have c8b0 := decide_eq_true c8
        clear c8
        obtain ⟨y327, hy327⟩ : ∃ y_ : List Int, y_ = (x3_1.set (x4_1 : Int).toNat (rd l0 x4_1)) := ⟨_, rfl⟩
        replace H : (laws_toIntS.l0 k1 l0 y327 (wrap64 (x4_1 + 1))) = some r := by first | (rw [hy327]; with_reducible exact H) | (have H2_ := (Option.bind_some _ _).symm.trans H; rw [hy327]; with_reducible exact H2_) | (have H2_ := (Option.bind_some _ _).symm.trans H; with_reducible exact H2_) | with_reducible exact H | (rw [hy327]; exact H) | exact H
        have Ny327 := am_ hy327
        clear hy327
        have H' := am_ H
        clear H
        have p326 : 0 ≤ (x4_1 : Int) := Sh.od
        have q326 : x4_1 < (l0.length : Int) := Sh.od
        obtain ⟨ad326, e326, hx326_0⟩ := Kd.at_int HR0.out x4_1 p326 q326
        cases e326
        try replace hx326_0 := Sh.cw hx326_0
        replace p326 := eq_true p326
        replace q326 := eq_true q326
        have p9 : 0 ≤ (x4_1 : Int) := Sh.od
        have q9 : (x4_1 : Int) < ((x3_1.length : Int) : Int) := Sh.od
        obtain ⟨go9, co9, eo9, gb9, gl9, cl9, HG9⟩ := Kd.R_form HO_3.out (by omega)
        (first | cases eo9 | (injection eo9 with ea_ en_ ec_; (first | subst ea_ | (injection ea_ with ea_; subst ea_)); subst ec_; clear en_))
        have GB9 := am_ gb9
        have GG9 := am_ HG9
        clear gb9 gl9 HG9
        obtain ⟨hx9_0, hf9_0⟩ := Kd.R_celln 0 HO_3.out (x4_1 : Int) p9 q9
        replace p9 := eq_true p9
        replace q9 := eq_true q9
        have HP10 := Kd.R_putg HO_3.out (x4_1 : Int) (rd l0 x4_1)
        go_wp2_with (first | ((with_reducible refine gate_store (t := 3) (p := 20) rfl ?_); refine store_event (t := 3) (p := 20) (v := ?vo_w11) (w1 := (wr.setCell ⟨go9, (x4_1 : Int).toNat, none⟩ (.int .i64 (rd l0 x4_1)))) ?hg ?ho ?hn ?hr ?_; (case ho => rfl); (case hg => rfl); (case hn => rfl); (case hr => first | (go_simp; done) | (go_simp; rfl)); intro w11 hw; have hg : wr.grownBy w11 (some go9) := (by rw [hw]; exact HP10.2); have hp_ : Kd.R (Kd.int .i64) 3 w11 w.heap.size (fun _ => True) (.slice (some ⟨go9, 0, none⟩) x3_1.length co9) y327 := (by rw [hw, Ny327.out]; exact HP10.1); clear HP10; replace HO_3 := am_ hp_; replace HB := am_ ((by rw [hw]; exact below_set (HB.out) GB9.out : Below w.heap.size w w11)); clear hg hw hp_))
        go_roundg k1
        case measure => have := HK1.out; omega
        case rel => exact ⟨(y327), (wrap64 (x4_1 + 1)), (Sh.es), H', ⟨by have := HK1.out; omega⟩, ⟨Sh.rl HO_3.out⟩, ⟨Sh.bw⟩⟩
       ·rw [if_neg c8] at H
        exact absurd H (by simp)
      ·rw [if_neg c7] at H
       exact absurd H (by simp)
     ·rw [if_neg c6] at H
      have c6b0 := decide_eq_false c6
      clear c6
      obtain rfl := Option.some.inj H
      go_wp2
      go_ret
      exact ⟨_, Sh.eR, Sh.rl HO_3.out, Sh.bw⟩
  ·rw [if_neg c3] at H
   exact absurd H (by simp)
 ·rw [if_neg c2] at H
  exact absurd H (by simp)
def impl_isWide.f (a0 : Int) : Option (Bool) := if a0 ≥ 1 then (some (decide (a0 ≤ 64))) else (some false)
theorem impl_isWide.calls (a0 : Int) (r : Bool) (w : World) (h : impl_isWide.f a0 = some r) :
  Calls Tryz.prog 61 #[.int .i64 a0] w fun e w' => e = .returned (.bool r) ∧ Drawn0 w w' := by
 have H := h
 clear h
 unfold impl_isWide.f at H
 by_cases c2 : a0 ≥ 1
 ·rw [if_pos c2] at H
  have c2b0 : decide (1 ≤ a0) = true := decide_eq_true c2
  clear c2
  obtain rfl := Option.some.inj H
  go_enter Tryz.func61, Tryz.ntmps61
  go_wp2
  go_ret
  exact ⟨Sh.es, Sh.dr⟩
 ·rw [if_neg c2] at H
  have c2b0 : decide (1 ≤ a0) = false := decide_eq_false c2
  clear c2
  obtain rfl := Option.some.inj H
  go_enter Tryz.func61, Tryz.ntmps61
  go_wp2
  go_ret
  exact ⟨Sh.es, Sh.dr⟩
def impl_isVars.f (a0 : Int) : Option (Bool) := if a0 ≥ 1 then (some (decide (a0 ≤ 4))) else (some false)
theorem impl_isVars.calls (a0 : Int) (r : Bool) (w : World) (h : impl_isVars.f a0 = some r) :
  Calls Tryz.prog 62 #[.int .i64 a0] w fun e w' => e = .returned (.bool r) ∧ Drawn0 w w' := by
 have H := h
 clear h
 unfold impl_isVars.f at H
 by_cases c2 : a0 ≥ 1
 ·rw [if_pos c2] at H
  have c2b0 : decide (1 ≤ a0) = true := decide_eq_true c2
  clear c2
  obtain rfl := Option.some.inj H
  go_enter Tryz.func62, Tryz.ntmps62
  go_wp2
  go_ret
  exact ⟨Sh.es, Sh.dr⟩
 ·rw [if_neg c2] at H
  have c2b0 : decide (1 ≤ a0) = false := decide_eq_false c2
  clear c2
  obtain rfl := Option.some.inj H
  go_enter Tryz.func62, Tryz.ntmps62
  go_wp2
  go_ret
  exact ⟨Sh.es, Sh.dr⟩
mutual
def impl_operandsOf.j0 : Nat → Int → Bool → Option (Int × Int × Int)
 | 0, _, _ => none
 | k + 1, x0, x5 => if x5 = true then (some (0, 0, 1)) else (if x0 = 20 then (some (0, 0, 2)) else (if x0 = 13 then (some (1, 1, 1)) else (if x0 = 19 then (some (1, 2, 2)) else (if x0 ≥ 3 then (impl_operandsOf.j1 k x0 (decide (x0 ≤ 12))) else (impl_operandsOf.j1 k x0 false)))))
def impl_operandsOf.j1 : Nat → Int → Bool → Option (Int × Int × Int)
 | 0, _, _ => none
 | k + 1, x0, x21 => if x21 = true then (some (2, 1, 1)) else (if x0 ≥ 14 then (impl_operandsOf.j2 k x0 (decide (x0 ≤ 16))) else (impl_operandsOf.j2 k x0 false))
def impl_operandsOf.j2 : Nat → Int → Bool → Option (Int × Int × Int)
 | 0, _, _ => none
 | k + 1, x0, x28 => if x28 = true then (some (2, 1, 2)) else (if x0 = 17 then (some (2, 2, 2)) else (if x0 = 18 then (some (2, 2, 2)) else (some (0, 0, 0))))
end
def impl_operandsOf.f (k : Nat) (a0 : Int) : Option (Int × Int × Int) := if a0 = 1 then (impl_operandsOf.j0 k a0 true) else (impl_operandsOf.j0 k a0 (a0 == 2))
theorem impl_operandsOf.mono_l : ∀ k, (∀ y0 y1, LeO (impl_operandsOf.j0 k y0 y1) (impl_operandsOf.j0 (k + 1) y0 y1)) ∧ (∀ y0 y1, LeO (impl_operandsOf.j1 k y0 y1) (impl_operandsOf.j1 (k + 1) y0 y1)) ∧ (∀ y0 y1, LeO (impl_operandsOf.j2 k y0 y1) (impl_operandsOf.j2 (k + 1) y0 y1))
 | 0 => ⟨fun _ _ r h => by simp [impl_operandsOf.j0] at h, fun _ _ r h => by simp [impl_operandsOf.j1] at h, fun _ _ r h => by simp [impl_operandsOf.j2] at h⟩
 | k + 1 => by
  obtain ⟨ih0, ih1, ih2⟩ := impl_operandsOf.mono_l k
  and_intros <;> intros
  all_goals (first | unfold impl_operandsOf.j0 | unfold impl_operandsOf.j1 | unfold impl_operandsOf.j2)
  all_goals repeat' with_reducible first | apply ih0 | apply ih1 | apply ih2 | exact LeO.refl _ | exact LeO.none _ | apply LeO.ite | refine LeO.bind ?_ fun _ => ?_
theorem impl_operandsOf.mono : ∀ a0 k, LeO (impl_operandsOf.f k a0) (impl_operandsOf.f (k + 1) a0) := by
 intro a0 k
 obtain ⟨ih0, ih1, ih2⟩ := impl_operandsOf.mono_l k
 unfold impl_operandsOf.f
 repeat' with_reducible first | apply ih0 | apply ih1 | apply ih2 | exact LeO.refl _ | exact LeO.none _ | apply LeO.ite | refine LeO.bind ?_ fun _ => ?_
theorem impl_operandsOf.calls (k : Nat) (a0 : Int) (r1 : Int) (r2 : Int) (r3 : Int) (w : World) (h : impl_operandsOf.f k a0 = some (r1, r2, r3)) :
  Calls Tryz.prog 98 #[.int .i64 a0] w fun e w' => e = .returned (.tuple #[.int .i64 r1, .int .i64 r2, .int .i64 r3]) ∧ Drawn0 w w' := by
 have H := h
 clear h
 unfold impl_operandsOf.f at H
 have HC2 := am_ H
 clear H
 go_enter Tryz.func98, Tryz.ntmps98
 go_upto_region 1 with (fail)
 go_cut [5] (fun v5 wc => ∃ (kq : Nat) (x5_1 : Bool), v5 = .bool x5_1 ∧ Aside0 (impl_operandsOf.j0 kq a0 x5_1 = some (r1, r2, r3)) ∧ Aside0 (kq ≤ k) ∧ Drawn0 w wc)
 case first =>
  have H := HC2.out
  clear HC2
  by_cases c3 : a0 = 1
  ·rw [if_pos c3] at H
   have c3b0 : (a0 == 1) = true := beq_iff_eq.mpr c3
   have c3b1 : (a0 != 1) = false := bne_eq_false_iff_eq.mpr c3
   clear c3
   first | rw [c3b0] | (simp only [i64_w, i32_w]; rw [c3b0]) | skip
   have H' := am_ H
   clear H
   go_wp2
   go_meet
   case rel => exact ⟨_, (true), (Sh.es), H', ⟨Sh.om⟩, Sh.dr⟩
  ·rw [if_neg c3] at H
   have c3b0 : (a0 == 1) = false := beq_eq_false_iff_ne.mpr c3
   have c3b1 : (a0 != 1) = true := bne_iff_ne.mpr c3
   first | rw [c3b0] | (simp only [i64_w, i32_w]; rw [c3b0]) | skip
   have H' := am_ H
   clear H
   go_wp2
   go_meet
   case rel => exact ⟨_, ((a0 == 2)), (Sh.es), H', ⟨Sh.om⟩, Sh.dr⟩
 case rest =>
  clear HC2
  obtain ⟨kq, x5_1, rfl, HA, HJ1, ⟨mc1, rfl⟩⟩ := hcut
  cases kq with
  | zero => exact absurd HA.out (by simp [impl_operandsOf.j0])
  | succ kj1 =>
   have H := HA.out
   clear HA
   simp only [impl_operandsOf.j0] at H
   by_cases c4 : x5_1 = true
   ·subst c4
    rw [if_pos rfl] at H
    simp only [Option.some.injEq, Prod.mk.injEq] at H
    obtain ⟨rfl, rfl, rfl⟩ := H
    go_wp2
    go_ret3
    exact ⟨Sh.es, Sh.dr⟩
   ·replace c4 := Bool.eq_false_iff.mpr c4
    subst c4
    rw [Sh.nf] at H
    by_cases c5 : a0 = 20
    ·rw [if_pos c5] at H
     have c5b0 : (a0 == 20) = true := beq_iff_eq.mpr c5
     have c5b1 : (a0 != 20) = false := bne_eq_false_iff_eq.mpr c5
     clear c5
     simp only [Option.some.injEq, Prod.mk.injEq] at H
     obtain ⟨rfl, rfl, rfl⟩ := H
     go_wp2
     go_ret3
     exact ⟨Sh.es, Sh.dr⟩
    ·rw [if_neg c5] at H
     have c5b0 : (a0 == 20) = false := beq_eq_false_iff_ne.mpr c5
     have c5b1 : (a0 != 20) = true := bne_iff_ne.mpr c5
     by_cases c6 : a0 = 13
     ·rw [if_pos c6] at H
      have c6b0 : (a0 == 13) = true := beq_iff_eq.mpr c6
      have c6b1 : (a0 != 13) = false := bne_eq_false_iff_eq.mpr c6
      clear c6
      simp only [Option.some.injEq, Prod.mk.injEq] at H
      obtain ⟨rfl, rfl, rfl⟩ := H
      go_wp2
      go_ret3
      exact ⟨Sh.es, Sh.dr⟩
     ·rw [if_neg c6] at H
      have c6b0 : (a0 == 13) = false := beq_eq_false_iff_ne.mpr c6
      have c6b1 : (a0 != 13) = true := bne_iff_ne.mpr c6
      by_cases c7 : a0 = 19
      ·rw [if_pos c7] at H
       have c7b0 : (a0 == 19) = true := beq_iff_eq.mpr c7
       have c7b1 : (a0 != 19) = false := bne_eq_false_iff_eq.mpr c7
       clear c7
       simp only [Option.some.injEq, Prod.mk.injEq] at H
       obtain ⟨rfl, rfl, rfl⟩ := H
       go_wp2
       go_ret3
       exact ⟨Sh.es, Sh.dr⟩
      ·rw [if_neg c7] at H
       have c7b0 : (a0 == 19) = false := beq_eq_false_iff_ne.mpr c7
       have c7b1 : (a0 != 19) = true := bne_iff_ne.mpr c7
       have HC8 := am_ H
       clear H
       go_upto_region 9 with (fail)
       go_cut [21] (fun v21 wc => ∃ (kq : Nat) (x21_7 : Bool), v21 = .bool x21_7 ∧ Aside0 (impl_operandsOf.j1 kq a0 x21_7 = some (r1, r2, r3)) ∧ Aside0 (kq ≤ kj1) ∧ Drawn0 w wc)
       case first =>
        have H := HC8.out
        clear HC8
        by_cases c9 : a0 ≥ 3
        ·rw [if_pos c9] at H
         have c9b0 : decide (3 ≤ a0) = true := decide_eq_true c9
         clear c9
         first | rw [c9b0] | (simp only [i64_w, i32_w]; rw [c9b0]) | skip
         have H' := am_ H
         clear H
         go_wp2
         go_meet
         case rel => exact ⟨_, (decide (a0 ≤ 12)), (Sh.es), H', ⟨by have := HJ1.out; first | omega | exact Nat.le_refl _⟩, Sh.dr⟩
        ·rw [if_neg c9] at H
         have c9b0 : decide (3 ≤ a0) = false := decide_eq_false c9
         clear c9
         first | rw [c9b0] | (simp only [i64_w, i32_w]; rw [c9b0]) | skip
         have H' := am_ H
         clear H
         go_wp2
         go_meet
         case rel => exact ⟨_, (false), (Sh.es), H', ⟨by have := HJ1.out; first | omega | exact Nat.le_refl _⟩, Sh.dr⟩
       case rest =>
        clear HC8
        obtain ⟨kq, x21_7, rfl, HA, HJ7, ⟨mc7, rfl⟩⟩ := hcut
        cases kq with
        | zero => exact absurd HA.out (by simp [impl_operandsOf.j1])
        | succ kj7 =>
         have H := HA.out
         clear HA
         simp only [impl_operandsOf.j1] at H
         by_cases c10 : x21_7 = true
         ·subst c10
          rw [if_pos rfl] at H
          simp only [Option.some.injEq, Prod.mk.injEq] at H
          obtain ⟨rfl, rfl, rfl⟩ := H
          go_wp2
          go_ret3
          exact ⟨Sh.es, Sh.dr⟩
         ·replace c10 := Bool.eq_false_iff.mpr c10
          subst c10
          rw [Sh.nf] at H
          have HC11 := am_ H
          clear H
          go_upto_region 11 with (fail)
          go_cut [28] (fun v28 wc => ∃ (kq : Nat) (x28_10 : Bool), v28 = .bool x28_10 ∧ Aside0 (impl_operandsOf.j2 kq a0 x28_10 = some (r1, r2, r3)) ∧ Aside0 (kq ≤ kj7) ∧ Drawn0 w wc)
          case first =>
           have H := HC11.out
           clear HC11
           by_cases c12 : a0 ≥ 14
           ·rw [if_pos c12] at H
            have c12b0 : decide (14 ≤ a0) = true := decide_eq_true c12
            clear c12
            first | rw [c12b0] | (simp only [i64_w, i32_w]; rw [c12b0]) | skip
            have H' := am_ H
            clear H
            go_wp2
            go_meet
            case rel => exact ⟨_, (decide (a0 ≤ 16)), (Sh.es), H', ⟨by have := HJ1.out; have := HJ7.out; first | omega | exact Nat.le_refl _⟩, Sh.dr⟩
           ·rw [if_neg c12] at H
            have c12b0 : decide (14 ≤ a0) = false := decide_eq_false c12
            clear c12
            first | rw [c12b0] | (simp only [i64_w, i32_w]; rw [c12b0]) | skip
            have H' := am_ H
            clear H
            go_wp2
            go_meet
            case rel => exact ⟨_, (false), (Sh.es), H', ⟨by have := HJ1.out; have := HJ7.out; first | omega | exact Nat.le_refl _⟩, Sh.dr⟩
          case rest =>
           clear HC11
           obtain ⟨kq, x28_10, rfl, HA, HJ10, ⟨mc10, rfl⟩⟩ := hcut
           cases kq with
           | zero => exact absurd HA.out (by simp [impl_operandsOf.j2])
           | succ kj10 =>
            have H := HA.out
            clear HA
            simp only [impl_operandsOf.j2] at H
            by_cases c13 : x28_10 = true
            ·subst c13
             rw [if_pos rfl] at H
             simp only [Option.some.injEq, Prod.mk.injEq] at H
             obtain ⟨rfl, rfl, rfl⟩ := H
             go_wp2
             go_ret3
             exact ⟨Sh.es, Sh.dr⟩
            ·replace c13 := Bool.eq_false_iff.mpr c13
             subst c13
             rw [Sh.nf] at H
             by_cases c14 : a0 = 17
             ·rw [if_pos c14] at H
              have c14b0 : (a0 == 17) = true := beq_iff_eq.mpr c14
              have c14b1 : (a0 != 17) = false := bne_eq_false_iff_eq.mpr c14
              clear c14
              simp only [Option.some.injEq, Prod.mk.injEq] at H
              obtain ⟨rfl, rfl, rfl⟩ := H
              go_wp2
              go_ret3
              exact ⟨Sh.es, Sh.dr⟩
             ·rw [if_neg c14] at H
              have c14b0 : (a0 == 17) = false := beq_eq_false_iff_ne.mpr c14
              have c14b1 : (a0 != 17) = true := bne_iff_ne.mpr c14
              by_cases c15 : a0 = 18
              ·rw [if_pos c15] at H
               have c15b0 : (a0 == 18) = true := beq_iff_eq.mpr c15
               have c15b1 : (a0 != 18) = false := bne_eq_false_iff_eq.mpr c15
               clear c15
               simp only [Option.some.injEq, Prod.mk.injEq] at H
               obtain ⟨rfl, rfl, rfl⟩ := H
               go_wp2
               go_ret3
               exact ⟨Sh.es, Sh.dr⟩
              ·rw [if_neg c15] at H
               have c15b0 : (a0 == 18) = false := beq_eq_false_iff_ne.mpr c15
               have c15b1 : (a0 != 18) = true := bne_iff_ne.mpr c15
               simp only [Option.some.injEq, Prod.mk.injEq] at H
               obtain ⟨rfl, rfl, rfl⟩ := H
               go_wp2
               go_ret3
               exact ⟨Sh.es, Sh.dr⟩
def impl_mask.f (a0 : Int) : Option (Int) := if 0 ≤ (wrap64 (64 - a0)) then (some (shr .u64 18446744073709551615 (wrap64 (64 - a0)))) else (none)
theorem impl_mask.calls (a0 : Int) (r : Int) (w : World) (h : impl_mask.f a0 = some r) :
  Calls Tryz.prog 84 #[.int .i64 a0] w fun e w' => e = .returned (.int .u64 r) ∧ Drawn0 w w' := by
 have H := h
 clear h
 unfold impl_mask.f at H
 obtain ⟨ji2, hj1⟩ : ∃ j_ : Int, (wrap64 (64 - a0)) = j_ := ⟨_, rfl⟩
 replace H : (if 0 ≤ (ji2) then (some (shr .u64 18446744073709551615 (ji2))) else (none)) = some r := by first | (rw [hj1] at H; exact H) | (simp only [hj1] at H ⊢; exact H)
 have hji2w : (IntKind.i64.wrap (64 - a0)) = ji2 := (i64_w _).trans hj1
 by_cases c3 : 0 ≤ (ji2)
 ·rw [if_pos c3] at H
  have c3b0 := eq_true c3
  have c3b1 := decide_eq_true c3
  clear c3
  obtain ⟨ji4, hj2⟩ : ∃ j_ : Int, (shr .u64 18446744073709551615 (ji2)) = j_ := ⟨_, rfl⟩
  replace H : (some ji4) = some r := by first | (rw [hj2] at H; exact H) | (simp only [hj2] at H ⊢; exact H)
  have hji4_ : (18446744073709551615 / 2 ^ min (ji2).toNat 64) = ji4 := hj2
  have hji4z : (ji2) ≤ 64 → (18446744073709551615 / 2 ^ (ji2).toNat) = ji4 := shr_small hj2
  obtain rfl := Option.some.inj H
  go_enter Tryz.func84, Tryz.ntmps84
  go_wp2
  go_ret
  exact ⟨by first | rfl | (simp; done) | (simp only [← hj1, ← hj2] <;> (first | rfl | simp)) | (simp [*]; done), Sh.dr⟩
 ·rw [if_neg c3] at H
  exact absurd H (by simp)
def impl_GoodWord.f (a0 : Int) (a1 : Int) : Option (Bool) := (impl_isWide.f a0).bind fun t328 => (if t328 = true then ((impl_mask.f a0).bind fun t329 => (some (decide (a1 ≤ t329)))) else (some false))
theorem impl_GoodWord.calls (a0 : Int) (a1 : Int) (r : Bool) (w : World) (h : impl_GoodWord.f a0 a1 = some r) :
  Calls Tryz.prog 69 #[.int .i64 a0, .int .u64 a1] w fun e w' => e = .returned (.bool r) ∧ Drawn0 w w' := by
 have H := h
 clear h
 unfold impl_GoodWord.f at H
 obtain ⟨t328, A3, H⟩ := Sh.ba H
 by_cases c4 : t328 = true
 ·subst c4
  rw [if_pos rfl] at H
  obtain ⟨t329, A5, H⟩ := Sh.ba H
  obtain rfl := Option.some.inj H
  go_enter Tryz.func69, Tryz.ntmps69
  go_wp2_with (first | ((with_reducible refine Sh.k 61 ?_); refine Sh.gD (some 6) Tryz.func61 #[.int .i64 a0] (impl_isWide.calls a0 true _ A3.out) fun nd => ?_) | (go_at_call 84; (with_reducible refine (impl_mask.calls a0 t329 _ A5.out).mono ?_); rintro e w' ⟨rfl, ⟨nd, rfl⟩⟩))
  go_ret
  exact ⟨Sh.es, Sh.dr⟩
 ·replace c4 := Bool.eq_false_iff.mpr c4
  subst c4
  rw [Sh.nf] at H
  obtain rfl := Option.some.inj H
  go_enter Tryz.func69, Tryz.ntmps69
  go_wp2_with (first | ((with_reducible refine Sh.k 61 ?_); refine Sh.gD (some 6) Tryz.func61 #[.int .i64 a0] (impl_isWide.calls a0 false _ A3.out) fun nd => ?_))
  go_ret
  exact ⟨Sh.es, Sh.dr⟩
def impl_isLeafRight.f (a0 : Int) (a1 : Int) (a2_0 : Int) (a2_1 : Int) : Option (Bool) := if a2_0 = 1 then ((impl_GoodWord.f a0 a2_1).bind fun t331 => (some t331)) else (if a2_0 = 2 then (some (decide (a2_1 < (IntKind.u64.wrap (a1))))) else (if a2_0 = 20 then (some (decide (a2_1 ≤ 1))) else (some (a2_1 == 0))))
theorem impl_isLeafRight.calls (a0 : Int) (a1 : Int) (a2_0 : Int) (a2_1 : Int) (r : Bool) (w : World) (h : impl_isLeafRight.f a0 a1 a2_0 a2_1 = some r) :
  Calls Tryz.prog 99 #[.int .i64 a0, .int .i64 a1, .agg #[.int .i64 a2_0, .int .u64 a2_1]] w fun e w' => e = .returned (.bool r) ∧ Below w.heap.size w w' := by
 have hu80 := Tryz.underlying80
 have HB := am_ (Below.refl w.heap.size w)
 have H := h
 clear h
 unfold impl_isLeafRight.f at H
 by_cases c4 : a2_0 = 1
 ·rw [if_pos c4] at H
  have c4b0 : (a2_0 == 1) = true := beq_iff_eq.mpr c4
  have c4b1 : (a2_0 != 1) = false := bne_eq_false_iff_eq.mpr c4
  clear c4
  obtain ⟨t331, A5, H⟩ := Sh.ba H
  obtain rfl := Option.some.inj H
  go_enter Tryz.func99, Tryz.ntmps99
  go_wp2_with (first | ((with_reducible refine Sh.d 5 ?_); refine Sh.bz w (N := 5) (cs := #[.int .i64 a2_0, .int .u64 a2_1]) (t := 80) (h := ?_); clear HB; intro gb330 w6 BK330 GE330 HB; obtain ⟨hcz7_0, hcz7_1, hfz7_0, hfz7_1⟩ := Sh.b2 BK330.out) | ((with_reducible refine Sh.k 69 ?_); refine Sh.gD (some 14) Tryz.func69 #[.int .i64 a0, .int .u64 a2_1] (impl_GoodWord.calls a0 a2_1 t331 _ A5.out) fun nd => ?_))
  go_ret
  exact ⟨Sh.eR, Sh.bw⟩
 ·rw [if_neg c4] at H
  have c4b0 : (a2_0 == 1) = false := beq_eq_false_iff_ne.mpr c4
  have c4b1 : (a2_0 != 1) = true := bne_iff_ne.mpr c4
  by_cases c8 : a2_0 = 2
  ·rw [if_pos c8] at H
   have c8b0 : (a2_0 == 2) = true := beq_iff_eq.mpr c8
   have c8b1 : (a2_0 != 2) = false := bne_eq_false_iff_eq.mpr c8
   clear c8
   obtain rfl := Option.some.inj H
   go_enter Tryz.func99, Tryz.ntmps99
   go_wp2_with (first | ((with_reducible refine Sh.d 5 ?_); refine Sh.bz w (N := 5) (cs := #[.int .i64 a2_0, .int .u64 a2_1]) (t := 80) (h := ?_); clear HB; intro gb330 w9 BK330 GE330 HB; obtain ⟨hcz10_0, hcz10_1, hfz10_0, hfz10_1⟩ := Sh.b2 BK330.out))
   go_ret
   exact ⟨Sh.eR, Sh.bw⟩
  ·rw [if_neg c8] at H
   have c8b0 : (a2_0 == 2) = false := beq_eq_false_iff_ne.mpr c8
   have c8b1 : (a2_0 != 2) = true := bne_iff_ne.mpr c8
   by_cases c11 : a2_0 = 20
   ·rw [if_pos c11] at H
    have c11b0 : (a2_0 == 20) = true := beq_iff_eq.mpr c11
    have c11b1 : (a2_0 != 20) = false := bne_eq_false_iff_eq.mpr c11
    clear c11
    obtain rfl := Option.some.inj H
    go_enter Tryz.func99, Tryz.ntmps99
    go_wp2_with (first | ((with_reducible refine Sh.d 5 ?_); refine Sh.bz w (N := 5) (cs := #[.int .i64 a2_0, .int .u64 a2_1]) (t := 80) (h := ?_); clear HB; intro gb330 w12 BK330 GE330 HB; obtain ⟨hcz13_0, hcz13_1, hfz13_0, hfz13_1⟩ := Sh.b2 BK330.out))
    go_ret
    exact ⟨Sh.eR, Sh.bw⟩
   ·rw [if_neg c11] at H
    have c11b0 : (a2_0 == 20) = false := beq_eq_false_iff_ne.mpr c11
    have c11b1 : (a2_0 != 20) = true := bne_iff_ne.mpr c11
    obtain rfl := Option.some.inj H
    go_enter Tryz.func99, Tryz.ntmps99
    go_wp2_with (first | ((with_reducible refine Sh.d 5 ?_); refine Sh.bz w (N := 5) (cs := #[.int .i64 a2_0, .int .u64 a2_1]) (t := 80) (h := ?_); clear HB; intro gb330 w14 BK330 GE330 HB; obtain ⟨hcz15_0, hcz15_1, hfz15_0, hfz15_1⟩ := Sh.b2 BK330.out))
    go_ret
    exact ⟨Sh.eR, Sh.bw⟩
theorem slices_IndexFunc_int_int.gen (g : Nat) (lb : Array Value) (eg : ∀ args w, (callFunc g args).run Tryz.prog w = .ok (.enter g args) w) (q : Int → Option Bool) (A0 : Option Addr) (c0 : Nat) (l0 : List (Int)) (r : Int) (w : World) (hr0 : Kd.C (Kd.int .i64) w A0 l0.length l0) (hc0 : l0.length ≤ c0)
  (hp : ∀ (W : World) (x : Int) (b : Bool), Below w.heap.size w W → x ∈ l0 → q x = some b → Calls Tryz.prog g (#[.int .i64 x] ++ lb) W fun e w' => e = .returned (.bool b) ∧ Below W.heap.size W w')
  (h : idxO q l0 0 = some r) : Calls Tryz.prog 104 #[.slice A0 l0.length c0, .func (.func g) #[] lb] w fun e w' => e = .returned (.int .i64 r) ∧ Below w.heap.size w w' := by
 have HR := am_ hr0
 have HP := am_ hp
 have HH := am_ h
 have hn : l0.length ≤ 9223372036854775807 := hr0.2.1
 clear hr0 hp h
 go_enter Tryz.func104, Tryz.ntmps104
 go_wp2
 go_loopg [5, 8] l0.length (fun gg _ s8 wr => ∃ kk : Nat, kk ≤ l0.length ∧ l0.length - kk ≤ gg ∧ s8 = .int .i64 kk ∧ Aside0 (idxO q (l0.drop kk) kk = some r) ∧ Aside0 (Below w.heap.size w wr))
 case atStart => exact ⟨0, Nat.zero_le _, by omega, rfl, HH, ⟨Below.refl _ _⟩⟩
 case round =>
  obtain ⟨kk, hkk, hg, rfl, HA, HB⟩ := hrel
  clear HH
  by_cases hlt : kk < l0.length
  ·have hltz : (kk : Int) < (l0.length : Int) := by omega
   have h0z : 0 ≤ (kk : Int) := by omega
   obtain ⟨ad, e, hx⟩ := Kd.at_int HR.out (kk : Int) h0z hltz
   have er : rd l0 (kk : Int) = l0.getD kk 0 := by simp [rd]
   rw [er] at hx
   have hA := HA.out
   rw [drop_getD hlt 0] at hA
   obtain ⟨b, hb, hA2⟩ := Option.bind_eq_some_iff.mp hA
   have HA2 := am_ hA2
   have hin := getD_in hlt (0 : Int)
   have hcall := HP.out wr _ b HB.out hin hb
   generalize l0.getD kk 0 = y at hx hcall
   clear HA hA hA2 hb er hin
   skip
   cases e
   simp only [Int.toNat_natCast] at hx
   replace hx := (HB.out.cell (World.block_lt_of_cell? w _ hx)).trans hx
   cases b with
   | true =>
    go_wp2_with (go_at_fn g; refine hcall.mono ?_; rintro e w' ⟨rfl, hb2⟩)
    go_ret
    have h3 := HA2.out
    simp only [if_true] at h3
    exact ⟨by rw [← Option.some.inj h3]; rfl, below_step HB.out hb2⟩
   | false =>
    go_wp2_with (go_at_fn g; refine hcall.mono ?_; rintro e w' ⟨rfl, hb2⟩)
    go_roundg (l0.length - (kk + 1))
    case measure => omega
    case rel =>
     refine ⟨kk + 1, by omega, by omega, by go_num, ⟨by have h3 := HA2.out; simpa using h3⟩, ⟨below_step HB.out hb2⟩⟩
  ·have hltz : ¬ (kk : Int) < (l0.length : Int) := by omega
   have hA := HA.out
   rw [List.drop_of_length_le (by omega)] at hA
   have h4 : (-1 : Int) = r := Option.some.inj hA
   subst h4
   clear HA hA
   have : kk = l0.length := by omega
   subst this
   go_wp2
   go_ret
   exact ⟨rfl, HB.out⟩
theorem slices_ContainsFunc_int_int.gen (g : Nat) (lb : Array Value) (eg : ∀ args w, (callFunc g args).run Tryz.prog w = .ok (.enter g args) w) (q : Int → Option Bool) (A0 : Option Addr) (c0 : Nat) (l0 : List (Int)) (r : Bool) (w : World) (hr0 : Kd.C (Kd.int .i64) w A0 l0.length l0) (hc0 : l0.length ≤ c0)
  (hp : ∀ (W : World) (x : Int) (b : Bool), Below w.heap.size w W → x ∈ l0 → q x = some b → Calls Tryz.prog g (#[.int .i64 x] ++ lb) W fun e w' => e = .returned (.bool b) ∧ Below W.heap.size W w')
  (h : anyO q l0 = some r) : Calls Tryz.prog 100 #[.slice A0 l0.length c0, .func (.func g) #[] lb] w fun e w' => e = .returned (.bool r) ∧ Below w.heap.size w w' := by
 obtain ⟨i, hi, hd⟩ := idxO_of_anyO l0 r 0 (Int.le_refl 0) h
 have HC := am_ (slices_IndexFunc_int_int.gen g lb eg q A0 c0 l0 i w hr0 hc0 hp hi)
 have HD := am_ hd
 clear hr0 hp h hi hd
 go_enter Tryz.func100, Tryz.ntmps100
 go_wp2_with (go_at_call 104; refine HC.out.mono ?_; rintro e w' ⟨rfl, hb2⟩)
 go_ret
 exact ⟨by rw [← HD.out]; rfl, hb2⟩
def impl_GoodTerm_1.f (a0 : Int) (a1_0 : Int) : Option (Bool) := some (a0 != a1_0)
theorem impl_GoodTerm_1.calls (a0 : Int) (bp1 : Nat) (a1_0 : Int) (r : Bool) (w : World) (hb1 : w.heap[bp1]? = some (.cells #[.int .i64 a1_0] 3 (0, 0))) (h : impl_GoodTerm_1.f a0 a1_0 = some r) :
  Calls Tryz.prog 101 #[.int .i64 a0, .pointer (some ⟨bp1, 0, none⟩)] w fun e w' => e = .returned (.bool r) ∧ Drawn0 w w' := by
 have HX1 := am_ hb1
 clear hb1
 have H := h
 clear h
 unfold impl_GoodTerm_1.f at H
 obtain rfl := Option.some.inj H
 have hcz3_0 : w.cell? ⟨bp1, 0, none⟩ = some (.int .i64 a1_0) := (blk_cell HX1.out 0).trans rfl
 have hfz3_0 := blk_frozen HX1.out 0
 go_enter Tryz.func101, Tryz.ntmps101
 go_wp2
 go_ret
 exact ⟨Sh.es, Sh.dr⟩
def slices_ContainsFunc_int_int_by_impl_GoodTerm_1.f (l0 : List Int) (a1_0 : Int) : Option (Bool) := anyO (fun x_ => impl_GoodTerm_1.f x_ a1_0) l0
theorem slices_ContainsFunc_int_int_by_impl_GoodTerm_1.calls (A0 : Option Addr) (c0 : Nat) (l0 : List Int) (bp1 : Nat) (a1_0 : Int) (r : Bool) (w : World) (hr0 : Kd.C (Kd.int .i64) w A0 l0.length l0) (hc0 : l0.length ≤ c0) (hb1 : w.heap[bp1]? = some (.cells #[.int .i64 a1_0] 3 (0, 0))) (h : slices_ContainsFunc_int_int_by_impl_GoodTerm_1.f l0 a1_0 = some r) :
  Calls Tryz.prog 100 #[.slice A0 l0.length c0, .func (.func 101) #[] #[.pointer (some ⟨bp1, 0, none⟩)]] w fun e w' => e = .returned (.bool r) ∧ Below w.heap.size w w' := by
 refine slices_ContainsFunc_int_int.gen 101 #[.pointer (some ⟨bp1, 0, none⟩)] (enters_of Tryz.func101 (by kernel_rfl) rfl) _ A0 c0 l0 r w hr0 hc0 ?_ h
 intro W x b hB_ hin_ hq_
 refine (impl_GoodTerm_1.calls x bp1 a1_0 b W ((hB_.block _ (blk_lt hb1)).trans hb1) hq_).mono ?_
 rintro e w' ⟨rfl, hd_⟩
 exact ⟨rfl, hd_.below⟩
end Go.Proofs.YtjenmoopbmklfaaGreat.P
