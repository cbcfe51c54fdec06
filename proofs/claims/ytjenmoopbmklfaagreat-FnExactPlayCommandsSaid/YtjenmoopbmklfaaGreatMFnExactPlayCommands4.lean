/- Go functions of this seat as Lean functions, and the proofs that the calls come to what these say; printed by a program of this session. No condition. -/
import Derived.Test.YtjenmoopbmklfaaGreatP0
import Derived.Test.YtjenmoopbmklfaaGreatMFnExactPlayCommands3
set_option linter.unusedVariables false
set_option linter.unusedSimpArgs false
set_option maxHeartbeats 40000000
set_option maxRecDepth 100000
namespace Go.Proofs.YtjenmoopbmklfaaGreat.P
open Go.RowKit Go.Proofs.YtjenmoopbmklfaaGreatW.PrintWords Go.Proofs.YtjenmoopbmklfaaGreatW.PrintLast Go.Proofs.YtjenmoopbmklfaaGreatW.PrintMore Go.Proofs.YtjenmoopbmklfaaGreat.Hof
attribute [local go_sem] max2_int min2_int max_two min_two max_three min_three max_four min_four
def impl_Program_after.l0 : Nat → List Int → List Int → List (S94) → Int → Int → Int → Int → List (S80) → List (S72) → Option (List Int)
 | 0, _, _, _, _, _, _, _, _, _ => none
 | k + 1, x2, x7, x13, x14, x15, x450000, x450001, x450002, x450003 => if x15 < x14 then (if 0 ≤ x15 then (if x15 < (x13.length : Int) then ((impl_valueOf.f k x450000 ((rd_T94 x13 x15).f1) x2).bind fun t456 => (if 0 ≤ ((rd_T94 x13 x15).f0) then (if ((rd_T94 x13 x15).f0) < (x7.length : Int) then (impl_Program_after.l0 k x2 (x7.set (((rd_T94 x13 x15).f0) : Int).toNat t456) x13 x14 (wrap64 (x15 + 1)) x450000 x450001 x450002 x450003) else (none)) else (none))) else (none)) else (none)) else (some x7)
def impl_Program_after.f (k : Nat) (a0_0 : Int) (a0_1 : Int) (l0_2 : List (S80)) (l0_3 : List (S72)) (l1_0 : List (S80)) (l1_1 : List (S94)) (l2 : List Int) : Option (List Int) := (slices_Clone_uint64_uint64.f l2).bind fun t451 => (impl_Program_after.l0 k l2 t451 l1_1 (l1_1.length : Int) 0 a0_0 a0_1 l0_2 l0_3)
theorem impl_Program_after.mono_l : ∀ k, (∀ y0 y1 y2 y3 y4 y5 y6 y7 y8, LeO (impl_Program_after.l0 k y0 y1 y2 y3 y4 y5 y6 y7 y8) (impl_Program_after.l0 (k + 1) y0 y1 y2 y3 y4 y5 y6 y7 y8))
 | 0 => fun _ _ _ _ _ _ _ _ _ r h => by simp [impl_Program_after.l0] at h
 | k + 1 => by
  have ih0 := impl_Program_after.mono_l k
  ·intro y0 y1 y2 y3 y4 y5 y6 y7 y8
   unfold impl_Program_after.l0
   repeat' with_reducible first | apply ih0 | apply impl_valueOf.mono | exact LeO.refl _ | exact LeO.none _ | apply LeO.ite | refine LeO.bind ?_ fun _ => ?_
theorem impl_Program_after.mono : ∀ a0 a1 a2 a3 a4 a5 a6 k, LeO (impl_Program_after.f k a0 a1 a2 a3 a4 a5 a6) (impl_Program_after.f (k + 1) a0 a1 a2 a3 a4 a5 a6) := by
 intro a0 a1 a2 a3 a4 a5 a6 k
 have ih0 := impl_Program_after.mono_l k
 unfold impl_Program_after.f
 repeat' with_reducible first | apply ih0 | apply impl_valueOf.mono | exact LeO.refl _ | exact LeO.none _ | apply LeO.ite | refine LeO.bind ?_ fun _ => ?_
def impl_Program_after.T5 : Bool × List (List Nat × List Nat) := (true, [([], []), ([], []), ([1], [1]), ([], []), ([3], [3]), ([], []), ([5], [5]), ([], []), ([4, 6, 7], [4, 6, 7]), ([0, 2, 0, 1, 2, 3, 4, 5, 6, 7, 8], [0, 2]), ([9, 8, 8, 0, 1, 2, 3, 4, 5, 6, 7, 8], [8, 9])])
def impl_Program_after.B5 : List Nat := [0, 0, 2, 0, 8, 0, 32, 0, 248, 511, 1023]
theorem impl_Program_after.tab5 : rtab .any (opsOf Tryz.f51 5) = impl_Program_after.T5 := by kernel_rfl
theorem impl_Program_after.bits5 : waitsOk impl_Program_after.T5.2 impl_Program_after.B5 = true := by kernel_rfl
theorem impl_Program_after.calls (k : Nat) (a0_0 : Int) (a0_1 : Int) (A0_2 : Option Addr) (c0_2 : Nat) (l0_2 : List (S80)) (A0_3 : Option Addr) (c0_3 : Nat) (l0_3 : List (S72)) (A1_0 : Option Addr) (c1_0 : Nat) (l1_0 : List (S80)) (A1_1 : Option Addr) (c1_1 : Nat) (l1_1 : List (S94)) (A2 : Option Addr) (c2 : Nat) (l2 : List Int) (r : List Int) (w : World) (hr0_2 : Kd.C k80 w A0_2 l0_2.length l0_2) (hc0_2 : l0_2.length ≤ c0_2) (hr0_3 : Kd.C k72 w A0_3 l0_3.length l0_3) (hc0_3 : l0_3.length ≤ c0_3) (hr1_0 : Kd.C k80 w A1_0 l1_0.length l1_0) (hc1_0 : l1_0.length ≤ c1_0) (hr1_1 : Kd.C k94 w A1_1 l1_1.length l1_1) (hc1_1 : l1_1.length ≤ c1_1) (hr2 : Kd.C (Kd.int .u64) w A2 l2.length l2) (hc2 : l2.length ≤ c2) (h : impl_Program_after.f k a0_0 a0_1 l0_2 l0_3 l1_0 l1_1 l2 = some r) :
  Calls Tryz.prog 51 #[.agg #[.int .i64 a0_0, .int .i64 a0_1, .slice A0_2 l0_2.length c0_2, .slice A0_3 l0_3.length c0_3], .agg #[.slice A1_0 l1_0.length c1_0, .slice A1_1 l1_1.length c1_1], .slice A2 l2.length c2] w fun e w' => ∃ v0_ : Value, e = .returned (v0_) ∧ Kd.R (Kd.int .u64) 59 w' w.heap.size (fun _ => True) v0_ r ∧ Below w.heap.size w w' := by
 have hu36 := Tryz.underlying36
 have hu72 := Tryz.underlying72
 have hu94 := Tryz.underlying94
 have HR0_2 := am_ hr0_2
 have HC0_2 := am_ hc0_2
 clear hr0_2 hc0_2
 have HR0_3 := am_ hr0_3
 have HC0_3 := am_ hc0_3
 clear hr0_3 hc0_3
 have HR1_0 := am_ hr1_0
 have HC1_0 := am_ hc1_0
 clear hr1_0 hc1_0
 have HR1_1 := am_ hr1_1
 have HC1_1 := am_ hc1_1
 clear hr1_1 hc1_1
 have HR2 := am_ hr2
 have HC2 := am_ hc2
 clear hr2 hc2
 have HB := am_ (Below.refl w.heap.size w)
 have H := h
 clear h
 unfold impl_Program_after.f at H
 obtain ⟨t451, A4, H⟩ := Sh.ba H
 have H' := am_ H
 clear H
 go_enter Tryz.func51, Tryz.ntmps51
 go_wp2_with (first | ((with_reducible refine Sh.d 3 ?_); refine Sh.bz w (N := 3) (cs := #[.int .i64 a0_0, .int .i64 a0_1, .slice A0_2 l0_2.length c0_2, .slice A0_3 l0_3.length c0_3]) (t := 36) (h := ?_); clear HB; intro gb449 w5 BK449 GE449 HB) | ((with_reducible refine Sh.d 4 ?_); refine Sh.bx (N := 4) (cs := #[.slice A1_0 l1_0.length c1_0, .slice A1_1 l1_1.length c1_1]) (t := 72) (h := ?_); intro gb450 hg w6 hbox hb; have BK450 := am_ hbox; have GE450 := Sh.ag w hg; replace HB := Sh.hb hb; have NB449_450 := am_ (Sh.nl hg BK449.out); have NB450_449 := am_ (Sh.ng hg BK449.out); replace BK449 := Sh.ab BK449 hb; clear hb hbox hg) | ((with_reducible refine Sh.k 31 ?_); refine Sh.gL (some 11) Tryz.func31 #[.slice A2 l2.length c2] (h := ?_); (with_reducible refine (slices_Clone_uint64_uint64.calls _ _ l2 t451 _ (Sh.cB HR2.out) HC2.out A4.out).mono ?_); rintro e w7 ⟨v452, rfl, ho0, hb⟩; refine ⟨_, rfl, ?_⟩; have HO453 := am_ (Kd.R_lower ho0 (below_size Sh.bw)); replace BK449 := Sh.ab BK449 hb; replace BK450 := Sh.ab BK450 hb; replace HB := Sh.hb hb; (try clear hb); (try clear hb2); (try clear hk); (try clear hi); (try clear ho0); have hnb8 := NB450_449.out; have hnc8 := NB449_450.out; obtain ⟨hcz9_0, hcz9_1, hfz9_0, hfz9_1⟩ := Sh.b2 BK450.out))
 go_loopg [15] k (fun kq v15 w' => ∃ (x7_1 : List Int) (x15_1 : Int), v15 = .int .i64 x15_1 ∧ Aside0 (impl_Program_after.l0 kq l2 x7_1 l1_1 (l1_1.length : Int) x15_1 a0_0 a0_1 l0_2 l0_3 = some r) ∧ Aside0 (kq ≤ k) ∧ Aside0 (Kd.R (Kd.int .u64) 59 w' w.heap.size (fun _ => True) v452 x7_1) ∧ Aside0 (w'.heap[gb449]? = some (.cells #[.int .i64 a0_0, .int .i64 a0_1, (.slice A0_2 l0_2.length c0_2), (.slice A0_3 l0_3.length c0_3)] 36 (0, 0))) ∧ Aside0 (w'.heap[gb450]? = some (.cells #[(.slice A1_0 l1_0.length c1_0), (.slice A1_1 l1_1.length c1_1)] 72 (0, 0))) ∧ Aside0 (Below w.heap.size w w'))
 case atStart => exact ⟨(t451), (0), (Sh.es), H', ⟨Nat.le_refl _⟩, ⟨Sh.rl HO453.out⟩, ⟨by refine Sh.pl ?_; exact BK449.out⟩, ⟨by refine Sh.pl ?_; exact BK450.out⟩, ⟨Sh.bw⟩⟩
 case round =>
  clear H'
  try clear hcz9_0
  try clear hcz9_1
  try clear hfz9_0
  try clear hfz9_1
  obtain ⟨x7_1, x15_1, rfl, HA, HK1, HO_7, BK449, BK450, HB⟩ := hrel
  cases gk with
  | zero => exact absurd HA.out (by simp [impl_Program_after.l0])
  | succ k1 =>
   have H := HA.out
   clear HA
   simp only [impl_Program_after.l0] at H
   by_cases c10 : x15_1 < (l1_1.length : Int)
   ·rw [if_pos c10] at H
    have c10b0 := decide_eq_true c10
    clear c10
    by_cases c11 : 0 ≤ x15_1
    ·rw [if_pos c11] at H
     have c11b0 := decide_eq_true c11
     clear c11
     by_cases c12 : x15_1 < (l1_1.length : Int)
     ·rw [if_pos c12] at H
      have c12b0 := decide_eq_true c12
      clear c12
      obtain ⟨t456, A13, H⟩ := Sh.ba H
      by_cases c14 : 0 ≤ ((rd_T94 l1_1 x15_1).f0)
      ·rw [if_pos c14] at H
       have c14b0 := decide_eq_true c14
       clear c14
       by_cases c15 : ((rd_T94 l1_1 x15_1).f0) < (x7_1.length : Int)
       ·rw [if_pos c15] at H
        have c15b0 := decide_eq_true c15
        clear c15
        obtain ⟨y457, hy457⟩ : ∃ y_ : List Int, y_ = (x7_1.set (((rd_T94 l1_1 x15_1).f0) : Int).toNat t456) := ⟨_, rfl⟩
        replace H : (impl_Program_after.l0 k1 l2 y457 l1_1 (l1_1.length : Int) (wrap64 (x15_1 + 1)) a0_0 a0_1 l0_2 l0_3) = some r := by first | (rw [hy457]; with_reducible exact H) | (have H2_ := (Option.bind_some _ _).symm.trans H; rw [hy457]; with_reducible exact H2_) | (have H2_ := (Option.bind_some _ _).symm.trans H; with_reducible exact H2_) | with_reducible exact H | (rw [hy457]; exact H) | exact H
        have Ny457 := am_ hy457
        clear hy457
        have H' := am_ H
        clear H
        have p454 : 0 ≤ (x15_1 : Int) := Sh.od
        have q454 : x15_1 < (l1_1.length : Int) := Sh.od
        obtain ⟨ad454, A454_1, c454_1, e454, hx454_0, hx454_1, hl454_1, hi454_1⟩ := at_T94 HR1_1.out x15_1 p454 q454
        cases e454
        try replace hx454_0 := Sh.cw hx454_0
        try replace hx454_1 := Sh.cw hx454_1
        have HR454_1 := am_ hi454_1
        have HC454_1 := am_ hl454_1
        clear hi454_1 hl454_1
        replace p454 := eq_true p454
        replace q454 := eq_true q454
        try go_wp2_with (first | ((with_reducible refine Sh.d 9 ?_); refine Sh.bx (N := 9) (cs := #[.int .i64 0, .slice none 0 0]) (t := 94) (h := ?_); intro gb455 hg w17 hbox hb; replace HO_7 := am_ (Kd.R_below (Sh.rl HO_7.out) hb); have BK455 := am_ hbox; have GE455 := Sh.ag w hg; replace HB := Sh.hb hb; have NB449_455 := am_ (Sh.nl hg BK449.out); have NB455_449 := am_ (Sh.ng hg BK449.out); replace BK449 := Sh.ab BK449 hb; have NB450_455 := am_ (Sh.nl hg BK450.out); have NB455_450 := am_ (Sh.ng hg BK450.out); replace BK450 := Sh.ab BK450 hb; clear hb hbox hg; have hnb18 := NB455_449.out; have hnc18 := NB449_455.out; have hnb19 := NB455_450.out; have hnc19 := NB450_455.out; obtain ⟨hcz20_0, hcz20_1, hfz20_0, hfz20_1⟩ := Sh.b2 BK455.out))
        have n0_ : Aside0 (Kd.R (Kd.int .u64) 59 ((w17.setCell ⟨gb455, 0, none⟩ (.int .i64 ((rd_T94 l1_1 x15_1).f0))).setCell ⟨gb455, 1, none⟩ (.slice A454_1 ((rd_T94 l1_1 x15_1).f1).length c454_1)) w.heap.size (fun _ => True) v452 x7_1) := ⟨Sh.rl (Kd.R_mono (Kd.R_far (p := ⟨gb455, 1, none⟩) (Kd.R_far (p := ⟨gb455, 0, none⟩) (Kd.R_types HO_7.out BK455.out (by decide)) (fun _ hk => hk.2) (.int .i64 ((rd_T94 l1_1 x15_1).f0))) (fun _ hk => hk.2) (.slice A454_1 ((rd_T94 l1_1 x15_1).f1).length c454_1)) (fun _ hk => trivial))⟩
        have n1_ : Aside0 (((w17.setCell ⟨gb455, 0, none⟩ (.int .i64 ((rd_T94 l1_1 x15_1).f0))).setCell ⟨gb455, 1, none⟩ (.slice A454_1 ((rd_T94 l1_1 x15_1).f1).length c454_1)).heap[gb449]? = some (.cells #[.int .i64 a0_0, .int .i64 a0_1, .slice A0_2 l0_2.length c0_2, .slice A0_3 l0_3.length c0_3] 36 (0, 0))) := ⟨by refine Sh.pl ?_; refine blk_far ?_ NB449_455.out _; refine Sh.pl ?_; refine blk_far ?_ NB449_455.out _; refine Sh.pl ?_; exact BK449.out⟩
        have n2_ : Aside0 (((w17.setCell ⟨gb455, 0, none⟩ (.int .i64 ((rd_T94 l1_1 x15_1).f0))).setCell ⟨gb455, 1, none⟩ (.slice A454_1 ((rd_T94 l1_1 x15_1).f1).length c454_1)).heap[gb450]? = some (.cells #[.slice A1_0 l1_0.length c1_0, .slice (some ad454) l1_1.length c1_1] 72 (0, 0))) := ⟨by refine Sh.pl ?_; refine blk_far ?_ NB450_455.out _; refine Sh.pl ?_; refine blk_far ?_ NB450_455.out _; refine Sh.pl ?_; exact BK450.out⟩
        have n3_ : Aside0 (((w17.setCell ⟨gb455, 0, none⟩ (.int .i64 ((rd_T94 l1_1 x15_1).f0))).setCell ⟨gb455, 1, none⟩ (.slice A454_1 ((rd_T94 l1_1 x15_1).f1).length c454_1)).heap[gb455]? = some (.cells #[.int .i64 ((rd_T94 l1_1 x15_1).f0), .slice A454_1 ((rd_T94 l1_1 x15_1).f1).length c454_1] 94 (0, 0))) := ⟨by refine Sh.pl ?_; refine blk_put (cs := #[.int .i64 ((rd_T94 l1_1 x15_1).f0), .slice none 0 0]) ?_ 1 _ rfl; refine Sh.pl ?_; refine blk_put (cs := #[.int .i64 0, .slice none 0 0]) ?_ 0 _ rfl; refine Sh.pl ?_; exact BK455.out⟩
        have n4_ : Aside0 (Below w.heap.size w ((w17.setCell ⟨gb455, 0, none⟩ (.int .i64 ((rd_T94 l1_1 x15_1).f0))).setCell ⟨gb455, 1, none⟩ (.slice A454_1 ((rd_T94 l1_1 x15_1).f1).length c454_1))) := ⟨Sh.bw⟩
        (try clear HO_7)
        (try clear BK449)
        (try clear BK450)
        (try clear BK455)
        (try clear HB)
        generalize ((w17.setCell ⟨gb455, 0, none⟩ (.int .i64 ((rd_T94 l1_1 x15_1).f0))).setCell ⟨gb455, 1, none⟩ (.slice A454_1 ((rd_T94 l1_1 x15_1).f1).length c454_1)) = w21 at n0_ n1_ n2_ n3_ n4_ ⊢
        have HO_7 := n0_
        have BK449 := n1_
        have BK450 := n2_
        have BK455 := n3_
        have HB := n4_
        clear n0_ n1_ n2_ n3_ n4_
        replace HO_7 := am_ (Kd.R_drew HO_7.out)
        replace BK449 := am_ (blk_drew BK449.out)
        replace BK450 := am_ (blk_drew BK450.out)
        replace BK455 := am_ (blk_drew BK455.out)
        replace HB := am_ (below_drew1 HB.out)
        refine start_ (n := 11) (S := fun w' => w'.cell? ⟨gb455, 0, none⟩ = some (.int .i64 ((rd_T94 l1_1 x15_1).f0)) ∧ w'.cell? ⟨gb455, 1, none⟩ = some (.slice A454_1 ((rd_T94 l1_1 x15_1).f1).length c454_1) ∧ w'.cell? ⟨gb449, 0, none⟩ = some (.int .i64 a0_0) ∧ w'.cell? ⟨gb449, 1, none⟩ = some (.int .i64 a0_1) ∧ w'.cell? ⟨gb449, 2, none⟩ = some (.slice A0_2 l0_2.length c0_2) ∧ w'.cell? ⟨gb449, 3, none⟩ = some (.slice A0_3 l0_3.length c0_3)) (ds := [10]) (Sh.nm 11 0) (by kernel_rfl) rfl rfl Sh.cs (fun hHeld => ?_); refine with_tabW impl_Program_after.tab5 impl_Program_after.bits5 (fun HT_ HW_ => ?_)
        generalize w21.drew = w22 at HO_7 BK449 BK450 BK455 HB hHeld ⊢
        refine Sh.qA 0 ?_; refine Sh.qA 1 ?_; refine Sh.qA 3 ?_; refine Sh.qA 5 ?_; refine Sh.qA 7 ?_; refine Sh.qT 2 hHeld ?_; refine Sh.qT 4 hHeld ?_; refine Sh.qT 6 hHeld ?_
        refine Sh.oC 8 Tryz.func70 #[.int .i64 a0_0, .slice A454_1 ((rd_T94 l1_1 x15_1).f1).length c454_1, .slice A2 l2.length c2] fun K hK => ?_
        with_reducible refine (impl_valueOf.calls k1 a0_0 _ _ ((rd_T94 l1_1 x15_1).f1) _ _ l2 t456 _ (Sh.cB HR454_1.out) HC454_1.out (Sh.cB HR2.out) HC2.out A13.out).mono ?_
        rintro e w23 ⟨rfl, hb⟩
        refine ⟨_, rfl, ?_⟩
        replace HO_7 := am_ (Kd.R_below (Sh.rl HO_7.out) hb)
        replace BK449 := Sh.ab BK449 hb
        replace BK450 := Sh.ab BK450 hb
        replace BK455 := Sh.ab BK455 hb
        replace HB := Sh.hb hb
        (try clear hb)
        (try clear hb2)
        (try clear hk)
        (try clear hi)
        have p16 : 0 ≤ (((rd_T94 l1_1 x15_1).f0) : Int) := Sh.od
        have q16 : (((rd_T94 l1_1 x15_1).f0) : Int) < ((x7_1.length : Int) : Int) := Sh.od
        obtain ⟨go16, co16, eo16, gb16, gl16, cl16, HG16⟩ := Kd.R_form HO_7.out (by omega)
        (first | cases eo16 | (injection eo16 with ea_ en_ ec_; (first | subst ea_ | (injection ea_ with ea_; subst ea_)); subst ec_; clear en_))
        have GB16 := am_ gb16
        have GG16 := am_ HG16
        clear gb16 gl16 HG16
        obtain ⟨hx16_0, hf16_0⟩ := Kd.R_celln 0 HO_7.out (((rd_T94 l1_1 x15_1).f0) : Int) p16 q16
        replace p16 := eq_true p16
        replace q16 := eq_true q16
        have HP24 := Kd.R_putn HO_7.out (((rd_T94 l1_1 x15_1).f0) : Int) t456
        rw [← Ny457.out] at HP24
        have HQ24 := am_ HP24
        clear HP24
        refine Sh.kN hK Sh.cs fun hHeld => ?_
        clear hK K
        refine Sh.qA 9 ?_
        refine last_ (i := 10) (N := none) (Sh.nm 11 2047) rfl rfl (one_of HT_.out (by kernel_rfl)) (by decide) (fun K hK => ?_)
        refine skip_ (w1 := ?_) (by rfl) rfl ?_ ?_
        rotate_left
        ·go_simp
         rfl
        refine hK.out _ _ ?_
        clear hK K
        refine done_ (done_of HT_.out (by kernel_rfl)) ?_
        try go_wp2
        go_roundg k1
        case measure => have := HK1.out; omega
        case rel => exact ⟨(y457), (wrap64 (x15_1 + 1)), (Sh.es), H', ⟨by have := HK1.out; omega⟩, ⟨by (with_reducible repeat (first | apply Kd.R_alloc | apply Kd.R_drewN | apply Kd.R_drew)); exact HQ24.out⟩, ⟨by refine Sh.pl ?_; refine blk_far ?_ (by have h_ := Kd.R_ne HO_7.out BK449.out (by decide); intro e_; exact h_ (by rw [e_]; rfl)) _; refine Sh.pl ?_; exact BK449.out⟩, ⟨by refine Sh.pl ?_; refine blk_far ?_ (by have h_ := Kd.R_ne HO_7.out BK450.out (by decide); intro e_; exact h_ (by rw [e_]; rfl)) _; refine Sh.pl ?_; exact BK450.out⟩, ⟨Sh.bw⟩⟩
       ·rw [if_neg c15] at H
        exact absurd H (by simp)
      ·rw [if_neg c14] at H
       exact absurd H (by simp)
     ·rw [if_neg c12] at H
      exact absurd H (by simp)
    ·rw [if_neg c11] at H
     exact absurd H (by simp)
   ·rw [if_neg c10] at H
    have c10b0 := decide_eq_false c10
    clear c10
    obtain rfl := Option.some.inj H
    go_wp2
    go_ret
    exact ⟨_, Sh.eR, Sh.rl HO_7.out, Sh.bw⟩
def impl_StepBy.f (k : Nat) (a0_0 : Int) (a0_1 : Int) (l0_2 : List (S80)) (l0_3 : List (S72)) (l1 : List Int) (a2 : Int) : Option (List Int × Bool) := (impl_isStateOf.f k a0_0 a0_1 l0_2 l0_3 l1).bind fun t459 => (if t459 = true then ((impl_Program_isCommandNo.f a0_0 a0_1 l0_2 l0_3 a2).bind fun t460 => (if t460 = true then (if 0 ≤ a2 then (if a2 < (l0_3.length : Int) then ((impl_Program_holds.f k a0_0 a0_1 l0_2 l0_3 ((rd_T72 l0_3 a2).f0) l1).bind fun t462 => (if t462 = true then ((impl_Program_after.f k a0_0 a0_1 l0_2 l0_3 ((rd_T72 l0_3 a2).f0) ((rd_T72 l0_3 a2).f1) l1).bind fun t464 => (some (t464, true))) else (some (([] : List Int), false)))) else (none)) else (none)) else (some (([] : List Int), false)))) else (some (([] : List Int), false)))
theorem impl_StepBy.mono : ∀ a0 a1 a2 a3 a4 a5 k, LeO (impl_StepBy.f k a0 a1 a2 a3 a4 a5) (impl_StepBy.f (k + 1) a0 a1 a2 a3 a4 a5) := by
 intro a0 a1 a2 a3 a4 a5 k
 unfold impl_StepBy.f
 repeat' with_reducible first | apply impl_Program_after.mono | apply impl_Program_holds.mono | apply impl_isStateOf.mono | exact LeO.refl _ | exact LeO.none _ | apply LeO.ite | refine LeO.bind ?_ fun _ => ?_
def impl_StepBy.T1 : Bool × List (List Nat × List Nat) := (true, [([], []), ([], []), ([0, 1], [0, 1]), ([2], [2]), ([3, 2], [3]), ([4], [4]), ([4], [4]), ([5, 6, 4, 4], [4, 5, 6]), ([7, 4], [4, 7]), ([4, 8], [4, 8]), ([9, 7], [9]), ([10], [10]), ([10], [10]), ([12, 10], [10, 12]), ([10], [10]), ([13, 14, 10], [10, 13, 14]), ([15, 10], [10, 15]), ([16, 10], [10, 16]), ([10], [10]), ([11, 17, 18, 10, 10], [10, 11, 17, 18]), ([19, 10], [10, 19]), ([10, 20], [10, 20])])
def impl_StepBy.B1 : List Nat := [0, 0, 3, 7, 15, 31, 31, 127, 255, 511, 1023, 2047, 2047, 6143, 2047, 30719, 63487, 129023, 2047, 524287, 1048575, 2097151]
theorem impl_StepBy.tab1 : rtab .any (opsOf Tryz.f30 1) = impl_StepBy.T1 := by kernel_rfl
theorem impl_StepBy.bits1 : waitsOk impl_StepBy.T1.2 impl_StepBy.B1 = true := by kernel_rfl
def impl_StepBy.T3 : Bool × List (List Nat × List Nat) := (true, [([], []), ([], []), ([1], [1]), ([], []), ([2, 3], [2, 3]), ([4], [4]), ([], []), ([0, 5, 6], [0, 5, 6]), ([7, 7, 0, 1, 2, 3, 4, 5, 6, 7], [7]), ([8, 0, 1, 2, 3, 4, 5, 6, 7, 8], [])])
def impl_StepBy.B3 : List Nat := [0, 0, 2, 0, 14, 30, 0, 127, 255, 511]
theorem impl_StepBy.tab3 : rtab .any (opsOf Tryz.f30 3) = impl_StepBy.T3 := by kernel_rfl
theorem impl_StepBy.bits3 : waitsOk impl_StepBy.T3.2 impl_StepBy.B3 = true := by kernel_rfl
theorem impl_StepBy.calls (k : Nat) (a0_0 : Int) (a0_1 : Int) (A0_2 : Option Addr) (c0_2 : Nat) (l0_2 : List (S80)) (A0_3 : Option Addr) (c0_3 : Nat) (l0_3 : List (S72)) (A1 : Option Addr) (c1 : Nat) (l1 : List Int) (a2 : Int) (r1 : List Int) (r2 : Bool) (w : World) (hr0_2 : Kd.C k80 w A0_2 l0_2.length l0_2) (hc0_2 : l0_2.length ≤ c0_2) (hr0_3 : Kd.C k72 w A0_3 l0_3.length l0_3) (hc0_3 : l0_3.length ≤ c0_3) (hr1 : Kd.C (Kd.int .u64) w A1 l1.length l1) (hc1 : l1.length ≤ c1) (h : impl_StepBy.f k a0_0 a0_1 l0_2 l0_3 l1 a2 = some (r1, r2)) :
  Calls Tryz.prog 30 #[.agg #[.int .i64 a0_0, .int .i64 a0_1, .slice A0_2 l0_2.length c0_2, .slice A0_3 l0_3.length c0_3], .slice A1 l1.length c1, .int .i64 a2] w fun e w' => ∃ v0_ : Value, e = .returned (.tuple #[v0_, .bool r2]) ∧ Kd.R (Kd.int .u64) 59 w' w.heap.size (fun _ => True) v0_ r1 ∧ Below w.heap.size w w' := by
 have hu36 := Tryz.underlying36
 have hu72 := Tryz.underlying72
 have HR0_2 := am_ hr0_2
 have HC0_2 := am_ hc0_2
 clear hr0_2 hc0_2
 have HR0_3 := am_ hr0_3
 have HC0_3 := am_ hc0_3
 clear hr0_3 hc0_3
 have HR1 := am_ hr1
 have HC1 := am_ hc1
 clear hr1 hc1
 have HB := am_ (Below.refl w.heap.size w)
 have H := h
 clear h
 unfold impl_StepBy.f at H
 obtain ⟨t459, A4, H⟩ := Sh.ba H
 by_cases c5 : t459 = true
 ·subst c5
  rw [if_pos rfl] at H
  obtain ⟨t460, A6, H⟩ := Sh.ba H
  by_cases c7 : t460 = true
  ·subst c7
   rw [if_pos rfl] at H
   by_cases c8 : 0 ≤ a2
   ·rw [if_pos c8] at H
    have c8b0 := decide_eq_true c8
    clear c8
    by_cases c9 : a2 < (l0_3.length : Int)
    ·rw [if_pos c9] at H
     have c9b0 := decide_eq_true c9
     clear c9
     obtain ⟨t462, A10, H⟩ := Sh.ba H
     by_cases c11 : t462 = true
     ·subst c11
      rw [if_pos rfl] at H
      obtain ⟨t464, A12, H⟩ := Sh.ba H
      simp only [Option.some.injEq, Prod.mk.injEq] at H
      obtain ⟨rfl, rfl⟩ := H
      go_enter Tryz.func30, Tryz.ntmps30
      try go_wp2_with (first | ((with_reducible refine Sh.d 3 ?_); refine Sh.bz w (N := 3) (cs := #[.int .i64 a0_0, .int .i64 a0_1, .slice A0_2 l0_2.length c0_2, .slice A0_3 l0_3.length c0_3]) (t := 36) (h := ?_); clear HB; intro gb458 w13 BK458 GE458 HB))
      replace BK458 := am_ (blk_drew BK458.out)
      replace HB := am_ (below_drew1 HB.out)
      have p461 : 0 ≤ (a2 : Int) := Sh.od
      have q461 : a2 < (l0_3.length : Int) := Sh.od
      obtain ⟨ad461, A461_0, c461_0, A461_1, c461_1, e461, hx461_0, hx461_1, hl461_0, hi461_0, hl461_1, hi461_1⟩ := at_T72 HR0_3.out a2 p461 q461
      have hw461_1 := hx461_1
      have hw461_0 := hx461_0
      cases e461
      try replace hx461_0 := Sh.cw hx461_0
      try replace hx461_1 := Sh.cw hx461_1
      have HR461_0 := am_ hi461_0
      have HC461_0 := am_ hl461_0
      clear hi461_0 hl461_0
      have HR461_1 := am_ hi461_1
      have HC461_1 := am_ hl461_1
      clear hi461_1 hl461_1
      replace p461 := eq_true p461
      replace q461 := eq_true q461
      refine start_ (n := 22) (S := fun w' => w'.cell? ⟨gb458, 0, none⟩ = some (.int .i64 a0_0) ∧ w'.cell? ⟨gb458, 1, none⟩ = some (.int .i64 a0_1) ∧ w'.cell? ⟨gb458, 2, none⟩ = some (.slice A0_2 l0_2.length c0_2) ∧ w'.cell? ⟨gb458, 3, none⟩ = some (.slice (some ad461) l0_3.length c0_3) ∧ w'.cell? (ad461.add ((a2).toNat * 2)) = some (.slice A461_0 ((rd_T72 l0_3 a2).f0).length c461_0) ∧ w'.cell? ⟨(ad461.add ((a2).toNat * 2)).block, (ad461.add ((a2).toNat * 2)).off + 1, none⟩ = some (.slice A461_1 ((rd_T72 l0_3 a2).f1).length c461_1)) (ds := []) (Sh.nm 22 0) (by kernel_rfl) rfl rfl Sh.cs (fun hHeld => ?_); refine with_tabW impl_StepBy.tab1 impl_StepBy.bits1 (fun HT_ HW_ => ?_)
      generalize w13.drew = w14 at BK458 HB HR461_0 HR461_1 hx461_0 hx461_1 hHeld ⊢
      refine Sh.qA 1 ?_; refine Sh.qT 0 hHeld ?_
      refine Sh.oC 2 Tryz.func29 #[.agg #[.int .i64 a0_0, .int .i64 a0_1, .slice A0_2 l0_2.length c0_2, .slice (some ad461) l0_3.length c0_3], .slice A1 l1.length c1] fun K hK => ?_
      with_reducible refine (impl_isStateOf.calls k a0_0 a0_1 _ _ l0_2 _ _ l0_3 _ _ l1 true _ (Sh.cB HR0_2.out) HC0_2.out (Sh.cB HR0_3.out) HC0_3.out (Sh.cB HR1.out) HC1.out A4.out).mono ?_
      rintro e w15 ⟨rfl, hb⟩
      refine ⟨_, rfl, ?_⟩
      replace BK458 := Sh.ab BK458 hb
      replace HB := Sh.hb hb
      (try clear hb)
      (try clear hb2)
      (try clear hk)
      (try clear hi)
      refine Sh.kN hK Sh.cs fun hHeld => ?_
      clear hK K
      refine Sh.qA 3 ?_; refine Sh.qA 4 ?_; refine Sh.qA 6 ?_; refine Sh.qT 5 hHeld ?_
      refine Sh.oC 7 Tryz.func49 #[.agg #[.int .i64 a0_0, .int .i64 a0_1, .slice A0_2 l0_2.length c0_2, .slice (some ad461) l0_3.length c0_3], .int .i64 a2] fun K hK => ?_
      with_reducible refine (impl_Program_isCommandNo.calls a0_0 a0_1 _ _ l0_2 _ _ l0_3 a2 true _ (Sh.cB HR0_2.out) HC0_2.out (Sh.cB HR0_3.out) HC0_3.out A6.out).mono ?_
      rintro e w16 ⟨rfl, hb⟩
      refine ⟨_, rfl, ?_⟩
      replace BK458 := Sh.ab BK458 hb
      replace HB := Sh.hb hb
      (try clear hb)
      (try clear hb2)
      (try clear hk)
      (try clear hi)
      refine Sh.kN hK Sh.cs fun hHeld => ?_
      clear hK K
      refine Sh.qA 8 ?_; refine Sh.qA 9 ?_; refine Sh.qA 10 ?_; refine Sh.qA 12 ?_; refine Sh.qA 14 ?_; refine Sh.qA 18 ?_; refine Sh.qT 11 hHeld ?_; refine Sh.qT 13 hHeld ?_; refine Sh.qA 15 ?_; refine Sh.qA 16 ?_; refine Sh.qT 17 hHeld ?_
      refine Sh.oC 19 Tryz.func50 #[.agg #[.int .i64 a0_0, .int .i64 a0_1, .slice A0_2 l0_2.length c0_2, .slice (some ad461) l0_3.length c0_3], .slice A461_0 ((rd_T72 l0_3 a2).f0).length c461_0, .slice A1 l1.length c1] fun K hK => ?_
      with_reducible refine (impl_Program_holds.calls k a0_0 a0_1 _ _ l0_2 _ _ l0_3 _ _ ((rd_T72 l0_3 a2).f0) _ _ l1 true _ (Sh.cB HR0_2.out) HC0_2.out (Sh.cB HR0_3.out) HC0_3.out (Sh.cB HR461_0.out) HC461_0.out (Sh.cB HR1.out) HC1.out A10.out).mono ?_
      rintro e w17 ⟨rfl, hb⟩
      refine ⟨_, rfl, ?_⟩
      replace BK458 := Sh.ab BK458 hb
      replace HB := Sh.hb hb
      (try clear hb)
      (try clear hb2)
      (try clear hk)
      (try clear hi)
      refine Sh.kN hK Sh.cs fun hHeld => ?_
      clear hK K
      refine Sh.qA 20 ?_; refine Sh.qA 21 ?_
      refine done_ (done_of HT_.out (by kernel_rfl)) ?_
      try go_wp2
      replace BK458 := am_ (blk_drew BK458.out)
      replace HB := am_ (below_drew1 HB.out)
      have p463 : 0 ≤ (a2 : Int) := Sh.od
      have q463 : a2 < (l0_3.length : Int) := Sh.od
      obtain ⟨ad463, A463_0, c463_0, A463_1, c463_1, e463, hx463_0, hx463_1, hl463_0, hi463_0, hl463_1, hi463_1⟩ := at_T72 HR0_3.out a2 p463 q463
      have hw463_1 := hx463_1
      have hw463_0 := hx463_0
      obtain rfl : ad461 = ad463 := (by injection e463)
      try replace hx463_0 := Sh.cw hx463_0
      try replace hx463_1 := Sh.cw hx463_1
      have HR463_0 := am_ hi463_0
      have HC463_0 := am_ hl463_0
      clear hi463_0 hl463_0
      have HR463_1 := am_ hi463_1
      have HC463_1 := am_ hl463_1
      clear hi463_1 hl463_1
      replace p463 := eq_true p463
      replace q463 := eq_true q463
      refine start_ (n := 10) (S := fun w' => w'.cell? ⟨gb458, 0, none⟩ = some (.int .i64 a0_0) ∧ w'.cell? ⟨gb458, 1, none⟩ = some (.int .i64 a0_1) ∧ w'.cell? ⟨gb458, 2, none⟩ = some (.slice A0_2 l0_2.length c0_2) ∧ w'.cell? ⟨gb458, 3, none⟩ = some (.slice (some ad461) l0_3.length c0_3) ∧ w'.cell? (ad461.add ((a2).toNat * 2)) = some (.slice A463_0 ((rd_T72 l0_3 a2).f0).length c463_0) ∧ w'.cell? ⟨(ad461.add ((a2).toNat * 2)).block, (ad461.add ((a2).toNat * 2)).off + 1, none⟩ = some (.slice A463_1 ((rd_T72 l0_3 a2).f1).length c463_1)) (ds := []) (Sh.nm 10 0) (by kernel_rfl) rfl rfl Sh.cs (fun hHeld => ?_); refine with_tabW impl_StepBy.tab3 impl_StepBy.bits3 (fun HT_ HW_ => ?_)
      generalize w17.drew = w18 at BK458 HB HR463_0 HR463_1 hx463_0 hx463_1 hHeld ⊢
      refine Sh.qA 1 ?_; refine Sh.qA 3 ?_; refine Sh.qA 6 ?_; refine Sh.qT 0 hHeld ?_; refine Sh.qT 2 hHeld ?_; refine Sh.qA 4 ?_; refine Sh.qT 5 hHeld ?_
      refine Sh.oC 7 Tryz.func51 #[.agg #[.int .i64 a0_0, .int .i64 a0_1, .slice A0_2 l0_2.length c0_2, .slice (some ad461) l0_3.length c0_3], .agg #[.slice A463_0 ((rd_T72 l0_3 a2).f0).length c463_0, .slice A463_1 ((rd_T72 l0_3 a2).f1).length c463_1], .slice A1 l1.length c1] fun K hK => ?_
      with_reducible refine (impl_Program_after.calls k a0_0 a0_1 _ _ l0_2 _ _ l0_3 _ _ ((rd_T72 l0_3 a2).f0) _ _ ((rd_T72 l0_3 a2).f1) _ _ l1 t464 _ (Sh.cB HR0_2.out) HC0_2.out (Sh.cB HR0_3.out) HC0_3.out (Sh.cB HR463_0.out) HC463_0.out (Sh.cB HR463_1.out) HC463_1.out (Sh.cB HR1.out) HC1.out A12.out).mono ?_
      rintro e w19 ⟨v465, rfl, ho0, hb⟩
      refine ⟨_, rfl, ?_⟩
      have HO466 := am_ (Kd.R_lower ho0 (below_size Sh.bw))
      replace BK458 := Sh.ab BK458 hb
      replace HB := Sh.hb hb
      (try clear hb)
      (try clear hb2)
      (try clear hk)
      (try clear hi)
      (try clear ho0)
      refine Sh.kN hK Sh.cs fun hHeld => ?_
      clear hK K
      refine Sh.qA 8 ?_; refine Sh.qA 9 ?_
      refine done_ (done_of HT_.out (by kernel_rfl)) ?_
      try go_wp2
      go_ret2
      exact ⟨_, Sh.eR, Sh.rl HO466.out, Sh.bw⟩
     ·replace c11 := Bool.eq_false_iff.mpr c11
      subst c11
      rw [Sh.nf] at H
      simp only [Option.some.injEq, Prod.mk.injEq] at H
      obtain ⟨rfl, rfl⟩ := H
      go_enter Tryz.func30, Tryz.ntmps30
      try go_wp2_with (first | ((with_reducible refine Sh.d 3 ?_); refine Sh.bz w (N := 3) (cs := #[.int .i64 a0_0, .int .i64 a0_1, .slice A0_2 l0_2.length c0_2, .slice A0_3 l0_3.length c0_3]) (t := 36) (h := ?_); clear HB; intro gb458 w20 BK458 GE458 HB))
      replace BK458 := am_ (blk_drew BK458.out)
      replace HB := am_ (below_drew1 HB.out)
      have p461 : 0 ≤ (a2 : Int) := Sh.od
      have q461 : a2 < (l0_3.length : Int) := Sh.od
      obtain ⟨ad461, A461_0, c461_0, A461_1, c461_1, e461, hx461_0, hx461_1, hl461_0, hi461_0, hl461_1, hi461_1⟩ := at_T72 HR0_3.out a2 p461 q461
      have hw461_1 := hx461_1
      have hw461_0 := hx461_0
      cases e461
      try replace hx461_0 := Sh.cw hx461_0
      try replace hx461_1 := Sh.cw hx461_1
      have HR461_0 := am_ hi461_0
      have HC461_0 := am_ hl461_0
      clear hi461_0 hl461_0
      have HR461_1 := am_ hi461_1
      have HC461_1 := am_ hl461_1
      clear hi461_1 hl461_1
      replace p461 := eq_true p461
      replace q461 := eq_true q461
      refine start_ (n := 22) (S := fun w' => w'.cell? ⟨gb458, 0, none⟩ = some (.int .i64 a0_0) ∧ w'.cell? ⟨gb458, 1, none⟩ = some (.int .i64 a0_1) ∧ w'.cell? ⟨gb458, 2, none⟩ = some (.slice A0_2 l0_2.length c0_2) ∧ w'.cell? ⟨gb458, 3, none⟩ = some (.slice (some ad461) l0_3.length c0_3) ∧ w'.cell? (ad461.add ((a2).toNat * 2)) = some (.slice A461_0 ((rd_T72 l0_3 a2).f0).length c461_0) ∧ w'.cell? ⟨(ad461.add ((a2).toNat * 2)).block, (ad461.add ((a2).toNat * 2)).off + 1, none⟩ = some (.slice A461_1 ((rd_T72 l0_3 a2).f1).length c461_1)) (ds := []) (Sh.nm 22 0) (by kernel_rfl) rfl rfl Sh.cs (fun hHeld => ?_); refine with_tabW impl_StepBy.tab1 impl_StepBy.bits1 (fun HT_ HW_ => ?_)
      generalize w20.drew = w21 at BK458 HB HR461_0 HR461_1 hx461_0 hx461_1 hHeld ⊢
      refine Sh.qA 1 ?_; refine Sh.qT 0 hHeld ?_
      refine Sh.oC 2 Tryz.func29 #[.agg #[.int .i64 a0_0, .int .i64 a0_1, .slice A0_2 l0_2.length c0_2, .slice (some ad461) l0_3.length c0_3], .slice A1 l1.length c1] fun K hK => ?_
      with_reducible refine (impl_isStateOf.calls k a0_0 a0_1 _ _ l0_2 _ _ l0_3 _ _ l1 true _ (Sh.cB HR0_2.out) HC0_2.out (Sh.cB HR0_3.out) HC0_3.out (Sh.cB HR1.out) HC1.out A4.out).mono ?_
      rintro e w22 ⟨rfl, hb⟩
      refine ⟨_, rfl, ?_⟩
      replace BK458 := Sh.ab BK458 hb
      replace HB := Sh.hb hb
      (try clear hb)
      (try clear hb2)
      (try clear hk)
      (try clear hi)
      refine Sh.kN hK Sh.cs fun hHeld => ?_
      clear hK K
      refine Sh.qA 3 ?_; refine Sh.qA 4 ?_; refine Sh.qA 6 ?_; refine Sh.qT 5 hHeld ?_
      refine Sh.oC 7 Tryz.func49 #[.agg #[.int .i64 a0_0, .int .i64 a0_1, .slice A0_2 l0_2.length c0_2, .slice (some ad461) l0_3.length c0_3], .int .i64 a2] fun K hK => ?_
      with_reducible refine (impl_Program_isCommandNo.calls a0_0 a0_1 _ _ l0_2 _ _ l0_3 a2 true _ (Sh.cB HR0_2.out) HC0_2.out (Sh.cB HR0_3.out) HC0_3.out A6.out).mono ?_
      rintro e w23 ⟨rfl, hb⟩
      refine ⟨_, rfl, ?_⟩
      replace BK458 := Sh.ab BK458 hb
      replace HB := Sh.hb hb
      (try clear hb)
      (try clear hb2)
      (try clear hk)
      (try clear hi)
      refine Sh.kN hK Sh.cs fun hHeld => ?_
      clear hK K
      refine Sh.qA 8 ?_; refine Sh.qA 9 ?_; refine Sh.qA 10 ?_; refine Sh.qA 12 ?_; refine Sh.qA 14 ?_; refine Sh.qA 18 ?_; refine Sh.qT 11 hHeld ?_; refine Sh.qT 13 hHeld ?_; refine Sh.qA 15 ?_; refine Sh.qA 16 ?_; refine Sh.qT 17 hHeld ?_
      refine Sh.oC 19 Tryz.func50 #[.agg #[.int .i64 a0_0, .int .i64 a0_1, .slice A0_2 l0_2.length c0_2, .slice (some ad461) l0_3.length c0_3], .slice A461_0 ((rd_T72 l0_3 a2).f0).length c461_0, .slice A1 l1.length c1] fun K hK => ?_
      with_reducible refine (impl_Program_holds.calls k a0_0 a0_1 _ _ l0_2 _ _ l0_3 _ _ ((rd_T72 l0_3 a2).f0) _ _ l1 false _ (Sh.cB HR0_2.out) HC0_2.out (Sh.cB HR0_3.out) HC0_3.out (Sh.cB HR461_0.out) HC461_0.out (Sh.cB HR1.out) HC1.out A10.out).mono ?_
      rintro e w24 ⟨rfl, hb⟩
      refine ⟨_, rfl, ?_⟩
      replace BK458 := Sh.ab BK458 hb
      replace HB := Sh.hb hb
      (try clear hb)
      (try clear hb2)
      (try clear hk)
      (try clear hi)
      refine Sh.kN hK Sh.cs fun hHeld => ?_
      clear hK K
      refine Sh.qA 20 ?_; refine Sh.qA 21 ?_
      refine done_ (done_of HT_.out (by kernel_rfl)) ?_
      try go_wp2
      go_ret2
      exact ⟨_, Sh.eR, by first | exact Kd.R_nil _ _ _ _ _ | exact Kd.N_nil _ _ _ _ _ | exact Kd.V_nil _ _ _ _ _ | exact Kd.Q_nil _ _ _ _ _ | exact Kd.S_nil _ _ _ _ _, Sh.bw⟩
    ·rw [if_neg c9] at H
     exact absurd H (by simp)
   ·rw [if_neg c8] at H
    exact absurd H (by simp)
  ·replace c7 := Bool.eq_false_iff.mpr c7
   subst c7
   rw [Sh.nf] at H
   simp only [Option.some.injEq, Prod.mk.injEq] at H
   obtain ⟨rfl, rfl⟩ := H
   go_enter Tryz.func30, Tryz.ntmps30
   try go_wp2_with (first | ((with_reducible refine Sh.d 3 ?_); refine Sh.bz w (N := 3) (cs := #[.int .i64 a0_0, .int .i64 a0_1, .slice A0_2 l0_2.length c0_2, .slice A0_3 l0_3.length c0_3]) (t := 36) (h := ?_); clear HB; intro gb458 w25 BK458 GE458 HB))
   replace BK458 := am_ (blk_drew BK458.out)
   replace HB := am_ (below_drew1 HB.out)
   refine start_ (n := 22) (S := fun w' => w'.cell? ⟨gb458, 0, none⟩ = some (.int .i64 a0_0) ∧ w'.cell? ⟨gb458, 1, none⟩ = some (.int .i64 a0_1) ∧ w'.cell? ⟨gb458, 2, none⟩ = some (.slice A0_2 l0_2.length c0_2) ∧ w'.cell? ⟨gb458, 3, none⟩ = some (.slice A0_3 l0_3.length c0_3)) (ds := []) (Sh.nm 22 0) (by kernel_rfl) rfl rfl Sh.cs (fun hHeld => ?_); refine with_tabW impl_StepBy.tab1 impl_StepBy.bits1 (fun HT_ HW_ => ?_)
   generalize w25.drew = w26 at BK458 HB hHeld ⊢
   refine Sh.qA 1 ?_; refine Sh.qT 0 hHeld ?_
   refine Sh.oC 2 Tryz.func29 #[.agg #[.int .i64 a0_0, .int .i64 a0_1, .slice A0_2 l0_2.length c0_2, .slice A0_3 l0_3.length c0_3], .slice A1 l1.length c1] fun K hK => ?_
   with_reducible refine (impl_isStateOf.calls k a0_0 a0_1 _ _ l0_2 _ _ l0_3 _ _ l1 true _ (Sh.cB HR0_2.out) HC0_2.out (Sh.cB HR0_3.out) HC0_3.out (Sh.cB HR1.out) HC1.out A4.out).mono ?_
   rintro e w27 ⟨rfl, hb⟩
   refine ⟨_, rfl, ?_⟩
   replace BK458 := Sh.ab BK458 hb
   replace HB := Sh.hb hb
   (try clear hb)
   (try clear hb2)
   (try clear hk)
   (try clear hi)
   refine Sh.kN hK Sh.cs fun hHeld => ?_
   clear hK K
   refine Sh.qA 3 ?_; refine Sh.qA 4 ?_; refine Sh.qA 6 ?_; refine Sh.qT 5 hHeld ?_
   refine Sh.oC 7 Tryz.func49 #[.agg #[.int .i64 a0_0, .int .i64 a0_1, .slice A0_2 l0_2.length c0_2, .slice A0_3 l0_3.length c0_3], .int .i64 a2] fun K hK => ?_
   with_reducible refine (impl_Program_isCommandNo.calls a0_0 a0_1 _ _ l0_2 _ _ l0_3 a2 false _ (Sh.cB HR0_2.out) HC0_2.out (Sh.cB HR0_3.out) HC0_3.out A6.out).mono ?_
   rintro e w28 ⟨rfl, hb⟩
   refine ⟨_, rfl, ?_⟩
   replace BK458 := Sh.ab BK458 hb
   replace HB := Sh.hb hb
   (try clear hb)
   (try clear hb2)
   (try clear hk)
   (try clear hi)
   refine Sh.kN hK Sh.cs fun hHeld => ?_
   clear hK K
   refine Sh.qA 8 ?_; refine Sh.qA 9 ?_; refine Sh.qA 10 ?_; refine Sh.qU 11 ?_; refine Sh.qU 12 ?_; refine Sh.qU 13 ?_; refine Sh.qU 14 ?_; refine Sh.qU 15 ?_; refine Sh.qU 16 ?_; refine Sh.qU 17 ?_; refine Sh.qU 18 ?_; refine Sh.qU 19 ?_; refine Sh.qU 20 ?_; refine Sh.qA 21 ?_
   refine done_ (done_of HT_.out (by kernel_rfl)) ?_
   try go_wp2
   go_ret2
   exact ⟨_, Sh.eR, by first | exact Kd.R_nil _ _ _ _ _ | exact Kd.N_nil _ _ _ _ _ | exact Kd.V_nil _ _ _ _ _ | exact Kd.Q_nil _ _ _ _ _ | exact Kd.S_nil _ _ _ _ _, Sh.bw⟩
 ·replace c5 := Bool.eq_false_iff.mpr c5
  subst c5
  rw [Sh.nf] at H
  simp only [Option.some.injEq, Prod.mk.injEq] at H
  obtain ⟨rfl, rfl⟩ := H
  go_enter Tryz.func30, Tryz.ntmps30
  try go_wp2_with (first | ((with_reducible refine Sh.d 3 ?_); refine Sh.bz w (N := 3) (cs := #[.int .i64 a0_0, .int .i64 a0_1, .slice A0_2 l0_2.length c0_2, .slice A0_3 l0_3.length c0_3]) (t := 36) (h := ?_); clear HB; intro gb458 w29 BK458 GE458 HB))
  replace BK458 := am_ (blk_drew BK458.out)
  replace HB := am_ (below_drew1 HB.out)
  refine start_ (n := 22) (S := fun w' => w'.cell? ⟨gb458, 0, none⟩ = some (.int .i64 a0_0) ∧ w'.cell? ⟨gb458, 1, none⟩ = some (.int .i64 a0_1) ∧ w'.cell? ⟨gb458, 2, none⟩ = some (.slice A0_2 l0_2.length c0_2) ∧ w'.cell? ⟨gb458, 3, none⟩ = some (.slice A0_3 l0_3.length c0_3)) (ds := []) (Sh.nm 22 0) (by kernel_rfl) rfl rfl Sh.cs (fun hHeld => ?_); refine with_tabW impl_StepBy.tab1 impl_StepBy.bits1 (fun HT_ HW_ => ?_)
  generalize w29.drew = w30 at BK458 HB hHeld ⊢
  refine Sh.qA 1 ?_; refine Sh.qT 0 hHeld ?_
  refine Sh.oC 2 Tryz.func29 #[.agg #[.int .i64 a0_0, .int .i64 a0_1, .slice A0_2 l0_2.length c0_2, .slice A0_3 l0_3.length c0_3], .slice A1 l1.length c1] fun K hK => ?_
  with_reducible refine (impl_isStateOf.calls k a0_0 a0_1 _ _ l0_2 _ _ l0_3 _ _ l1 false _ (Sh.cB HR0_2.out) HC0_2.out (Sh.cB HR0_3.out) HC0_3.out (Sh.cB HR1.out) HC1.out A4.out).mono ?_
  rintro e w31 ⟨rfl, hb⟩
  refine ⟨_, rfl, ?_⟩
  replace BK458 := Sh.ab BK458 hb
  replace HB := Sh.hb hb
  (try clear hb)
  (try clear hb2)
  (try clear hk)
  (try clear hi)
  refine Sh.kN hK Sh.cs fun hHeld => ?_
  clear hK K
  refine Sh.qA 3 ?_; refine Sh.qA 4 ?_; refine Sh.qU 5 ?_; refine Sh.qU 6 ?_; refine Sh.qU 7 ?_; refine Sh.qU 8 ?_; refine Sh.qA 9 ?_; refine Sh.qA 10 ?_; refine Sh.qU 11 ?_; refine Sh.qU 12 ?_; refine Sh.qU 13 ?_; refine Sh.qU 14 ?_; refine Sh.qU 15 ?_; refine Sh.qU 16 ?_; refine Sh.qU 17 ?_; refine Sh.qU 18 ?_; refine Sh.qU 19 ?_; refine Sh.qU 20 ?_; refine Sh.qA 21 ?_
  refine done_ (done_of HT_.out (by kernel_rfl)) ?_
  try go_wp2
  go_ret2
  exact ⟨_, Sh.eR, by first | exact Kd.R_nil _ _ _ _ _ | exact Kd.N_nil _ _ _ _ _ | exact Kd.V_nil _ _ _ _ _ | exact Kd.Q_nil _ _ _ _ _ | exact Kd.S_nil _ _ _ _ _, Sh.bw⟩
mutual
def impl_PlayCommands.j0 : Nat → List Int → List Int → Bool → Int → Int → List (S80) → List (S72) → Option ((List (List Int)) × List Bool × Bool)
 | 0, _, _, _, _, _, _, _ => none
 | k + 1, x1, x2, x23, x468000, x468001, x468002, x468003 => if x23 = true then (some (([] : List (List Int)), ([] : List Bool), false)) else (impl_PlayCommands.l0 k x1 (([] : List (List Int))) (([] : List Bool)) x2 (x2.length : Int) 0 x468000 x468001 x468002 x468003)
def impl_PlayCommands.l0 : Nat → List Int → List (List Int) → List Bool → List Int → Int → Int → Int → Int → List (S80) → List (S72) → Option ((List (List Int)) × List Bool × Bool)
 | 0, _, _, _, _, _, _, _, _, _, _ => none
 | k + 1, x1, x9, x10, x26, x27, x28, x468000, x468001, x468002, x468003 => if x28 < x27 then (if 0 ≤ x28 then (if x28 < (x26.length : Int) then ((impl_StepBy.f k x468000 x468001 x468002 x468003 x1 (rd x26 x28)).bind fun bt476 => (if bt476.2 = true then ((slices_Clone_uint64_uint64.f bt476.1).bind fun t480 => (if x9.length < 5864062014805 then (if x10.length < 140737488355328 then (impl_PlayCommands.l0 k bt476.1 (x9 ++ [t480]) (x10 ++ [bt476.2]) x26 x27 (wrap64 (x28 + 1)) x468000 x468001 x468002 x468003) else (none)) else (none))) else ((slices_Clone_uint64_uint64.f x1).bind fun t489 => (if x9.length < 5864062014805 then (if x10.length < 140737488355328 then (impl_PlayCommands.l0 k x1 (x9 ++ [t489]) (x10 ++ [bt476.2]) x26 x27 (wrap64 (x28 + 1)) x468000 x468001 x468002 x468003) else (none)) else (none))))) else (none)) else (none)) else (some (x9, x10, true))
end
def impl_PlayCommands.f (k : Nat) (a0_0 : Int) (a0_1 : Int) (l0_2 : List (S80)) (l0_3 : List (S72)) (l1 : List Int) (l2 : List Int) : Option ((List (List Int)) × List Bool × Bool) := (impl_isStateOf.f k a0_0 a0_1 l0_2 l0_3 l1).bind fun t468 => (if t468 = true then (impl_PlayCommands.j0 k l1 l2 (decide ((l2.length : Int) > 60)) a0_0 a0_1 l0_2 l0_3) else (impl_PlayCommands.j0 k l1 l2 true a0_0 a0_1 l0_2 l0_3))
theorem impl_PlayCommands.mono_l : ∀ k, (∀ y0 y1 y2 y3 y4 y5 y6, LeO (impl_PlayCommands.j0 k y0 y1 y2 y3 y4 y5 y6) (impl_PlayCommands.j0 (k + 1) y0 y1 y2 y3 y4 y5 y6)) ∧ (∀ y0 y1 y2 y3 y4 y5 y6 y7 y8 y9, LeO (impl_PlayCommands.l0 k y0 y1 y2 y3 y4 y5 y6 y7 y8 y9) (impl_PlayCommands.l0 (k + 1) y0 y1 y2 y3 y4 y5 y6 y7 y8 y9))
 | 0 => ⟨fun _ _ _ _ _ _ _ r h => by simp [impl_PlayCommands.j0] at h, fun _ _ _ _ _ _ _ _ _ _ r h => by simp [impl_PlayCommands.l0] at h⟩
 | k + 1 => by
  obtain ⟨ih0, ih1⟩ := impl_PlayCommands.mono_l k
  and_intros <;> intros
  all_goals (first | unfold impl_PlayCommands.j0 | unfold impl_PlayCommands.l0)
  all_goals repeat' with_reducible first | apply ih0 | apply ih1 | apply impl_StepBy.mono | apply impl_isStateOf.mono | exact LeO.refl _ | exact LeO.none _ | apply LeO.ite | refine LeO.bind ?_ fun _ => ?_
theorem impl_PlayCommands.mono : ∀ a0 a1 a2 a3 a4 a5 k, LeO (impl_PlayCommands.f k a0 a1 a2 a3 a4 a5) (impl_PlayCommands.f (k + 1) a0 a1 a2 a3 a4 a5) := by
 intro a0 a1 a2 a3 a4 a5 k
 obtain ⟨ih0, ih1⟩ := impl_PlayCommands.mono_l k
 unfold impl_PlayCommands.f
 repeat' with_reducible first | apply ih0 | apply ih1 | apply impl_StepBy.mono | apply impl_isStateOf.mono | exact LeO.refl _ | exact LeO.none _ | apply LeO.ite | refine LeO.bind ?_ fun _ => ?_
theorem impl_PlayCommands.calls (k : Nat) (a0_0 : Int) (a0_1 : Int) (A0_2 : Option Addr) (c0_2 : Nat) (l0_2 : List (S80)) (A0_3 : Option Addr) (c0_3 : Nat) (l0_3 : List (S72)) (P1_ : Nat → Prop) (A1 : Option Addr) (c1 : Nat) (l1 : List Int) (A2 : Option Addr) (c2 : Nat) (l2 : List Int) (r1 : List (List Int)) (r2 : List Bool) (r3 : Bool) (w : World) (hr0_2 : Kd.C k80 w A0_2 l0_2.length l0_2) (hc0_2 : l0_2.length ≤ c0_2) (hr0_3 : Kd.C k72 w A0_3 l0_3.length l0_3) (hc0_3 : l0_3.length ≤ c0_3) (hs1 : Kd.V (Kd.int .u64) 59 w w.heap.size (fun k_ => P1_ k_) (.slice A1 l1.length c1) l1) (hr2 : Kd.C (Kd.int .i64) w A2 l2.length l2) (hc2 : l2.length ≤ c2) (h : impl_PlayCommands.f k a0_0 a0_1 l0_2 l0_3 l1 l2 = some (r1, r2, r3)) :
  Calls Tryz.prog 9 #[.agg #[.int .i64 a0_0, .int .i64 a0_1, .slice A0_2 l0_2.length c0_2, .slice A0_3 l0_3.length c0_3], .slice A1 l1.length c1, .slice A2 l2.length c2] w fun e w' => ∃ v0_ v1_ : Value, e = .returned (.tuple #[v0_, v1_, .bool r3]) ∧ Kd.S (Kd.slice 59 (Kd.int .u64)) 26 w' w.heap.size (fun k_ => (w.heap.size ≤ k_)) v0_ r1 ∧ Kd.R Kd.bool 4 w' w.heap.size (fun k_ => (w.heap.size ≤ k_)) v1_ r2 ∧ Below w.heap.size w w' := by
 have hu36 := Tryz.underlying36
 have HR0_2 := am_ hr0_2
 have HC0_2 := am_ hc0_2
 clear hr0_2 hc0_2
 have HR0_3 := am_ hr0_3
 have HC0_3 := am_ hc0_3
 clear hr0_3 hc0_3
 have HO1 := am_ (show Kd.V (Kd.int .u64) 59 w w.heap.size (fun k_ => (P1_ k_ ∨ w.heap.size ≤ k_)) (.slice A1 l1.length c1) l1 from Kd.V_mono hs1 (fun k_ hk => .inl hk))
 have HR2 := am_ hr2
 have HC2 := am_ hc2
 clear hr2 hc2
 have HB := am_ (Below.refl w.heap.size w)
 have H := h
 clear h
 unfold impl_PlayCommands.f at H
 have HC4 := am_ H
 clear H
 go_enter Tryz.func9, Tryz.ntmps9
 go_upto_region 1 with (first | ((with_reducible refine Sh.d 3 ?_); (try (refine gate_guard (by rfl) ?_; dsimp only)); refine Sh.bx (N := 3) (cs := #[.int .i64 a0_0, .int .i64 a0_1, .slice A0_2 l0_2.length c0_2, .slice A0_3 l0_3.length c0_3]) (t := 36) (h := ?_); intro gb467 hg w5 hbox hb; replace HO1 := am_ (Kd.V_below (Kd.V_elderB (by (with_reducible repeat (first | apply Kd.V_alloc | apply Kd.V_drewN | apply Kd.V_drew)); exact HO1.out) gb467 (Nat.le_of_eq hg.symm)) hb); have BK467 := am_ hbox; have GE467 := Sh.ag w hg; replace HB := Sh.hb hb; clear hb hbox hg))
 (try simp only [Act.put, List.setIfInBounds_toArray, List.set_cons_zero, List.set_cons_succ])
 go_cut [23] (fun v23 wc => ∃ (kq : Nat) (x23_3 : Bool), v23 = .bool x23_3 ∧ Aside0 (impl_PlayCommands.j0 kq l1 l2 x23_3 a0_0 a0_1 l0_2 l0_3 = some (r1, r2, r3)) ∧ Aside0 (kq ≤ k) ∧ Aside0 (Kd.V (Kd.int .u64) 59 wc w.heap.size (fun k_ => (P1_ k_ ∨ w.heap.size ≤ k_) ∧ k_ ≠ gb467) (.slice A1 l1.length c1) l1) ∧ Aside0 (wc.heap[gb467]? = some (.cells #[.int .i64 a0_0, .int .i64 a0_1, (.slice A0_2 l0_2.length c0_2), (.slice A0_3 l0_3.length c0_3)] 36 (0, 0))) ∧ Aside0 (Below w.heap.size w wc))
 case first =>
  have H := HC4.out
  clear HC4
  obtain ⟨t468, A6, H⟩ := Sh.ba H
  by_cases c7 : t468 = true
  ·subst c7
   rw [if_pos rfl] at H
   have H' := am_ H
   clear H
   have hcz8_0 := Sh.bc BK467.out 0
   have hcz8_1 := Sh.bc BK467.out 1
   have hcz8_2 := Sh.bc BK467.out 2
   have hcz8_3 := Sh.bc BK467.out 3
   have hfz8_0 := blk_frozen BK467.out 0
   have hfz8_1 := blk_frozen BK467.out 1
   have hfz8_2 := blk_frozen BK467.out 2
   have hfz8_3 := blk_frozen BK467.out 3
   go_wp2_with (first | ((with_reducible refine Sh.k 29 ?_); refine Sh.gB (some 17) Tryz.func29 #[.agg #[.int .i64 a0_0, .int .i64 a0_1, .slice A0_2 l0_2.length c0_2, .slice A0_3 l0_3.length c0_3], .slice A1 l1.length c1] (impl_isStateOf.calls k a0_0 a0_1 _ _ l0_2 _ _ l0_3 _ _ l1 true _ (Sh.cB HR0_2.out) HC0_2.out (Sh.cB HR0_3.out) HC0_3.out (Sh.cR (Kd.V_reads' HO1.out).2.2) (Kd.V_reads' HO1.out).2.1 A6.out) fun w9 hb => ?_; replace HO1 := am_ (Kd.V_below (by (with_reducible repeat (first | apply Kd.V_alloc | apply Kd.V_drewN | apply Kd.V_drew)); exact HO1.out) hb); replace BK467 := Sh.ab BK467 hb; replace HB := Sh.hb hb; (try clear hb); (try clear hb2); (try clear hk); (try clear hi)))
   go_meet
   case rel => exact ⟨_, (decide ((l2.length : Int) > 60)), (Sh.es), H', ⟨Sh.om⟩, ⟨by (with_reducible repeat (first | apply Kd.V_alloc | apply Kd.V_drewN | apply Kd.V_drew)); exact HO1.out⟩, ⟨by refine Sh.pl ?_; exact BK467.out⟩, ⟨Sh.bw⟩⟩
  ·replace c7 := Bool.eq_false_iff.mpr c7
   subst c7
   rw [Sh.nf] at H
   have H' := am_ H
   clear H
   have hcz10_0 := Sh.bc BK467.out 0
   have hcz10_1 := Sh.bc BK467.out 1
   have hcz10_2 := Sh.bc BK467.out 2
   have hcz10_3 := Sh.bc BK467.out 3
   have hfz10_0 := blk_frozen BK467.out 0
   have hfz10_1 := blk_frozen BK467.out 1
   have hfz10_2 := blk_frozen BK467.out 2
   have hfz10_3 := blk_frozen BK467.out 3
   go_wp2_with (first | ((with_reducible refine Sh.k 29 ?_); refine Sh.gB (some 17) Tryz.func29 #[.agg #[.int .i64 a0_0, .int .i64 a0_1, .slice A0_2 l0_2.length c0_2, .slice A0_3 l0_3.length c0_3], .slice A1 l1.length c1] (impl_isStateOf.calls k a0_0 a0_1 _ _ l0_2 _ _ l0_3 _ _ l1 false _ (Sh.cB HR0_2.out) HC0_2.out (Sh.cB HR0_3.out) HC0_3.out (Sh.cR (Kd.V_reads' HO1.out).2.2) (Kd.V_reads' HO1.out).2.1 A6.out) fun w11 hb => ?_; replace HO1 := am_ (Kd.V_below (by (with_reducible repeat (first | apply Kd.V_alloc | apply Kd.V_drewN | apply Kd.V_drew)); exact HO1.out) hb); replace BK467 := Sh.ab BK467 hb; replace HB := Sh.hb hb; (try clear hb); (try clear hb2); (try clear hk); (try clear hi)))
   go_meet
   case rel => exact ⟨_, (true), (Sh.es), H', ⟨Sh.om⟩, ⟨by (with_reducible repeat (first | apply Kd.V_alloc | apply Kd.V_drewN | apply Kd.V_drew)); exact HO1.out⟩, ⟨by refine Sh.pl ?_; exact BK467.out⟩, ⟨Sh.bw⟩⟩
 case rest =>
  clear HC4
  try clear hcz10_0
  try clear hcz10_1
  try clear hcz10_2
  try clear hcz10_3
  try clear hcz8_0
  try clear hcz8_1
  try clear hcz8_2
  try clear hcz8_3
  try clear hfz10_0
  try clear hfz10_1
  try clear hfz10_2
  try clear hfz10_3
  try clear hfz8_0
  try clear hfz8_1
  try clear hfz8_2
  try clear hfz8_3
  obtain ⟨kq, x23_3, rfl, HA, HJ3, HO_1, BK467, HB⟩ := hcut
  cases kq with
  | zero => exact absurd HA.out (by simp [impl_PlayCommands.j0])
  | succ kj3 =>
   have H := HA.out
   clear HA
   simp only [impl_PlayCommands.j0] at H
   by_cases c12 : x23_3 = true
   ·subst c12
    rw [if_pos rfl] at H
    simp only [Option.some.injEq, Prod.mk.injEq] at H
    obtain ⟨rfl, rfl, rfl⟩ := H
    go_wp2
    go_ret3
    exact ⟨_, _, by first | rfl | (simp [errW_none, errW_some] <;> rfl) | (simp [*, errW_none, errW_some] <;> rfl), by first | exact Kd.S_nil _ _ _ _ _ | exact Kd.N_nil _ _ _ _ _ | exact Kd.V_nil _ _ _ _ _ | exact Kd.Q_nil _ _ _ _ _ | exact Kd.R_nil _ _ _ _ _, by first | exact Kd.R_nil _ _ _ _ _ | exact Kd.N_nil _ _ _ _ _ | exact Kd.V_nil _ _ _ _ _ | exact Kd.Q_nil _ _ _ _ _ | exact Kd.S_nil _ _ _ _ _, Sh.bw⟩
   ·replace c12 := Bool.eq_false_iff.mpr c12
    subst c12
    rw [Sh.nf] at H
    obtain ⟨y469, hy469⟩ : ∃ y_ : List (List Int), y_ = (([] : List (List Int))) := ⟨_, rfl⟩
    replace H : (impl_PlayCommands.l0 kj3 l1 y469 (([] : List Bool)) l2 (l2.length : Int) 0 a0_0 a0_1 l0_2 l0_3) = some (r1, r2, r3) := by first | (rw [hy469]; with_reducible exact H) | (have H2_ := (Option.bind_some _ _).symm.trans H; rw [hy469]; with_reducible exact H2_) | (have H2_ := (Option.bind_some _ _).symm.trans H; with_reducible exact H2_) | with_reducible exact H | (rw [hy469]; exact H) | exact H
    have Ny469 := am_ hy469
    clear hy469
    obtain ⟨y472, hy472⟩ : ∃ y_ : List Bool, y_ = (([] : List Bool)) := ⟨_, rfl⟩
    replace H : (impl_PlayCommands.l0 kj3 l1 y469 y472 l2 (l2.length : Int) 0 a0_0 a0_1 l0_2 l0_3) = some (r1, r2, r3) := by first | (rw [hy472]; with_reducible exact H) | (have H2_ := (Option.bind_some _ _).symm.trans H; rw [hy472]; with_reducible exact H2_) | (have H2_ := (Option.bind_some _ _).symm.trans H; with_reducible exact H2_) | with_reducible exact H | (rw [hy472]; exact H) | exact H
    have Ny472 := am_ hy472
    clear hy472
    have H' := am_ H
    clear H
    go_wp2_with (first | ((with_reducible refine Sh.d 24 ?_); (try (refine gate_guard (by rfl) ?_; dsimp only)); refine Kd.S_lit (Kd.slice 59 (Kd.int .u64)) _ 26 ?hg (N := 24) ?hd (xs := ([] : List (List Int))) (inner := []) (ok := fun _ => True) (okp := fun _ => True) ?hr ?hp (fun _ hk => hk) trivial (Below.refl _ _) (Nat.le_refl _) (by simp) ?_; (case hd => rfl); (case hg => rfl); (case hr => first | (go_simp; done) | (go_simp; rfl)); (case hp => exact (Reps.none _ _)); intro v470 w13 ho14 hb hg_ hnew_; clear hg_ hnew_; (first | rw [← Ny469.out] at ho14 | (simp only [Int.reduceToNat] at ho14; rw [← Ny469.out] at ho14)); replace HO_1 := am_ (Kd.V_elder' (by (with_reducible repeat (first | apply Kd.V_alloc | apply Kd.V_drewN | apply Kd.V_drew)); exact HO_1.out) (Kd.S_base ho14) hb); have HO471 := am_ (Kd.S_lower (Kd.S_newM (M := fun k_ => (w.heap.size ≤ k_)) ho14 (below_size Sh.bw) (fun k_ h_ => h_)) (below_size Sh.bw)); replace BK467 := Sh.ab BK467 hb; replace HB := Sh.hb hb; clear hb ho14) | ((with_reducible refine Sh.d 25 ?_); (try (refine gate_guard (by rfl) ?_; dsimp only)); refine Kd.R_lit Kd.bool _ 4 ?hg (N := 25) ?hd (xs := ([] : List Bool)) (inner := []) (ok := fun _ => True) (okp := fun _ => True) ?hr ?hp (fun _ hk => hk) trivial (Below.refl _ _) (Nat.le_refl _) (by simp) ?_; (case hd => rfl); (case hg => rfl); (case hr => first | (go_simp; done) | (go_simp; rfl)); (case hp => exact (Reps.none _ _)); intro v473 w15 ho16 hb hg_ hnew_; clear hg_ hnew_; (first | rw [← Ny472.out] at ho16 | (simp only [Int.reduceToNat] at ho16; rw [← Ny472.out] at ho16)); replace HO_1 := am_ (Kd.V_elder' (by (with_reducible repeat (first | apply Kd.V_alloc | apply Kd.V_drewN | apply Kd.V_drew)); exact HO_1.out) (Kd.R_base ho16) hb); replace HO471 := am_ (Kd.S_below (by (with_reducible repeat (first | apply Kd.S_alloc | apply Kd.S_drewN | apply Kd.S_drew)); exact HO471.out) hb); have HO474 := am_ (Kd.R_lower (Kd.R_newM (M := fun k_ => (w.heap.size ≤ k_)) ho16 (below_size Sh.bw) (fun k_ h_ => h_)) (below_size Sh.bw)); replace BK467 := Sh.ab BK467 hb; replace HB := Sh.hb hb; clear hb ho16))
    go_loopg [1, 9, 10, 28] kj3 (fun kq v1 v9 v10 v28 w' => ∃ (x1_2 : List Int) (x9_2 : List (List Int)) (x10_2 : List Bool) (x28_2 : Int), v28 = .int .i64 x28_2 ∧ Aside0 (impl_PlayCommands.l0 kq x1_2 x9_2 x10_2 l2 (l2.length : Int) x28_2 a0_0 a0_1 l0_2 l0_3 = some (r1, r2, r3)) ∧ Aside0 (kq ≤ kj3) ∧ Aside0 (Kd.V (Kd.int .u64) 59 w' w.heap.size (fun k_ => (P1_ k_ ∨ w.heap.size ≤ k_) ∧ some k_ ≠ (v9 : Value).ownBlock ∧ some k_ ≠ (v10 : Value).ownBlock ∧ k_ ≠ gb467) v1 x1_2) ∧ Aside0 (Kd.S (Kd.slice 59 (Kd.int .u64)) 26 w' w.heap.size (fun k_ => (w.heap.size ≤ k_)) v9 x9_2) ∧ Aside0 (Kd.R Kd.bool 4 w' w.heap.size (fun k_ => (w.heap.size ≤ k_)) v10 x10_2) ∧ Aside0 (w'.heap[gb467]? = some (.cells #[.int .i64 a0_0, .int .i64 a0_1, (.slice A0_2 l0_2.length c0_2), (.slice A0_3 l0_3.length c0_3)] 36 (0, 0))) ∧ Aside0 (Below w.heap.size w w'))
    case atStart => exact ⟨(l1), (y469), (y472), (0), (Sh.es), H', ⟨Nat.le_refl _⟩, ⟨by (with_reducible repeat (first | apply Kd.V_alloc | apply Kd.V_drewN | apply Kd.V_drew)); exact Kd.V_mono HO_1.out (fun _ h => ⟨h.1.1.1, h.1.2, h.2, h.1.1.2⟩)⟩, ⟨by (with_reducible repeat (first | apply Kd.S_alloc | apply Kd.S_drewN | apply Kd.S_drew)); exact Kd.S_mono HO471.out (fun _ hk => hk.1)⟩, ⟨Sh.rl (Kd.R_mono HO474.out (fun _ hk => hk.1))⟩, ⟨by refine Sh.pl ?_; exact BK467.out⟩, ⟨Sh.bw⟩⟩
    case round =>
     clear H'
     try clear hcz10_0
     try clear hcz10_1
     try clear hcz10_2
     try clear hcz10_3
     try clear hcz8_0
     try clear hcz8_1
     try clear hcz8_2
     try clear hcz8_3
     try clear hfz10_0
     try clear hfz10_1
     try clear hfz10_2
     try clear hfz10_3
     try clear hfz8_0
     try clear hfz8_1
     try clear hfz8_2
     try clear hfz8_3
     obtain ⟨x1_2, x9_2, x10_2, x28_2, rfl, HA, HK2, HO_1, HO_9, HO_10, BK467, HB⟩ := hrel
     cases gk with
     | zero => exact absurd HA.out (by simp [impl_PlayCommands.l0])
     | succ k2 =>
      have H := HA.out
      clear HA
      simp only [impl_PlayCommands.l0] at H
      by_cases c17 : x28_2 < (l2.length : Int)
      ·rw [if_pos c17] at H
       have c17b0 := decide_eq_true c17
       clear c17
       by_cases c18 : 0 ≤ x28_2
       ·rw [if_pos c18] at H
        have c18b0 := decide_eq_true c18
        clear c18
        by_cases c19 : x28_2 < (l2.length : Int)
        ·rw [if_pos c19] at H
         have c19b0 := decide_eq_true c19
         clear c19
         obtain ⟨⟨t476, t479⟩, A200, H⟩ := Sh.bd H
         have A20 := am_ A200
         clear A200
         by_cases c21 : t479 = true
         ·subst c21
          rw [if_pos rfl] at H
          obtain ⟨t480, A22, H⟩ := Sh.ba H
          by_cases c23 : x9_2.length < 5864062014805
          ·rw [if_pos c23] at H
           have LMc23 := am_ c23
           clear c23
           obtain ⟨y483, hy483⟩ : ∃ y_ : List (List Int), y_ = (x9_2 ++ [t480]) := ⟨_, rfl⟩
           replace H : (if x10_2.length < 140737488355328 then (impl_PlayCommands.l0 k2 t476 y483 (x10_2 ++ [true]) l2 (l2.length : Int) (wrap64 (x28_2 + 1)) a0_0 a0_1 l0_2 l0_3) else (none)) = some (r1, r2, r3) := by first | (rw [hy483]; with_reducible exact H) | (have H2_ := (Option.bind_some _ _).symm.trans H; rw [hy483]; with_reducible exact H2_) | (have H2_ := (Option.bind_some _ _).symm.trans H; with_reducible exact H2_) | with_reducible exact H | (rw [hy483]; exact H) | exact H
           have Ny483 := am_ hy483
           clear hy483
           by_cases c24 : x10_2.length < 140737488355328
           ·rw [if_pos c24] at H
            have LMc24 := am_ c24
            clear c24
            obtain ⟨y486, hy486⟩ : ∃ y_ : List Bool, y_ = (x10_2 ++ [true]) := ⟨_, rfl⟩
            replace H : (impl_PlayCommands.l0 k2 t476 y483 y486 l2 (l2.length : Int) (wrap64 (x28_2 + 1)) a0_0 a0_1 l0_2 l0_3) = some (r1, r2, r3) := by first | (rw [hy486]; with_reducible exact H) | (have H2_ := (Option.bind_some _ _).symm.trans H; rw [hy486]; with_reducible exact H2_) | (have H2_ := (Option.bind_some _ _).symm.trans H; with_reducible exact H2_) | with_reducible exact H | (rw [hy486]; exact H) | exact H
            have Ny486 := am_ hy486
            clear hy486
            have H' := am_ H
            clear H
            have p475 : 0 ≤ (x28_2 : Int) := Sh.od
            have q475 : x28_2 < (l2.length : Int) := Sh.od
            obtain ⟨ad475, e475, hx475_0⟩ := Kd.at_int HR2.out x28_2 p475 q475
            cases e475
            try replace hx475_0 := Sh.cw hx475_0
            replace p475 := eq_true p475
            replace q475 := eq_true q475
            have hcz25_0 := Sh.bc BK467.out 0
            have hcz25_1 := Sh.bc BK467.out 1
            have hcz25_2 := Sh.bc BK467.out 2
            have hcz25_3 := Sh.bc BK467.out 3
            have hfz25_0 := blk_frozen BK467.out 0
            have hfz25_1 := blk_frozen BK467.out 1
            have hfz25_2 := blk_frozen BK467.out 2
            have hfz25_3 := blk_frozen BK467.out 3
            obtain ⟨Ao26, co26, eo26⟩ := Kd.V_slice HO_1.out
            subst eo26
            go_wp2_with (first | ((with_reducible refine Sh.k 30 ?_); refine Sh.gL (some 36) Tryz.func30 #[.agg #[.int .i64 a0_0, .int .i64 a0_1, .slice A0_2 l0_2.length c0_2, .slice A0_3 l0_3.length c0_3], .slice Ao26 x1_2.length co26, .int .i64 (rd l2 x28_2)] (h := ?_); (with_reducible refine (impl_StepBy.calls k2 a0_0 a0_1 _ _ l0_2 _ _ l0_3 _ _ x1_2 (rd l2 x28_2) t476 true _ (Sh.cB HR0_2.out) HC0_2.out (Sh.cB HR0_3.out) HC0_3.out (Sh.cR (Kd.V_reads' HO_1.out).2.2) (Kd.V_reads' HO_1.out).2.1 A20.out).mono ?_); rintro e w27 ⟨v477, rfl, ho0, hb⟩; refine ⟨_, rfl, ?_⟩; replace HO_1 := am_ (Kd.V_elder' (by (with_reducible repeat (first | apply Kd.V_alloc | apply Kd.V_drewN | apply Kd.V_drew)); exact HO_1.out) (Kd.R_base ho0) hb); replace HO_9 := am_ (Kd.S_elder' (by (with_reducible repeat (first | apply Kd.S_alloc | apply Kd.S_drewN | apply Kd.S_drew)); exact HO_9.out) (Kd.R_base ho0) hb); replace HO_10 := am_ (Kd.R_below (Sh.rl HO_10.out) hb); have HO478 := am_ (Kd.R_lower (Kd.R_newM (M := fun k_ => (w.heap.size ≤ k_)) ho0 (below_size Sh.bw) (fun k_ h_ => h_)) (below_size Sh.bw)); replace BK467 := Sh.ab BK467 hb; replace HB := Sh.hb hb; (try clear hb); (try clear hb2); (try clear hk); (try clear hi); (try clear ho0); obtain ⟨Ao28, co28, eo28⟩ := Kd.R_slice HO478.out; subst eo28) | ((with_reducible refine Sh.k 31 ?_); refine Sh.gL (some 43) Tryz.func31 #[.slice Ao28 t476.length co28] (h := ?_); (with_reducible refine (slices_Clone_uint64_uint64.calls _ _ t476 t480 _ (Sh.cR (Kd.R_reads' HO478.out).2.2) (Kd.R_reads' HO478.out).2.1 A22.out).mono ?_); rintro e w29 ⟨v481, rfl, ho0, hb⟩; refine ⟨_, rfl, ?_⟩; replace HO_1 := am_ (Kd.V_elder' (by (with_reducible repeat (first | apply Kd.V_alloc | apply Kd.V_drewN | apply Kd.V_drew)); exact HO_1.out) (Kd.R_base ho0) hb); replace HO_9 := am_ (Kd.S_elder' (by (with_reducible repeat (first | apply Kd.S_alloc | apply Kd.S_drewN | apply Kd.S_drew)); exact HO_9.out) (Kd.R_base ho0) hb); replace HO_10 := am_ (Kd.R_below (Sh.rl HO_10.out) hb); have HO482 := am_ (Kd.R_lower (Kd.R_new' (Kd.R_newM (M := fun k_ => (w.heap.size ≤ k_)) ho0 (below_size Sh.bw) (fun k_ h_ => h_)) (Kd.R_lt (Sh.rl HO478.out))) (below_size Sh.bw)); replace HO478 := am_ (Kd.R_elder' (Sh.rl HO478.out) (Kd.R_base ho0) hb); replace BK467 := Sh.ab BK467 hb; replace HB := Sh.hb hb; (try clear hb); (try clear hb2); (try clear hk); (try clear hi); (try clear ho0); obtain ⟨Ao31, co31, eo31⟩ := Kd.R_slice HO482.out; subst eo31) | ((with_reducible refine gate_builtin (b := .append) (xs := #[.tmp 41, .tmp 44]) rfl ?_); (try (refine gate_guard (by rfl) ?_; dsimp only)); at_builtin; refine Kd.S_append (Kd.slice 59 (Kd.int .u64)) (w0 := w) w.heap.size rfl (.tmp 41) (.tmp 44) 29 26 (.slice none 0 0) 24 rfl Tryz.underlying29 info26 rfl (by decide) (by omega) u9 x9_2 t480 [.slice Ao31 t480.length co31] (fun k_ => (w.heap.size ≤ k_) ∧ some k_ ≠ (.slice Ao28 t476.length co28 : Value).ownBlock) (fun k_ => some k_ = (.slice Ao31 t480.length co31 : Value).ownBlock) rfl rfl ?aP (fun k_ hk_ => ((Kd.R_mono (ok' := fun k_ => ((fun k_ => (w.heap.size ≤ k_) ∧ some k_ ≠ (.slice Ao28 t476.length co28 : Value).ownBlock)) k_ ∧ some k_ ≠ (u9 : Value).ownBlock) (Kd.R_apart' (HO482.out) (Kd.S_typed HO_9.out) (by decide)) (fun k_ h => ⟨⟨h.1.1.1, h.1.2⟩, h.2⟩))).1 k_ hk_.symm) ?aF ?aO ?aB ?aS ?aL ?_; (case aP => exact Kd.M_row (Kd.R_mono (Kd.R_tight rfl (Kd.R_mono (ok' := fun k_ => ((fun k_ => (w.heap.size ≤ k_) ∧ some k_ ≠ (.slice Ao28 t476.length co28 : Value).ownBlock)) k_ ∧ some k_ ≠ (u9 : Value).ownBlock) (Kd.R_apart' (HO482.out) (Kd.S_typed HO_9.out) (by decide)) (fun k_ h => ⟨⟨h.1.1.1, h.1.2⟩, h.2⟩))) (fun _ h_ => h_))); (case aB => exact Sh.bw); (case aF => exact (fun k_ hk => ⟨(Nat.le_trans (below_size Sh.bw) hk), Kd.fresh' (Kd.R_lt (Sh.rl HO478.out)) k_ hk⟩)); (case aO => exact (by (with_reducible repeat (first | apply Kd.S_alloc | apply Kd.S_drewN | apply Kd.S_drew)); exact Kd.S_mono HO_9.out (fun k_ hk => ⟨⟨hk.1.1, hk.1.2⟩, fun e_ => hk.2 e_⟩))); (case aS => exact (below_size Sh.bw)); (case aL => have := LMc23.out; omega); intro v484 w30 ho hb hg hat; rw [← Ny483.out] at ho; have n0_ := am_ (Kd.V_afterv (ok := (fun k_ => (P1_ k_ ∨ w.heap.size ≤ k_) ∧ some k_ ≠ (u10 : Value).ownBlock ∧ some k_ ≠ (.slice Ao28 t476.length co28 : Value).ownBlock ∧ some k_ ≠ (.slice Ao31 t480.length co31 : Value).ownBlock ∧ k_ ≠ gb467)) (by (with_reducible repeat (first | apply Kd.V_alloc | apply Kd.V_drewN | apply Kd.V_drew)); exact Kd.V_mono HO_1.out (fun _ h => ⟨⟨h.1.1.1, h.1.1.2.2.1, h.1.2, h.2, h.1.1.2.2.2⟩, h.1.1.2.1⟩)) hg hat); have n1_ := am_ (Kd.R_over' (Sh.rl HO_10.out) (Kd.S_typed (by (with_reducible repeat (first | apply Kd.S_alloc | apply Kd.S_drewN | apply Kd.S_drew)); exact HO_9.out)) (by decide) hg); have n2_ := am_ (blk_grown (g := gb467) (o := .cells #[.int .i64 a0_0, .int .i64 a0_1, .slice A0_2 l0_2.length c0_2, .slice A0_3 l0_3.length c0_3] 36 (0, 0)) (Sh.pl BK467.out) hg (Kd.S_ne HO_9.out BK467.out (by decide))); have n3_ := am_ (Kd.R_over' (Sh.rl HO478.out) (Kd.S_typed (by (with_reducible repeat (first | apply Kd.S_alloc | apply Kd.S_drewN | apply Kd.S_drew)); exact HO_9.out)) (by decide) hg); have n4_ := am_ hb; have n5_ := am_ ho; clear HO_1; clear HO_10; clear BK467; clear HO478; clear HB; clear HO_9; clear HO482; have HO_1 := n0_; have HO_10 := n1_; have BK467 := n2_; have HO478 := n3_; have HB := n4_; have HO485 := n5_; clear n0_ n1_ n2_ n3_ n4_ n5_; clear ho hb hg hat) | ((with_reducible refine gate_builtin (b := .append) (xs := #[.tmp 46, .tmp 48]) rfl ?_); (try (refine gate_guard (by rfl) ?_; dsimp only)); at_builtin; refine Kd.R_append Kd.bool (w0 := w) w.heap.size rfl (.tmp 46) (.tmp 48) 30 4 (.bool false) 1 rfl Tryz.underlying30 info4 rfl (by decide) (by omega) u10 x10_2 true [.bool true] (fun k_ => (w.heap.size ≤ k_)) (fun _ => False) rfl rfl ?aP (fun _ hk => hk.elim) ?aF ?aO ?aB ?aS ?aL ?_; (case aP => exact rfl); (case aB => exact Sh.bw); (case aF => exact (fun k_ hk => (Nat.le_trans (below_size Sh.bw) hk))); (case aO => exact (Sh.rl HO_10.out)); (case aS => exact (below_size Sh.bw)); (case aL => have := LMc24.out; omega); intro v487 w32 ho hb hg hat; rw [← Ny486.out] at ho; have n0_ := am_ (Kd.V_afterv (ok := (fun k_ => (P1_ k_ ∨ w.heap.size ≤ k_) ∧ some k_ ≠ (.slice Ao28 t476.length co28 : Value).ownBlock ∧ some k_ ≠ (v484 : Value).ownBlock ∧ k_ ≠ gb467)) (by (with_reducible repeat (first | apply Kd.V_alloc | apply Kd.V_drewN | apply Kd.V_drew)); exact Kd.V_mono HO_1.out (fun _ h => ⟨⟨h.1.1, h.1.2.2.1, h.2, h.1.2.2.2.2⟩, h.1.2.1⟩)) hg hat); have n1_ := am_ (blk_grown (g := gb467) (o := .cells #[.int .i64 a0_0, .int .i64 a0_1, .slice A0_2 l0_2.length c0_2, .slice A0_3 l0_3.length c0_3] 36 (0, 0)) (Sh.pl BK467.out) hg (Kd.R_ne HO_10.out BK467.out (by decide))); have n2_ := am_ (Kd.R_over' (Sh.rl HO478.out) (Kd.R_typed (Sh.rl HO_10.out)) (by decide) hg); have n3_ := am_ (Kd.S_over' (by (with_reducible repeat (first | apply Kd.S_alloc | apply Kd.S_drewN | apply Kd.S_drew)); exact HO485.out) (Kd.R_typed (Sh.rl HO_10.out)) (by decide) hg); have n4_ := am_ hb; have n5_ := am_ ho; clear HO_1; clear BK467; clear HO478; clear HO485; clear HB; clear HO_10; have HO_1 := n0_; have BK467 := n1_; have HO478 := n2_; have HO485 := n3_; have HB := n4_; have HO488 := n5_; clear n0_ n1_ n2_ n3_ n4_ n5_; clear ho hb hg hat))
            go_roundg k2
            case measure => have := HJ3.out; have := HK2.out; omega
            case rel => exact ⟨(t476), (y483), (y486), (wrap64 (x28_2 + 1)), (Sh.es), H', ⟨by have := HJ3.out; have := HK2.out; omega⟩, ⟨Kd.V_mono (Kd.R_V (Sh.rl (Kd.R_types (Kd.R_apart' (Kd.R_apart' HO478.out (Kd.S_typed HO485.out) (by decide)) (Kd.R_typed HO488.out) (by decide)) BK467.out (by decide)))) (fun _ h => ⟨.inr h.1.1.1.1.1, h.1.1.2, h.1.2, h.2⟩)⟩, ⟨by (with_reducible repeat (first | apply Kd.S_alloc | apply Kd.S_drewN | apply Kd.S_drew)); exact Kd.S_mono HO485.out (fun _ hk => hk.1)⟩, ⟨Sh.rl HO488.out⟩, ⟨by refine Sh.pl ?_; exact BK467.out⟩, ⟨Sh.bw⟩⟩
           ·rw [if_neg c24] at H
            exact absurd H (by simp)
          ·rw [if_neg c23] at H
           exact absurd H (by simp)
         ·replace c21 := Bool.eq_false_iff.mpr c21
          subst c21
          rw [Sh.nf] at H
          obtain ⟨t489, A33, H⟩ := Sh.ba H
          by_cases c34 : x9_2.length < 5864062014805
          ·rw [if_pos c34] at H
           have LMc34 := am_ c34
           clear c34
           obtain ⟨y492, hy492⟩ : ∃ y_ : List (List Int), y_ = (x9_2 ++ [t489]) := ⟨_, rfl⟩
           replace H : (if x10_2.length < 140737488355328 then (impl_PlayCommands.l0 k2 x1_2 y492 (x10_2 ++ [false]) l2 (l2.length : Int) (wrap64 (x28_2 + 1)) a0_0 a0_1 l0_2 l0_3) else (none)) = some (r1, r2, r3) := by first | (rw [hy492]; with_reducible exact H) | (have H2_ := (Option.bind_some _ _).symm.trans H; rw [hy492]; with_reducible exact H2_) | (have H2_ := (Option.bind_some _ _).symm.trans H; with_reducible exact H2_) | with_reducible exact H | (rw [hy492]; exact H) | exact H
           have Ny492 := am_ hy492
           clear hy492
           by_cases c35 : x10_2.length < 140737488355328
           ·rw [if_pos c35] at H
            have LMc35 := am_ c35
            clear c35
            obtain ⟨y495, hy495⟩ : ∃ y_ : List Bool, y_ = (x10_2 ++ [false]) := ⟨_, rfl⟩
            replace H : (impl_PlayCommands.l0 k2 x1_2 y492 y495 l2 (l2.length : Int) (wrap64 (x28_2 + 1)) a0_0 a0_1 l0_2 l0_3) = some (r1, r2, r3) := by first | (rw [hy495]; with_reducible exact H) | (have H2_ := (Option.bind_some _ _).symm.trans H; rw [hy495]; with_reducible exact H2_) | (have H2_ := (Option.bind_some _ _).symm.trans H; with_reducible exact H2_) | with_reducible exact H | (rw [hy495]; exact H) | exact H
            have Ny495 := am_ hy495
            clear hy495
            have H' := am_ H
            clear H
            have p475 : 0 ≤ (x28_2 : Int) := Sh.od
            have q475 : x28_2 < (l2.length : Int) := Sh.od
            obtain ⟨ad475, e475, hx475_0⟩ := Kd.at_int HR2.out x28_2 p475 q475
            cases e475
            try replace hx475_0 := Sh.cw hx475_0
            replace p475 := eq_true p475
            replace q475 := eq_true q475
            have hcz36_0 := Sh.bc BK467.out 0
            have hcz36_1 := Sh.bc BK467.out 1
            have hcz36_2 := Sh.bc BK467.out 2
            have hcz36_3 := Sh.bc BK467.out 3
            have hfz36_0 := blk_frozen BK467.out 0
            have hfz36_1 := blk_frozen BK467.out 1
            have hfz36_2 := blk_frozen BK467.out 2
            have hfz36_3 := blk_frozen BK467.out 3
            obtain ⟨Ao37, co37, eo37⟩ := Kd.V_slice HO_1.out
            subst eo37
            go_wp2_with (first | ((with_reducible refine Sh.k 30 ?_); refine Sh.gL (some 36) Tryz.func30 #[.agg #[.int .i64 a0_0, .int .i64 a0_1, .slice A0_2 l0_2.length c0_2, .slice A0_3 l0_3.length c0_3], .slice Ao37 x1_2.length co37, .int .i64 (rd l2 x28_2)] (h := ?_); (with_reducible refine (impl_StepBy.calls k2 a0_0 a0_1 _ _ l0_2 _ _ l0_3 _ _ x1_2 (rd l2 x28_2) t476 false _ (Sh.cB HR0_2.out) HC0_2.out (Sh.cB HR0_3.out) HC0_3.out (Sh.cR (Kd.V_reads' HO_1.out).2.2) (Kd.V_reads' HO_1.out).2.1 A20.out).mono ?_); rintro e w38 ⟨v477, rfl, ho0, hb⟩; refine ⟨_, rfl, ?_⟩; replace HO_1 := am_ (Kd.V_elder' (by (with_reducible repeat (first | apply Kd.V_alloc | apply Kd.V_drewN | apply Kd.V_drew)); exact HO_1.out) (Kd.R_base ho0) hb); replace HO_9 := am_ (Kd.S_elder' (by (with_reducible repeat (first | apply Kd.S_alloc | apply Kd.S_drewN | apply Kd.S_drew)); exact HO_9.out) (Kd.R_base ho0) hb); replace HO_10 := am_ (Kd.R_below (Sh.rl HO_10.out) hb); have HO478 := am_ (Kd.R_lower (Kd.R_newM (M := fun k_ => (w.heap.size ≤ k_)) ho0 (below_size Sh.bw) (fun k_ h_ => h_)) (below_size Sh.bw)); replace BK467 := Sh.ab BK467 hb; replace HB := Sh.hb hb; (try clear hb); (try clear hb2); (try clear hk); (try clear hi); (try clear ho0)) | ((with_reducible refine Sh.k 31 ?_); refine Sh.gL (some 43) Tryz.func31 #[.slice Ao37 x1_2.length co37] (h := ?_); (with_reducible refine (slices_Clone_uint64_uint64.calls _ _ x1_2 t489 _ (Sh.cR (Kd.V_reads' HO_1.out).2.2) (Kd.V_reads' HO_1.out).2.1 A33.out).mono ?_); rintro e w39 ⟨v490, rfl, ho0, hb⟩; refine ⟨_, rfl, ?_⟩; replace HO_1 := am_ (Kd.V_elder' (by (with_reducible repeat (first | apply Kd.V_alloc | apply Kd.V_drewN | apply Kd.V_drew)); exact HO_1.out) (Kd.R_base ho0) hb); replace HO_9 := am_ (Kd.S_elder' (by (with_reducible repeat (first | apply Kd.S_alloc | apply Kd.S_drewN | apply Kd.S_drew)); exact HO_9.out) (Kd.R_base ho0) hb); replace HO_10 := am_ (Kd.R_below (Sh.rl HO_10.out) hb); have HO491 := am_ (Kd.R_lower (Kd.R_new' (Kd.R_newM (M := fun k_ => (w.heap.size ≤ k_)) ho0 (below_size Sh.bw) (fun k_ h_ => h_)) (Kd.R_lt (Sh.rl HO478.out))) (below_size Sh.bw)); replace HO478 := am_ (Kd.R_elder' (Sh.rl HO478.out) (Kd.R_base ho0) hb); replace BK467 := Sh.ab BK467 hb; replace HB := Sh.hb hb; (try clear hb); (try clear hb2); (try clear hk); (try clear hi); (try clear ho0); obtain ⟨Ao41, co41, eo41⟩ := Kd.R_slice HO491.out; subst eo41) | ((with_reducible refine gate_builtin (b := .append) (xs := #[.tmp 41, .tmp 44]) rfl ?_); (try (refine gate_guard (by rfl) ?_; dsimp only)); at_builtin; refine Kd.S_append (Kd.slice 59 (Kd.int .u64)) (w0 := w) w.heap.size rfl (.tmp 41) (.tmp 44) 29 26 (.slice none 0 0) 24 rfl Tryz.underlying29 info26 rfl (by decide) (by omega) u9 x9_2 t489 [.slice Ao41 t489.length co41] (fun k_ => (w.heap.size ≤ k_) ∧ some k_ ≠ (v477 : Value).ownBlock) (fun k_ => some k_ = (.slice Ao41 t489.length co41 : Value).ownBlock) rfl rfl ?aP (fun k_ hk_ => ((Kd.R_mono (ok' := fun k_ => ((fun k_ => (w.heap.size ≤ k_) ∧ some k_ ≠ (v477 : Value).ownBlock)) k_ ∧ some k_ ≠ (u9 : Value).ownBlock) (Kd.R_apart' (HO491.out) (Kd.S_typed HO_9.out) (by decide)) (fun k_ h => ⟨⟨h.1.1.1, h.1.2⟩, h.2⟩))).1 k_ hk_.symm) ?aF ?aO ?aB ?aS ?aL ?_; (case aP => exact Kd.M_row (Kd.R_mono (Kd.R_tight rfl (Kd.R_mono (ok' := fun k_ => ((fun k_ => (w.heap.size ≤ k_) ∧ some k_ ≠ (v477 : Value).ownBlock)) k_ ∧ some k_ ≠ (u9 : Value).ownBlock) (Kd.R_apart' (HO491.out) (Kd.S_typed HO_9.out) (by decide)) (fun k_ h => ⟨⟨h.1.1.1, h.1.2⟩, h.2⟩))) (fun _ h_ => h_))); (case aB => exact Sh.bw); (case aF => exact (fun k_ hk => ⟨(Nat.le_trans (below_size Sh.bw) hk), Kd.fresh' (Kd.R_lt (Sh.rl HO478.out)) k_ hk⟩)); (case aO => exact (by (with_reducible repeat (first | apply Kd.S_alloc | apply Kd.S_drewN | apply Kd.S_drew)); exact Kd.S_mono HO_9.out (fun k_ hk => ⟨⟨hk.1.1, hk.1.2⟩, fun e_ => hk.2 e_⟩))); (case aS => exact (below_size Sh.bw)); (case aL => have := LMc34.out; omega); intro v493 w40 ho hb hg hat; rw [← Ny492.out] at ho; have n0_ := am_ (Kd.V_afterv (ok := (fun k_ => (P1_ k_ ∨ w.heap.size ≤ k_) ∧ some k_ ≠ (u10 : Value).ownBlock ∧ some k_ ≠ (v477 : Value).ownBlock ∧ some k_ ≠ (.slice Ao41 t489.length co41 : Value).ownBlock ∧ k_ ≠ gb467)) (by (with_reducible repeat (first | apply Kd.V_alloc | apply Kd.V_drewN | apply Kd.V_drew)); exact Kd.V_mono HO_1.out (fun _ h => ⟨⟨h.1.1.1, h.1.1.2.2.1, h.1.2, h.2, h.1.1.2.2.2⟩, h.1.1.2.1⟩)) hg hat); have n1_ := am_ (Kd.R_over' (Sh.rl HO_10.out) (Kd.S_typed (by (with_reducible repeat (first | apply Kd.S_alloc | apply Kd.S_drewN | apply Kd.S_drew)); exact HO_9.out)) (by decide) hg); have n2_ := am_ (blk_grown (g := gb467) (o := .cells #[.int .i64 a0_0, .int .i64 a0_1, .slice A0_2 l0_2.length c0_2, .slice A0_3 l0_3.length c0_3] 36 (0, 0)) (Sh.pl BK467.out) hg (Kd.S_ne HO_9.out BK467.out (by decide))); have n3_ := am_ (Kd.R_over' (Sh.rl HO478.out) (Kd.S_typed (by (with_reducible repeat (first | apply Kd.S_alloc | apply Kd.S_drewN | apply Kd.S_drew)); exact HO_9.out)) (by decide) hg); have n4_ := am_ hb; have n5_ := am_ ho; clear HO_1; clear HO_10; clear BK467; clear HO478; clear HB; clear HO_9; clear HO491; have HO_1 := n0_; have HO_10 := n1_; have BK467 := n2_; have HO478 := n3_; have HB := n4_; have HO494 := n5_; clear n0_ n1_ n2_ n3_ n4_ n5_; clear ho hb hg hat) | ((with_reducible refine gate_builtin (b := .append) (xs := #[.tmp 46, .tmp 48]) rfl ?_); (try (refine gate_guard (by rfl) ?_; dsimp only)); at_builtin; refine Kd.R_append Kd.bool (w0 := w) w.heap.size rfl (.tmp 46) (.tmp 48) 30 4 (.bool false) 1 rfl Tryz.underlying30 info4 rfl (by decide) (by omega) u10 x10_2 false [.bool false] (fun k_ => (w.heap.size ≤ k_)) (fun _ => False) rfl rfl ?aP (fun _ hk => hk.elim) ?aF ?aO ?aB ?aS ?aL ?_; (case aP => exact rfl); (case aB => exact Sh.bw); (case aF => exact (fun k_ hk => (Nat.le_trans (below_size Sh.bw) hk))); (case aO => exact (Sh.rl HO_10.out)); (case aS => exact (below_size Sh.bw)); (case aL => have := LMc35.out; omega); intro v496 w42 ho hb hg hat; rw [← Ny495.out] at ho; have n0_ := am_ (Kd.V_afterv (ok := (fun k_ => (P1_ k_ ∨ w.heap.size ≤ k_) ∧ some k_ ≠ (v477 : Value).ownBlock ∧ some k_ ≠ (v493 : Value).ownBlock ∧ k_ ≠ gb467)) (by (with_reducible repeat (first | apply Kd.V_alloc | apply Kd.V_drewN | apply Kd.V_drew)); exact Kd.V_mono HO_1.out (fun _ h => ⟨⟨h.1.1, h.1.2.2.1, h.2, h.1.2.2.2.2⟩, h.1.2.1⟩)) hg hat); have n1_ := am_ (blk_grown (g := gb467) (o := .cells #[.int .i64 a0_0, .int .i64 a0_1, .slice A0_2 l0_2.length c0_2, .slice A0_3 l0_3.length c0_3] 36 (0, 0)) (Sh.pl BK467.out) hg (Kd.R_ne HO_10.out BK467.out (by decide))); have n2_ := am_ (Kd.R_over' (Sh.rl HO478.out) (Kd.R_typed (Sh.rl HO_10.out)) (by decide) hg); have n3_ := am_ (Kd.S_over' (by (with_reducible repeat (first | apply Kd.S_alloc | apply Kd.S_drewN | apply Kd.S_drew)); exact HO494.out) (Kd.R_typed (Sh.rl HO_10.out)) (by decide) hg); have n4_ := am_ hb; have n5_ := am_ ho; clear HO_1; clear BK467; clear HO478; clear HO494; clear HB; clear HO_10; have HO_1 := n0_; have BK467 := n1_; have HO478 := n2_; have HO494 := n3_; have HB := n4_; have HO497 := n5_; clear n0_ n1_ n2_ n3_ n4_ n5_; clear ho hb hg hat))
            go_roundg k2
            case measure => have := HJ3.out; have := HK2.out; omega
            case rel => exact ⟨(x1_2), (y492), (y495), (wrap64 (x28_2 + 1)), (Sh.es), H', ⟨by have := HJ3.out; have := HK2.out; omega⟩, ⟨by (with_reducible repeat (first | apply Kd.V_alloc | apply Kd.V_drewN | apply Kd.V_drew)); exact Kd.V_mono HO_1.out (fun _ h => ⟨h.1.1, h.1.2.2.1, h.2, h.1.2.2.2⟩)⟩, ⟨by (with_reducible repeat (first | apply Kd.S_alloc | apply Kd.S_drewN | apply Kd.S_drew)); exact Kd.S_mono HO494.out (fun _ hk => hk.1)⟩, ⟨Sh.rl HO497.out⟩, ⟨by refine Sh.pl ?_; exact BK467.out⟩, ⟨Sh.bw⟩⟩
           ·rw [if_neg c35] at H
            exact absurd H (by simp)
          ·rw [if_neg c34] at H
           exact absurd H (by simp)
        ·rw [if_neg c19] at H
         exact absurd H (by simp)
       ·rw [if_neg c18] at H
        exact absurd H (by simp)
      ·rw [if_neg c17] at H
       have c17b0 := decide_eq_false c17
       clear c17
       simp only [Option.some.injEq, Prod.mk.injEq] at H
       obtain ⟨rfl, rfl, rfl⟩ := H
       go_wp2
       go_ret3
       exact ⟨_, _, by first | rfl | (simp [errW_none, errW_some] <;> rfl) | (simp [*, errW_none, errW_some] <;> rfl), by (with_reducible repeat (first | apply Kd.S_alloc | apply Kd.S_drewN | apply Kd.S_drew)); exact HO_9.out, Sh.rl HO_10.out, Sh.bw⟩
def laws_eqUint64S.l0 : Nat → List Int → List Int → Int → Option (Bool)
 | 0, _, _, _ => none
 | k + 1, x0, x1, x5 => if x5 < (x0.length : Int) then (if 0 ≤ x5 then (if x5 < (x1.length : Int) then (if (rd x0 x5) = (rd x1 x5) then (laws_eqUint64S.l0 k x0 x1 (wrap64 (x5 + 1))) else (some false)) else (none)) else (none)) else (some true)
def laws_eqUint64S.f (k : Nat) (l0 : List Int) (l1 : List Int) : Option (Bool) := if (l0.length : Int) = (l1.length : Int) then (laws_eqUint64S.l0 k l0 l1 0) else (some false)
theorem laws_eqUint64S.mono_l : ∀ k, (∀ y0 y1 y2, LeO (laws_eqUint64S.l0 k y0 y1 y2) (laws_eqUint64S.l0 (k + 1) y0 y1 y2))
 | 0 => fun _ _ _ r h => by simp [laws_eqUint64S.l0] at h
 | k + 1 => by
  have ih0 := laws_eqUint64S.mono_l k
  ·intro y0 y1 y2
   unfold laws_eqUint64S.l0
   repeat' with_reducible first | apply ih0 | exact LeO.refl _ | exact LeO.none _ | apply LeO.ite | refine LeO.bind ?_ fun _ => ?_
theorem laws_eqUint64S.mono : ∀ a0 a1 k, LeO (laws_eqUint64S.f k a0 a1) (laws_eqUint64S.f (k + 1) a0 a1) := by
 intro a0 a1 k
 have ih0 := laws_eqUint64S.mono_l k
 unfold laws_eqUint64S.f
 repeat' with_reducible first | apply ih0 | exact LeO.refl _ | exact LeO.none _ | apply LeO.ite | refine LeO.bind ?_ fun _ => ?_
theorem laws_eqUint64S.calls (k : Nat) (A0 : Option Addr) (c0 : Nat) (l0 : List Int) (A1 : Option Addr) (c1 : Nat) (l1 : List Int) (r : Bool) (w : World) (hr0 : Kd.C (Kd.int .u64) w A0 l0.length l0) (hc0 : l0.length ≤ c0) (hr1 : Kd.C (Kd.int .u64) w A1 l1.length l1) (hc1 : l1.length ≤ c1) (h : laws_eqUint64S.f k l0 l1 = some r) :
  Calls Tryz.prog 13 #[.slice A0 l0.length c0, .slice A1 l1.length c1] w fun e w' => e = .returned (.bool r) ∧ Drawn0 w w' := by
 have HR0 := am_ hr0
 have HC0 := am_ hc0
 clear hr0 hc0
 have HR1 := am_ hr1
 have HC1 := am_ hc1
 clear hr1 hc1
 have H := h
 clear h
 unfold laws_eqUint64S.f at H
 by_cases c3 : (l0.length : Int) = (l1.length : Int)
 ·rw [if_pos c3] at H
  have c3b0 : ((l0.length : Int) == (l1.length : Int)) = true := beq_iff_eq.mpr c3
  have c3b1 : ((l0.length : Int) != (l1.length : Int)) = false := bne_eq_false_iff_eq.mpr c3
  have c3b2 : (l0.length == l1.length) = true := by first | simpa using c3 | (simp at c3 ⊢; omega)
  clear c3
  have H' := am_ H
  clear H
  go_enter Tryz.func13, Tryz.ntmps13
  go_wp2
  repeat (go_quiet (fail); try go_wp2)
  go_loopg [5] k (fun kq v5 w' => ∃ (x5_1 : Int), v5 = .int .i64 x5_1 ∧ Aside0 (laws_eqUint64S.l0 kq l0 l1 x5_1 = some r) ∧ Aside0 (kq ≤ k) ∧ Drawn0 w w')
  case atStart => exact ⟨(0), (Sh.es), H', ⟨Nat.le_refl _⟩, Sh.dr⟩
  case round =>
   clear H'
   obtain ⟨x5_1, rfl, HA, HK1, ⟨m1, rfl⟩⟩ := hrel
   cases gk with
   | zero => exact absurd HA.out (by simp [laws_eqUint64S.l0])
   | succ k1 =>
    have H := HA.out
    clear HA
    simp only [laws_eqUint64S.l0] at H
    by_cases c4 : x5_1 < (l0.length : Int)
    ·rw [if_pos c4] at H
     have c4b0 := decide_eq_true c4
     clear c4
     by_cases c5 : 0 ≤ x5_1
     ·rw [if_pos c5] at H
      have c5b0 := decide_eq_true c5
      clear c5
      by_cases c6 : x5_1 < (l1.length : Int)
      ·rw [if_pos c6] at H
       have c6b0 := decide_eq_true c6
       clear c6
       by_cases c7 : (rd l0 x5_1) = (rd l1 x5_1)
       ·rw [if_pos c7] at H
        have c7b0 : ((rd l0 x5_1) == (rd l1 x5_1)) = true := beq_iff_eq.mpr c7
        have c7b1 : ((rd l0 x5_1) != (rd l1 x5_1)) = false := bne_eq_false_iff_eq.mpr c7
        clear c7
        have H' := am_ H
        clear H
        have p498 : 0 ≤ (x5_1 : Int) := Sh.od
        have q498 : x5_1 < (l0.length : Int) := Sh.od
        obtain ⟨ad498, e498, hx498_0⟩ := Kd.at_int HR0.out x5_1 p498 q498
        cases e498
        replace p498 := eq_true p498
        replace q498 := eq_true q498
        have p499 : 0 ≤ (x5_1 : Int) := Sh.od
        have q499 : x5_1 < (l1.length : Int) := Sh.od
        obtain ⟨ad499, e499, hx499_0⟩ := Kd.at_int HR1.out x5_1 p499 q499
        cases e499
        replace p499 := eq_true p499
        replace q499 := eq_true q499
        go_wp2
        repeat (go_quiet (fail); try go_wp2)
        go_roundg k1
        case measure => have := HK1.out; omega
        case rel => exact ⟨(wrap64 (x5_1 + 1)), (Sh.es), H', ⟨by have := HK1.out; omega⟩, Sh.dr⟩
       ·rw [if_neg c7] at H
        have c7b0 : ((rd l0 x5_1) == (rd l1 x5_1)) = false := beq_eq_false_iff_ne.mpr c7
        have c7b1 : ((rd l0 x5_1) != (rd l1 x5_1)) = true := bne_iff_ne.mpr c7
        obtain rfl := Option.some.inj H
        have p498 : 0 ≤ (x5_1 : Int) := Sh.od
        have q498 : x5_1 < (l0.length : Int) := Sh.od
        obtain ⟨ad498, e498, hx498_0⟩ := Kd.at_int HR0.out x5_1 p498 q498
        cases e498
        replace p498 := eq_true p498
        replace q498 := eq_true q498
        have p499 : 0 ≤ (x5_1 : Int) := Sh.od
        have q499 : x5_1 < (l1.length : Int) := Sh.od
        obtain ⟨ad499, e499, hx499_0⟩ := Kd.at_int HR1.out x5_1 p499 q499
        cases e499
        replace p499 := eq_true p499
        replace q499 := eq_true q499
        go_wp2
        repeat (go_quiet (fail); try go_wp2)
        go_ret
        exact ⟨Sh.es, Sh.dr⟩
      ·rw [if_neg c6] at H
       exact absurd H (by simp)
     ·rw [if_neg c5] at H
      exact absurd H (by simp)
    ·rw [if_neg c4] at H
     have c4b0 := decide_eq_false c4
     clear c4
     obtain rfl := Option.some.inj H
     go_wp2
     repeat (go_quiet (fail); try go_wp2)
     go_ret
     exact ⟨Sh.es, Sh.dr⟩
 ·rw [if_neg c3] at H
  have c3b0 : ((l0.length : Int) == (l1.length : Int)) = false := beq_eq_false_iff_ne.mpr c3
  have c3b1 : ((l0.length : Int) != (l1.length : Int)) = true := bne_iff_ne.mpr c3
  have c3b2 : (l0.length == l1.length) = false := by first | simpa using c3 | (simp at c3 ⊢; omega)
  obtain rfl := Option.some.inj H
  go_enter Tryz.func13, Tryz.ntmps13
  go_wp2
  repeat (go_quiet (fail); try go_wp2)
  go_ret
  exact ⟨Sh.es, Sh.dr⟩
def laws_eqUint64SS.l0 : Nat → List (List Int) → List (List Int) → Int → Option (Bool)
 | 0, _, _, _ => none
 | k + 1, x0, x1, x5 => if x5 < (x0.length : Int) then (if 0 ≤ x5 then (if x5 < (x1.length : Int) then ((laws_eqUint64S.f k (rd_L12 x0 x5) (rd_L12 x1 x5)).bind fun t502 => (if t502 = true then (laws_eqUint64SS.l0 k x0 x1 (wrap64 (x5 + 1))) else (some false))) else (none)) else (none)) else (some true)
def laws_eqUint64SS.f (k : Nat) (l0 : List (List Int)) (l1 : List (List Int)) : Option (Bool) := if (l0.length : Int) = (l1.length : Int) then (laws_eqUint64SS.l0 k l0 l1 0) else (some false)
theorem laws_eqUint64SS.mono_l : ∀ k, (∀ y0 y1 y2, LeO (laws_eqUint64SS.l0 k y0 y1 y2) (laws_eqUint64SS.l0 (k + 1) y0 y1 y2))
 | 0 => fun _ _ _ r h => by simp [laws_eqUint64SS.l0] at h
 | k + 1 => by
  have ih0 := laws_eqUint64SS.mono_l k
  ·intro y0 y1 y2
   unfold laws_eqUint64SS.l0
   repeat' with_reducible first | apply ih0 | apply laws_eqUint64S.mono | exact LeO.refl _ | exact LeO.none _ | apply LeO.ite | refine LeO.bind ?_ fun _ => ?_
theorem laws_eqUint64SS.mono : ∀ a0 a1 k, LeO (laws_eqUint64SS.f k a0 a1) (laws_eqUint64SS.f (k + 1) a0 a1) := by
 intro a0 a1 k
 have ih0 := laws_eqUint64SS.mono_l k
 unfold laws_eqUint64SS.f
 repeat' with_reducible first | apply ih0 | apply laws_eqUint64S.mono | exact LeO.refl _ | exact LeO.none _ | apply LeO.ite | refine LeO.bind ?_ fun _ => ?_
theorem laws_eqUint64SS.calls (k : Nat) (A0 : Option Addr) (c0 : Nat) (l0 : List (List Int)) (A1 : Option Addr) (c1 : Nat) (l1 : List (List Int)) (r : Bool) (w : World) (hr0 : Kd.C (Kd.slice 59 (Kd.int .u64)) w A0 l0.length l0) (hc0 : l0.length ≤ c0) (hr1 : Kd.C (Kd.slice 59 (Kd.int .u64)) w A1 l1.length l1) (hc1 : l1.length ≤ c1) (h : laws_eqUint64SS.f k l0 l1 = some r) :
  Calls Tryz.prog 10 #[.slice A0 l0.length c0, .slice A1 l1.length c1] w fun e w' => e = .returned (.bool r) ∧ Drawn0 w w' := by
 have HR0 := am_ hr0
 have HC0 := am_ hc0
 clear hr0 hc0
 have HR1 := am_ hr1
 have HC1 := am_ hc1
 clear hr1 hc1
 have H := h
 clear h
 unfold laws_eqUint64SS.f at H
 by_cases c3 : (l0.length : Int) = (l1.length : Int)
 ·rw [if_pos c3] at H
  have c3b0 : ((l0.length : Int) == (l1.length : Int)) = true := beq_iff_eq.mpr c3
  have c3b1 : ((l0.length : Int) != (l1.length : Int)) = false := bne_eq_false_iff_eq.mpr c3
  have c3b2 : (l0.length == l1.length) = true := by first | simpa using c3 | (simp at c3 ⊢; omega)
  clear c3
  have H' := am_ H
  clear H
  go_enter Tryz.func10, Tryz.ntmps10
  go_wp2
  repeat (go_quiet (fail); try go_wp2)
  go_loopg [5] k (fun kq v5 w' => ∃ (x5_1 : Int), v5 = .int .i64 x5_1 ∧ Aside0 (laws_eqUint64SS.l0 kq l0 l1 x5_1 = some r) ∧ Aside0 (kq ≤ k) ∧ Drawn0 w w')
  case atStart => exact ⟨(0), (Sh.es), H', ⟨Nat.le_refl _⟩, Sh.dr⟩
  case round =>
   clear H'
   obtain ⟨x5_1, rfl, HA, HK1, ⟨m1, rfl⟩⟩ := hrel
   cases gk with
   | zero => exact absurd HA.out (by simp [laws_eqUint64SS.l0])
   | succ k1 =>
    have H := HA.out
    clear HA
    simp only [laws_eqUint64SS.l0] at H
    by_cases c4 : x5_1 < (l0.length : Int)
    ·rw [if_pos c4] at H
     have c4b0 := decide_eq_true c4
     clear c4
     by_cases c5 : 0 ≤ x5_1
     ·rw [if_pos c5] at H
      have c5b0 := decide_eq_true c5
      clear c5
      by_cases c6 : x5_1 < (l1.length : Int)
      ·rw [if_pos c6] at H
       have c6b0 := decide_eq_true c6
       clear c6
       obtain ⟨t502, A7, H⟩ := Sh.ba H
       by_cases c8 : t502 = true
       ·subst c8
        rw [if_pos rfl] at H
        have H' := am_ H
        clear H
        have p500 : 0 ≤ (x5_1 : Int) := Sh.od
        have q500 : x5_1 < (l0.length : Int) := Sh.od
        obtain ⟨ad500, A500_0, c500_0, e500, hx500_0, hl500_0, hi500_0⟩ := at_L12 HR0.out x5_1 p500 q500
        cases e500
        have HR500_0 := am_ hi500_0
        have HC500_0 := am_ hl500_0
        clear hi500_0 hl500_0
        replace p500 := eq_true p500
        replace q500 := eq_true q500
        have p501 : 0 ≤ (x5_1 : Int) := Sh.od
        have q501 : x5_1 < (l1.length : Int) := Sh.od
        obtain ⟨ad501, A501_0, c501_0, e501, hx501_0, hl501_0, hi501_0⟩ := at_L12 HR1.out x5_1 p501 q501
        cases e501
        have HR501_0 := am_ hi501_0
        have HC501_0 := am_ hl501_0
        clear hi501_0 hl501_0
        replace p501 := eq_true p501
        replace q501 := eq_true q501
        go_wp2_with (first | (go_at_call 13; (with_reducible refine (laws_eqUint64S.calls k1 _ _ (rd_L12 l0 x5_1) _ _ (rd_L12 l1 x5_1) true _ ?side1 ?side2 ?side3 ?side4 A7.out).mono ?_); (case side1 => repeat (first | exact HR500_0.out | (with_reducible first | refine Kd.C_alloc ?_ _ | refine Kd.C_drewN ?_ _ | refine Kd.C_drew ?_))); (case side2 => exact HC500_0.out); (case side3 => repeat (first | exact HR501_0.out | (with_reducible first | refine Kd.C_alloc ?_ _ | refine Kd.C_drewN ?_ _ | refine Kd.C_drew ?_))); (case side4 => exact HC501_0.out); rintro e w' ⟨rfl, ⟨nd, rfl⟩⟩; (try first | exact ⟨rfl, _, World.drewN_drewN _ _ _⟩ | exact ⟨rfl, _, Eq.trans (World.drewN_drewN _ _ _) (congrArg (World.drewN _) (Nat.add_assoc _ _ _))⟩)))
        repeat (go_quiet (first | (go_at_call 13; (with_reducible refine (laws_eqUint64S.calls k1 _ _ (rd_L12 l0 x5_1) _ _ (rd_L12 l1 x5_1) true _ ?side1 ?side2 ?side3 ?side4 A7.out).mono ?_); (case side1 => repeat (first | exact HR500_0.out | (with_reducible first | refine Kd.C_alloc ?_ _ | refine Kd.C_drewN ?_ _ | refine Kd.C_drew ?_))); (case side2 => exact HC500_0.out); (case side3 => repeat (first | exact HR501_0.out | (with_reducible first | refine Kd.C_alloc ?_ _ | refine Kd.C_drewN ?_ _ | refine Kd.C_drew ?_))); (case side4 => exact HC501_0.out); rintro e w' ⟨rfl, ⟨nd, rfl⟩⟩; (try first | exact ⟨rfl, _, World.drewN_drewN _ _ _⟩ | exact ⟨rfl, _, Eq.trans (World.drewN_drewN _ _ _) (congrArg (World.drewN _) (Nat.add_assoc _ _ _))⟩))); try go_wp2_with (first | (go_at_call 13; (with_reducible refine (laws_eqUint64S.calls k1 _ _ (rd_L12 l0 x5_1) _ _ (rd_L12 l1 x5_1) true _ ?side1 ?side2 ?side3 ?side4 A7.out).mono ?_); (case side1 => repeat (first | exact HR500_0.out | (with_reducible first | refine Kd.C_alloc ?_ _ | refine Kd.C_drewN ?_ _ | refine Kd.C_drew ?_))); (case side2 => exact HC500_0.out); (case side3 => repeat (first | exact HR501_0.out | (with_reducible first | refine Kd.C_alloc ?_ _ | refine Kd.C_drewN ?_ _ | refine Kd.C_drew ?_))); (case side4 => exact HC501_0.out); rintro e w' ⟨rfl, ⟨nd, rfl⟩⟩; (try first | exact ⟨rfl, _, World.drewN_drewN _ _ _⟩ | exact ⟨rfl, _, Eq.trans (World.drewN_drewN _ _ _) (congrArg (World.drewN _) (Nat.add_assoc _ _ _))⟩))))
        go_roundg k1
        case measure => have := HK1.out; omega
        case rel => exact ⟨(wrap64 (x5_1 + 1)), (Sh.es), H', ⟨by have := HK1.out; omega⟩, Sh.dr⟩
       ·replace c8 := Bool.eq_false_iff.mpr c8
        subst c8
        rw [Sh.nf] at H
        obtain rfl := Option.some.inj H
        have p500 : 0 ≤ (x5_1 : Int) := Sh.od
        have q500 : x5_1 < (l0.length : Int) := Sh.od
        obtain ⟨ad500, A500_0, c500_0, e500, hx500_0, hl500_0, hi500_0⟩ := at_L12 HR0.out x5_1 p500 q500
        cases e500
        have HR500_0 := am_ hi500_0
        have HC500_0 := am_ hl500_0
        clear hi500_0 hl500_0
        replace p500 := eq_true p500
        replace q500 := eq_true q500
        have p501 : 0 ≤ (x5_1 : Int) := Sh.od
        have q501 : x5_1 < (l1.length : Int) := Sh.od
        obtain ⟨ad501, A501_0, c501_0, e501, hx501_0, hl501_0, hi501_0⟩ := at_L12 HR1.out x5_1 p501 q501
        cases e501
        have HR501_0 := am_ hi501_0
        have HC501_0 := am_ hl501_0
        clear hi501_0 hl501_0
        replace p501 := eq_true p501
        replace q501 := eq_true q501
        go_wp2_with (first | (go_at_call 13; (with_reducible refine (laws_eqUint64S.calls k1 _ _ (rd_L12 l0 x5_1) _ _ (rd_L12 l1 x5_1) false _ ?side1 ?side2 ?side3 ?side4 A7.out).mono ?_); (case side1 => repeat (first | exact HR500_0.out | (with_reducible first | refine Kd.C_alloc ?_ _ | refine Kd.C_drewN ?_ _ | refine Kd.C_drew ?_))); (case side2 => exact HC500_0.out); (case side3 => repeat (first | exact HR501_0.out | (with_reducible first | refine Kd.C_alloc ?_ _ | refine Kd.C_drewN ?_ _ | refine Kd.C_drew ?_))); (case side4 => exact HC501_0.out); rintro e w' ⟨rfl, ⟨nd, rfl⟩⟩; (try first | exact ⟨rfl, _, World.drewN_drewN _ _ _⟩ | exact ⟨rfl, _, Eq.trans (World.drewN_drewN _ _ _) (congrArg (World.drewN _) (Nat.add_assoc _ _ _))⟩)))
        repeat (go_quiet (first | (go_at_call 13; (with_reducible refine (laws_eqUint64S.calls k1 _ _ (rd_L12 l0 x5_1) _ _ (rd_L12 l1 x5_1) false _ ?side1 ?side2 ?side3 ?side4 A7.out).mono ?_); (case side1 => repeat (first | exact HR500_0.out | (with_reducible first | refine Kd.C_alloc ?_ _ | refine Kd.C_drewN ?_ _ | refine Kd.C_drew ?_))); (case side2 => exact HC500_0.out); (case side3 => repeat (first | exact HR501_0.out | (with_reducible first | refine Kd.C_alloc ?_ _ | refine Kd.C_drewN ?_ _ | refine Kd.C_drew ?_))); (case side4 => exact HC501_0.out); rintro e w' ⟨rfl, ⟨nd, rfl⟩⟩; (try first | exact ⟨rfl, _, World.drewN_drewN _ _ _⟩ | exact ⟨rfl, _, Eq.trans (World.drewN_drewN _ _ _) (congrArg (World.drewN _) (Nat.add_assoc _ _ _))⟩))); try go_wp2_with (first | (go_at_call 13; (with_reducible refine (laws_eqUint64S.calls k1 _ _ (rd_L12 l0 x5_1) _ _ (rd_L12 l1 x5_1) false _ ?side1 ?side2 ?side3 ?side4 A7.out).mono ?_); (case side1 => repeat (first | exact HR500_0.out | (with_reducible first | refine Kd.C_alloc ?_ _ | refine Kd.C_drewN ?_ _ | refine Kd.C_drew ?_))); (case side2 => exact HC500_0.out); (case side3 => repeat (first | exact HR501_0.out | (with_reducible first | refine Kd.C_alloc ?_ _ | refine Kd.C_drewN ?_ _ | refine Kd.C_drew ?_))); (case side4 => exact HC501_0.out); rintro e w' ⟨rfl, ⟨nd, rfl⟩⟩; (try first | exact ⟨rfl, _, World.drewN_drewN _ _ _⟩ | exact ⟨rfl, _, Eq.trans (World.drewN_drewN _ _ _) (congrArg (World.drewN _) (Nat.add_assoc _ _ _))⟩))))
        go_ret
        exact ⟨Sh.es, Sh.dr⟩
      ·rw [if_neg c6] at H
       exact absurd H (by simp)
     ·rw [if_neg c5] at H
      exact absurd H (by simp)
    ·rw [if_neg c4] at H
     have c4b0 := decide_eq_false c4
     clear c4
     obtain rfl := Option.some.inj H
     go_wp2
     repeat (go_quiet (fail); try go_wp2)
     go_ret
     exact ⟨Sh.es, Sh.dr⟩
 ·rw [if_neg c3] at H
  have c3b0 : ((l0.length : Int) == (l1.length : Int)) = false := beq_eq_false_iff_ne.mpr c3
  have c3b1 : ((l0.length : Int) != (l1.length : Int)) = true := bne_iff_ne.mpr c3
  have c3b2 : (l0.length == l1.length) = false := by first | simpa using c3 | (simp at c3 ⊢; omega)
  obtain rfl := Option.some.inj H
  go_enter Tryz.func10, Tryz.ntmps10
  go_wp2
  repeat (go_quiet (fail); try go_wp2)
  go_ret
  exact ⟨Sh.es, Sh.dr⟩
def laws_eqBoolS.l0 : Nat → List Bool → List Bool → Int → Option (Bool)
 | 0, _, _, _ => none
 | k + 1, x0, x1, x5 => if x5 < (x0.length : Int) then (if 0 ≤ x5 then (if x5 < (x1.length : Int) then (if ((rdOf false x0 x5) != (rdOf false x1 x5)) = true then (some false) else (laws_eqBoolS.l0 k x0 x1 (wrap64 (x5 + 1)))) else (none)) else (none)) else (some true)
def laws_eqBoolS.f (k : Nat) (l0 : List Bool) (l1 : List Bool) : Option (Bool) := if (l0.length : Int) = (l1.length : Int) then (laws_eqBoolS.l0 k l0 l1 0) else (some false)
theorem laws_eqBoolS.mono_l : ∀ k, (∀ y0 y1 y2, LeO (laws_eqBoolS.l0 k y0 y1 y2) (laws_eqBoolS.l0 (k + 1) y0 y1 y2))
 | 0 => fun _ _ _ r h => by simp [laws_eqBoolS.l0] at h
 | k + 1 => by
  have ih0 := laws_eqBoolS.mono_l k
  ·intro y0 y1 y2
   unfold laws_eqBoolS.l0
   repeat' with_reducible first | apply ih0 | exact LeO.refl _ | exact LeO.none _ | apply LeO.ite | refine LeO.bind ?_ fun _ => ?_
theorem laws_eqBoolS.mono : ∀ a0 a1 k, LeO (laws_eqBoolS.f k a0 a1) (laws_eqBoolS.f (k + 1) a0 a1) := by
 intro a0 a1 k
 have ih0 := laws_eqBoolS.mono_l k
 unfold laws_eqBoolS.f
 repeat' with_reducible first | apply ih0 | exact LeO.refl _ | exact LeO.none _ | apply LeO.ite | refine LeO.bind ?_ fun _ => ?_
theorem laws_eqBoolS.calls (k : Nat) (A0 : Option Addr) (c0 : Nat) (l0 : List Bool) (A1 : Option Addr) (c1 : Nat) (l1 : List Bool) (r : Bool) (w : World) (hr0 : Kd.C Kd.bool w A0 l0.length l0) (hc0 : l0.length ≤ c0) (hr1 : Kd.C Kd.bool w A1 l1.length l1) (hc1 : l1.length ≤ c1) (h : laws_eqBoolS.f k l0 l1 = some r) :
  Calls Tryz.prog 11 #[.slice A0 l0.length c0, .slice A1 l1.length c1] w fun e w' => e = .returned (.bool r) ∧ Drawn0 w w' := by
 have HR0 := am_ hr0
 have HC0 := am_ hc0
 clear hr0 hc0
 have HR1 := am_ hr1
 have HC1 := am_ hc1
 clear hr1 hc1
 have H := h
 clear h
 unfold laws_eqBoolS.f at H
 by_cases c3 : (l0.length : Int) = (l1.length : Int)
 ·rw [if_pos c3] at H
  have c3b0 : ((l0.length : Int) == (l1.length : Int)) = true := beq_iff_eq.mpr c3
  have c3b1 : ((l0.length : Int) != (l1.length : Int)) = false := bne_eq_false_iff_eq.mpr c3
  have c3b2 : (l0.length == l1.length) = true := by first | simpa using c3 | (simp at c3 ⊢; omega)
  clear c3
  have H' := am_ H
  clear H
  go_enter Tryz.func11, Tryz.ntmps11
  go_wp2
  repeat (go_quiet (fail); try go_wp2)
  go_loopg [5] k (fun kq v5 w' => ∃ (x5_1 : Int), v5 = .int .i64 x5_1 ∧ Aside0 (laws_eqBoolS.l0 kq l0 l1 x5_1 = some r) ∧ Aside0 (kq ≤ k) ∧ Drawn0 w w')
  case atStart => exact ⟨(0), (Sh.es), H', ⟨Nat.le_refl _⟩, Sh.dr⟩
  case round =>
   clear H'
   obtain ⟨x5_1, rfl, HA, HK1, ⟨m1, rfl⟩⟩ := hrel
   cases gk with
   | zero => exact absurd HA.out (by simp [laws_eqBoolS.l0])
   | succ k1 =>
    have H := HA.out
    clear HA
    simp only [laws_eqBoolS.l0] at H
    by_cases c4 : x5_1 < (l0.length : Int)
    ·rw [if_pos c4] at H
     have c4b0 := decide_eq_true c4
     clear c4
     by_cases c5 : 0 ≤ x5_1
     ·rw [if_pos c5] at H
      have c5b0 := decide_eq_true c5
      clear c5
      by_cases c6 : x5_1 < (l1.length : Int)
      ·rw [if_pos c6] at H
       have c6b0 := decide_eq_true c6
       clear c6
       by_cases c7 : ((rdOf false l0 x5_1) != (rdOf false l1 x5_1)) = true
       ·rw [if_pos c7] at H
        have c7b0 : ((rdOf false l0 x5_1) != (rdOf false l1 x5_1)) = true := c7
        (try (have c7b1 : decide ((rdOf false l0 x5_1) = (rdOf false l1 x5_1)) = false := by simpa using c7))
        (try (have c7b2 : ((rdOf false l0 x5_1) == (rdOf false l1 x5_1)) = false := by simpa using c7))
        (try (have c7b3 : ¬ ((rdOf false l0 x5_1) = (rdOf false l1 x5_1)) := by simpa using c7))
        clear c7
        obtain rfl := Option.some.inj H
        have p503 : 0 ≤ (x5_1 : Int) := Sh.od
        have q503 : x5_1 < (l0.length : Int) := Sh.od
        obtain ⟨ad503, e503, hx503_0⟩ := Kd.at_bool HR0.out x5_1 p503 q503
        cases e503
        replace p503 := eq_true p503
        replace q503 := eq_true q503
        have p504 : 0 ≤ (x5_1 : Int) := Sh.od
        have q504 : x5_1 < (l1.length : Int) := Sh.od
        obtain ⟨ad504, e504, hx504_0⟩ := Kd.at_bool HR1.out x5_1 p504 q504
        cases e504
        replace p504 := eq_true p504
        replace q504 := eq_true q504
        go_wp2
        repeat (go_quiet (fail); try go_wp2)
        go_ret
        exact ⟨Sh.es, Sh.dr⟩
       ·rw [if_neg c7] at H
        have c7b0 : ((rdOf false l0 x5_1) != (rdOf false l1 x5_1)) = false := by simpa using c7
        (try (have c7b1 : decide ((rdOf false l0 x5_1) = (rdOf false l1 x5_1)) = true := by simpa using c7))
        (try (have c7b2 : ((rdOf false l0 x5_1) == (rdOf false l1 x5_1)) = true := by simpa using c7))
        clear c7
        have H' := am_ H
        clear H
        have p503 : 0 ≤ (x5_1 : Int) := Sh.od
        have q503 : x5_1 < (l0.length : Int) := Sh.od
        obtain ⟨ad503, e503, hx503_0⟩ := Kd.at_bool HR0.out x5_1 p503 q503
        cases e503
        replace p503 := eq_true p503
        replace q503 := eq_true q503
        have p504 : 0 ≤ (x5_1 : Int) := Sh.od
        have q504 : x5_1 < (l1.length : Int) := Sh.od
        obtain ⟨ad504, e504, hx504_0⟩ := Kd.at_bool HR1.out x5_1 p504 q504
        cases e504
        replace p504 := eq_true p504
        replace q504 := eq_true q504
        go_wp2
        repeat (go_quiet (fail); try go_wp2)
        go_roundg k1
        case measure => have := HK1.out; omega
        case rel => exact ⟨(wrap64 (x5_1 + 1)), (Sh.es), H', ⟨by have := HK1.out; omega⟩, Sh.dr⟩
      ·rw [if_neg c6] at H
       exact absurd H (by simp)
     ·rw [if_neg c5] at H
      exact absurd H (by simp)
    ·rw [if_neg c4] at H
     have c4b0 := decide_eq_false c4
     clear c4
     obtain rfl := Option.some.inj H
     go_wp2
     repeat (go_quiet (fail); try go_wp2)
     go_ret
     exact ⟨Sh.es, Sh.dr⟩
 ·rw [if_neg c3] at H
  have c3b0 : ((l0.length : Int) == (l1.length : Int)) = false := beq_eq_false_iff_ne.mpr c3
  have c3b1 : ((l0.length : Int) != (l1.length : Int)) = true := bne_iff_ne.mpr c3
  have c3b2 : (l0.length == l1.length) = false := by first | simpa using c3 | (simp at c3 ⊢; omega)
  obtain rfl := Option.some.inj H
  go_enter Tryz.func11, Tryz.ntmps11
  go_wp2
  repeat (go_quiet (fail); try go_wp2)
  go_ret
  exact ⟨Sh.es, Sh.dr⟩
def laws_eqNode.f (a0_0 : Int) (a0_1 : Int) (a1_0 : Int) (a1_1 : Int) : Option (Bool) := if a0_0 = a1_0 then (if a0_1 = a1_1 then (some true) else (some false)) else (some false)
theorem laws_eqNode.calls (a0_0 : Int) (a0_1 : Int) (a1_0 : Int) (a1_1 : Int) (r : Bool) (w : World) (h : laws_eqNode.f a0_0 a0_1 a1_0 a1_1 = some r) :
  Calls Tryz.prog 52 #[.agg #[.int .i64 a0_0, .int .u64 a0_1], .agg #[.int .i64 a1_0, .int .u64 a1_1]] w fun e w' => e = .returned (.bool r) ∧ Below w.heap.size w w' := by
 have hu80 := Tryz.underlying80
 have HB := am_ (Below.refl w.heap.size w)
 have H := h
 clear h
 unfold laws_eqNode.f at H
 by_cases c3 : a0_0 = a1_0
 ·rw [if_pos c3] at H
  have c3b0 : (a0_0 == a1_0) = true := beq_iff_eq.mpr c3
  have c3b1 : (a0_0 != a1_0) = false := bne_eq_false_iff_eq.mpr c3
  clear c3
  by_cases c4 : a0_1 = a1_1
  ·rw [if_pos c4] at H
   have c4b0 : (a0_1 == a1_1) = true := beq_iff_eq.mpr c4
   have c4b1 : (a0_1 != a1_1) = false := bne_eq_false_iff_eq.mpr c4
   clear c4
   obtain rfl := Option.some.inj H
   go_enter Tryz.func52, Tryz.ntmps52
   go_wp2_with (first | ((with_reducible refine Sh.d 2 ?_); refine Sh.bz w (N := 2) (cs := #[.int .i64 a0_0, .int .u64 a0_1]) (t := 80) (h := ?_); clear HB; intro gb505 w5 BK505 GE505 HB) | ((with_reducible refine Sh.d 3 ?_); refine Sh.bx (N := 3) (cs := #[.int .i64 a1_0, .int .u64 a1_1]) (t := 80) (h := ?_); intro gb506 hg w6 hbox hb; have BK506 := am_ hbox; have GE506 := Sh.ag w hg; replace HB := Sh.hb hb; have NB505_506 := am_ (Sh.nl hg BK505.out); have NB506_505 := am_ (Sh.ng hg BK505.out); replace BK505 := Sh.ab BK505 hb; clear hb hbox hg; have hnb7 := NB505_506.out; have hnc7 := NB506_505.out; obtain ⟨hcz8_0, hcz8_1, hfz8_0, hfz8_1⟩ := Sh.b2 BK505.out; obtain ⟨hcz9_0, hcz9_1, hfz9_0, hfz9_1⟩ := Sh.b2 BK506.out))
   go_ret
   exact ⟨Sh.eR, Sh.bw⟩
  ·rw [if_neg c4] at H
   have c4b0 : (a0_1 == a1_1) = false := beq_eq_false_iff_ne.mpr c4
   have c4b1 : (a0_1 != a1_1) = true := bne_iff_ne.mpr c4
   obtain rfl := Option.some.inj H
   go_enter Tryz.func52, Tryz.ntmps52
   go_wp2_with (first | ((with_reducible refine Sh.d 2 ?_); refine Sh.bz w (N := 2) (cs := #[.int .i64 a0_0, .int .u64 a0_1]) (t := 80) (h := ?_); clear HB; intro gb505 w10 BK505 GE505 HB) | ((with_reducible refine Sh.d 3 ?_); refine Sh.bx (N := 3) (cs := #[.int .i64 a1_0, .int .u64 a1_1]) (t := 80) (h := ?_); intro gb506 hg w11 hbox hb; have BK506 := am_ hbox; have GE506 := Sh.ag w hg; replace HB := Sh.hb hb; have NB505_506 := am_ (Sh.nl hg BK505.out); have NB506_505 := am_ (Sh.ng hg BK505.out); replace BK505 := Sh.ab BK505 hb; clear hb hbox hg; have hnb12 := NB505_506.out; have hnc12 := NB506_505.out; obtain ⟨hcz13_0, hcz13_1, hfz13_0, hfz13_1⟩ := Sh.b2 BK505.out; obtain ⟨hcz14_0, hcz14_1, hfz14_0, hfz14_1⟩ := Sh.b2 BK506.out))
   go_ret
   exact ⟨Sh.eR, Sh.bw⟩
 ·rw [if_neg c3] at H
  have c3b0 : (a0_0 == a1_0) = false := beq_eq_false_iff_ne.mpr c3
  have c3b1 : (a0_0 != a1_0) = true := bne_iff_ne.mpr c3
  obtain rfl := Option.some.inj H
  go_enter Tryz.func52, Tryz.ntmps52
  go_wp2_with (first | ((with_reducible refine Sh.d 2 ?_); refine Sh.bz w (N := 2) (cs := #[.int .i64 a0_0, .int .u64 a0_1]) (t := 80) (h := ?_); clear HB; intro gb505 w15 BK505 GE505 HB) | ((with_reducible refine Sh.d 3 ?_); refine Sh.bx (N := 3) (cs := #[.int .i64 a1_0, .int .u64 a1_1]) (t := 80) (h := ?_); intro gb506 hg w16 hbox hb; have BK506 := am_ hbox; have GE506 := Sh.ag w hg; replace HB := Sh.hb hb; have NB505_506 := am_ (Sh.nl hg BK505.out); have NB506_505 := am_ (Sh.ng hg BK505.out); replace BK505 := Sh.ab BK505 hb; clear hb hbox hg; have hnb17 := NB505_506.out; have hnc17 := NB506_505.out; obtain ⟨hcz18_0, hcz18_1, hfz18_0, hfz18_1⟩ := Sh.b2 BK505.out; obtain ⟨hcz19_0, hcz19_1, hfz19_0, hfz19_1⟩ := Sh.b2 BK506.out))
  go_ret
  exact ⟨Sh.eR, Sh.bw⟩
def laws_eqNodeS.l0 : Nat → List (S80) → List (S80) → Int → Option (Bool)
 | 0, _, _, _ => none
 | k + 1, x0, x1, x5 => if x5 < (x0.length : Int) then (if 0 ≤ x5 then (if x5 < (x1.length : Int) then ((laws_eqNode.f ((rd_T80 x0 x5).f0) ((rd_T80 x0 x5).f1) ((rd_T80 x1 x5).f0) ((rd_T80 x1 x5).f1)).bind fun t509 => (if t509 = true then (laws_eqNodeS.l0 k x0 x1 (wrap64 (x5 + 1))) else (some false))) else (none)) else (none)) else (some true)
def laws_eqNodeS.f (k : Nat) (l0 : List (S80)) (l1 : List (S80)) : Option (Bool) := if (l0.length : Int) = (l1.length : Int) then (laws_eqNodeS.l0 k l0 l1 0) else (some false)
theorem laws_eqNodeS.mono_l : ∀ k, (∀ y0 y1 y2, LeO (laws_eqNodeS.l0 k y0 y1 y2) (laws_eqNodeS.l0 (k + 1) y0 y1 y2))
 | 0 => fun _ _ _ r h => by simp [laws_eqNodeS.l0] at h
 | k + 1 => by
  have ih0 := laws_eqNodeS.mono_l k
  ·intro y0 y1 y2
   unfold laws_eqNodeS.l0
   repeat' with_reducible first | apply ih0 | exact LeO.refl _ | exact LeO.none _ | apply LeO.ite | refine LeO.bind ?_ fun _ => ?_
theorem laws_eqNodeS.mono : ∀ a0 a1 k, LeO (laws_eqNodeS.f k a0 a1) (laws_eqNodeS.f (k + 1) a0 a1) := by
 intro a0 a1 k
 have ih0 := laws_eqNodeS.mono_l k
 unfold laws_eqNodeS.f
 repeat' with_reducible first | apply ih0 | exact LeO.refl _ | exact LeO.none _ | apply LeO.ite | refine LeO.bind ?_ fun _ => ?_
def laws_eqNodeS.T6 : Bool × List (List Nat × List Nat) := (true, [([], []), ([], []), ([0, 1], [0, 1]), ([2], [2]), ([], []), ([], []), ([4, 5], [4, 5]), ([6], [6]), ([3, 7], [3, 7]), ([8], [8])])
def laws_eqNodeS.B6 : List Nat := [0, 0, 3, 7, 0, 0, 48, 112, 255, 511]
theorem laws_eqNodeS.tab6 : rtab .any (opsOf Tryz.f32 6) = laws_eqNodeS.T6 := by kernel_rfl
theorem laws_eqNodeS.bits6 : waitsOk laws_eqNodeS.T6.2 laws_eqNodeS.B6 = true := by kernel_rfl
theorem laws_eqNodeS.calls (k : Nat) (A0 : Option Addr) (c0 : Nat) (l0 : List (S80)) (A1 : Option Addr) (c1 : Nat) (l1 : List (S80)) (r : Bool) (w : World) (hr0 : Kd.C k80 w A0 l0.length l0) (hc0 : l0.length ≤ c0) (hr1 : Kd.C k80 w A1 l1.length l1) (hc1 : l1.length ≤ c1) (h : laws_eqNodeS.f k l0 l1 = some r) :
  Calls Tryz.prog 32 #[.slice A0 l0.length c0, .slice A1 l1.length c1] w fun e w' => e = .returned (.bool r) ∧ Below w.heap.size w w' := by
 have hu80 := Tryz.underlying80
 have HR0 := am_ hr0
 have HC0 := am_ hc0
 clear hr0 hc0
 have HR1 := am_ hr1
 have HC1 := am_ hc1
 clear hr1 hc1
 have HB := am_ (Below.refl w.heap.size w)
 have H := h
 clear h
 unfold laws_eqNodeS.f at H
 by_cases c3 : (l0.length : Int) = (l1.length : Int)
 ·rw [if_pos c3] at H
  have c3b0 : ((l0.length : Int) == (l1.length : Int)) = true := beq_iff_eq.mpr c3
  have c3b1 : ((l0.length : Int) != (l1.length : Int)) = false := bne_eq_false_iff_eq.mpr c3
  have c3b2 : (l0.length == l1.length) = true := by first | simpa using c3 | (simp at c3 ⊢; omega)
  clear c3
  have H' := am_ H
  clear H
  go_enter Tryz.func32, Tryz.ntmps32
  go_wp2
  go_loopg [5] k (fun kq v5 w' => ∃ (x5_1 : Int), v5 = .int .i64 x5_1 ∧ Aside0 (laws_eqNodeS.l0 kq l0 l1 x5_1 = some r) ∧ Aside0 (kq ≤ k) ∧ Aside0 (Below w.heap.size w w'))
  case atStart => exact ⟨(0), (Sh.es), H', ⟨Nat.le_refl _⟩, ⟨Sh.bw⟩⟩
  case round =>
   clear H'
   obtain ⟨x5_1, rfl, HA, HK1, HB⟩ := hrel
   cases gk with
   | zero => exact absurd HA.out (by simp [laws_eqNodeS.l0])
   | succ k1 =>
    have H := HA.out
    clear HA
    simp only [laws_eqNodeS.l0] at H
    by_cases c4 : x5_1 < (l0.length : Int)
    ·rw [if_pos c4] at H
     have c4b0 := decide_eq_true c4
     clear c4
     by_cases c5 : 0 ≤ x5_1
     ·rw [if_pos c5] at H
      have c5b0 := decide_eq_true c5
      clear c5
      by_cases c6 : x5_1 < (l1.length : Int)
      ·rw [if_pos c6] at H
       have c6b0 := decide_eq_true c6
       clear c6
       obtain ⟨t509, A7, H⟩ := Sh.ba H
       by_cases c8 : t509 = true
       ·subst c8
        rw [if_pos rfl] at H
        have H' := am_ H
        clear H
        try go_wp2
        replace HB := am_ (below_drew1 HB.out)
        have p507 : 0 ≤ (x5_1 : Int) := Sh.od
        have q507 : x5_1 < (l0.length : Int) := Sh.od
        obtain ⟨ad507, e507, hx507_0, hx507_1⟩ := at_T80 HR0.out x5_1 p507 q507
        have hw507_1 := hx507_1
        have hw507_0 := hx507_0
        cases e507
        try replace hx507_0 := Sh.cw hx507_0
        try replace hx507_1 := Sh.cw hx507_1
        replace p507 := eq_true p507
        replace q507 := eq_true q507
        have p508 : 0 ≤ (x5_1 : Int) := Sh.od
        have q508 : x5_1 < (l1.length : Int) := Sh.od
        obtain ⟨ad508, e508, hx508_0, hx508_1⟩ := at_T80 HR1.out x5_1 p508 q508
        have hw508_1 := hx508_1
        have hw508_0 := hx508_0
        cases e508
        try replace hx508_0 := Sh.cw hx508_0
        try replace hx508_1 := Sh.cw hx508_1
        replace p508 := eq_true p508
        replace q508 := eq_true q508
        refine start_ (n := 10) (S := fun w' => w'.cell? (ad507.add ((x5_1).toNat * 2)) = some (.int .i64 ((rd_T80 l0 x5_1).f0)) ∧ w'.cell? ⟨(ad507.add ((x5_1).toNat * 2)).block, (ad507.add ((x5_1).toNat * 2)).off + 1, none⟩ = some (.int .u64 ((rd_T80 l0 x5_1).f1)) ∧ w'.cell? (ad508.add ((x5_1).toNat * 2)) = some (.int .i64 ((rd_T80 l1 x5_1).f0)) ∧ w'.cell? ⟨(ad508.add ((x5_1).toNat * 2)).block, (ad508.add ((x5_1).toNat * 2)).off + 1, none⟩ = some (.int .u64 ((rd_T80 l1 x5_1).f1))) (ds := []) (Sh.nm 10 0) (by kernel_rfl) rfl rfl Sh.cs (fun hHeld => ?_); refine with_tabW laws_eqNodeS.tab6 laws_eqNodeS.bits6 (fun HT_ HW_ => ?_)
        generalize wr.drew = w9 at HB hx507_0 hx507_1 hx508_0 hx508_1 hHeld ⊢
        refine Sh.qA 0 ?_; refine Sh.qA 1 ?_; refine Sh.qA 2 ?_; refine Sh.qA 4 ?_; refine Sh.qA 5 ?_; refine Sh.qA 6 ?_; refine Sh.qT 3 hHeld ?_; refine Sh.qT 7 hHeld ?_
        refine Sh.oC 8 Tryz.func52 #[.agg #[.int .i64 ((rd_T80 l0 x5_1).f0), .int .u64 ((rd_T80 l0 x5_1).f1)], .agg #[.int .i64 ((rd_T80 l1 x5_1).f0), .int .u64 ((rd_T80 l1 x5_1).f1)]] fun K hK => ?_
        with_reducible refine (laws_eqNode.calls ((rd_T80 l0 x5_1).f0) ((rd_T80 l0 x5_1).f1) ((rd_T80 l1 x5_1).f0) ((rd_T80 l1 x5_1).f1) true _ A7.out).mono ?_
        rintro e w10 ⟨rfl, hb⟩
        refine ⟨_, rfl, ?_⟩
        replace HB := Sh.hb hb
        (try clear hb)
        (try clear hb2)
        (try clear hk)
        (try clear hi)
        refine Sh.kN hK Sh.cs fun hHeld => ?_
        clear hK K
        refine Sh.qA 9 ?_
        refine done_ (done_of HT_.out (by kernel_rfl)) ?_
        try go_wp2
        go_roundg k1
        case measure => have := HK1.out; omega
        case rel => exact ⟨(wrap64 (x5_1 + 1)), (Sh.es), H', ⟨by have := HK1.out; omega⟩, ⟨Sh.bw⟩⟩
       ·replace c8 := Bool.eq_false_iff.mpr c8
        subst c8
        rw [Sh.nf] at H
        obtain rfl := Option.some.inj H
        try go_wp2
        replace HB := am_ (below_drew1 HB.out)
        have p507 : 0 ≤ (x5_1 : Int) := Sh.od
        have q507 : x5_1 < (l0.length : Int) := Sh.od
        obtain ⟨ad507, e507, hx507_0, hx507_1⟩ := at_T80 HR0.out x5_1 p507 q507
        have hw507_1 := hx507_1
        have hw507_0 := hx507_0
        cases e507
        try replace hx507_0 := Sh.cw hx507_0
        try replace hx507_1 := Sh.cw hx507_1
        replace p507 := eq_true p507
        replace q507 := eq_true q507
        have p508 : 0 ≤ (x5_1 : Int) := Sh.od
        have q508 : x5_1 < (l1.length : Int) := Sh.od
        obtain ⟨ad508, e508, hx508_0, hx508_1⟩ := at_T80 HR1.out x5_1 p508 q508
        have hw508_1 := hx508_1
        have hw508_0 := hx508_0
        cases e508
        try replace hx508_0 := Sh.cw hx508_0
        try replace hx508_1 := Sh.cw hx508_1
        replace p508 := eq_true p508
        replace q508 := eq_true q508
        refine start_ (n := 10) (S := fun w' => w'.cell? (ad507.add ((x5_1).toNat * 2)) = some (.int .i64 ((rd_T80 l0 x5_1).f0)) ∧ w'.cell? ⟨(ad507.add ((x5_1).toNat * 2)).block, (ad507.add ((x5_1).toNat * 2)).off + 1, none⟩ = some (.int .u64 ((rd_T80 l0 x5_1).f1)) ∧ w'.cell? (ad508.add ((x5_1).toNat * 2)) = some (.int .i64 ((rd_T80 l1 x5_1).f0)) ∧ w'.cell? ⟨(ad508.add ((x5_1).toNat * 2)).block, (ad508.add ((x5_1).toNat * 2)).off + 1, none⟩ = some (.int .u64 ((rd_T80 l1 x5_1).f1))) (ds := []) (Sh.nm 10 0) (by kernel_rfl) rfl rfl Sh.cs (fun hHeld => ?_); refine with_tabW laws_eqNodeS.tab6 laws_eqNodeS.bits6 (fun HT_ HW_ => ?_)
        generalize wr.drew = w11 at HB hx507_0 hx507_1 hx508_0 hx508_1 hHeld ⊢
        refine Sh.qA 0 ?_; refine Sh.qA 1 ?_; refine Sh.qA 2 ?_; refine Sh.qA 4 ?_; refine Sh.qA 5 ?_; refine Sh.qA 6 ?_; refine Sh.qT 3 hHeld ?_; refine Sh.qT 7 hHeld ?_
        refine Sh.oC 8 Tryz.func52 #[.agg #[.int .i64 ((rd_T80 l0 x5_1).f0), .int .u64 ((rd_T80 l0 x5_1).f1)], .agg #[.int .i64 ((rd_T80 l1 x5_1).f0), .int .u64 ((rd_T80 l1 x5_1).f1)]] fun K hK => ?_
        with_reducible refine (laws_eqNode.calls ((rd_T80 l0 x5_1).f0) ((rd_T80 l0 x5_1).f1) ((rd_T80 l1 x5_1).f0) ((rd_T80 l1 x5_1).f1) false _ A7.out).mono ?_
        rintro e w12 ⟨rfl, hb⟩
        refine ⟨_, rfl, ?_⟩
        replace HB := Sh.hb hb
        (try clear hb)
        (try clear hb2)
        (try clear hk)
        (try clear hi)
        refine Sh.kN hK Sh.cs fun hHeld => ?_
        clear hK K
        refine Sh.qA 9 ?_
        refine done_ (done_of HT_.out (by kernel_rfl)) ?_
        try go_wp2
        go_ret
        exact ⟨Sh.eR, Sh.bw⟩
      ·rw [if_neg c6] at H
       exact absurd H (by simp)
     ·rw [if_neg c5] at H
      exact absurd H (by simp)
    ·rw [if_neg c4] at H
     have c4b0 := decide_eq_false c4
     clear c4
     obtain rfl := Option.some.inj H
     go_wp2
     go_ret
     exact ⟨Sh.eR, Sh.bw⟩
 ·rw [if_neg c3] at H
  have c3b0 : ((l0.length : Int) == (l1.length : Int)) = false := beq_eq_false_iff_ne.mpr c3
  have c3b1 : ((l0.length : Int) != (l1.length : Int)) = true := bne_iff_ne.mpr c3
  have c3b2 : (l0.length == l1.length) = false := by first | simpa using c3 | (simp at c3 ⊢; omega)
  obtain rfl := Option.some.inj H
  go_enter Tryz.func32, Tryz.ntmps32
  go_wp2
  go_ret
  exact ⟨Sh.eR, Sh.bw⟩
def laws_eqChange.f (k : Nat) (a0_0 : Int) (l0_1 : List (S80)) (a1_0 : Int) (l1_1 : List (S80)) : Option (Bool) := if a0_0 = a1_0 then ((laws_eqNodeS.f k l0_1 l1_1).bind fun t512 => (if t512 = true then (some true) else (some false))) else (some false)
theorem laws_eqChange.mono : ∀ a0 a1 a2 a3 k, LeO (laws_eqChange.f k a0 a1 a2 a3) (laws_eqChange.f (k + 1) a0 a1 a2 a3) := by
 intro a0 a1 a2 a3 k
 unfold laws_eqChange.f
 repeat' with_reducible first | apply laws_eqNodeS.mono | exact LeO.refl _ | exact LeO.none _ | apply LeO.ite | refine LeO.bind ?_ fun _ => ?_
theorem laws_eqChange.calls (k : Nat) (a0_0 : Int) (A0_1 : Option Addr) (c0_1 : Nat) (l0_1 : List (S80)) (a1_0 : Int) (A1_1 : Option Addr) (c1_1 : Nat) (l1_1 : List (S80)) (r : Bool) (w : World) (hr0_1 : Kd.C k80 w A0_1 l0_1.length l0_1) (hc0_1 : l0_1.length ≤ c0_1) (hr1_1 : Kd.C k80 w A1_1 l1_1.length l1_1) (hc1_1 : l1_1.length ≤ c1_1) (h : laws_eqChange.f k a0_0 l0_1 a1_0 l1_1 = some r) :
  Calls Tryz.prog 86 #[.agg #[.int .i64 a0_0, .slice A0_1 l0_1.length c0_1], .agg #[.int .i64 a1_0, .slice A1_1 l1_1.length c1_1]] w fun e w' => e = .returned (.bool r) ∧ Below w.heap.size w w' := by
 have hu94 := Tryz.underlying94
 have HR0_1 := am_ hr0_1
 have HC0_1 := am_ hc0_1
 clear hr0_1 hc0_1
 have HR1_1 := am_ hr1_1
 have HC1_1 := am_ hc1_1
 clear hr1_1 hc1_1
 have HB := am_ (Below.refl w.heap.size w)
 have H := h
 clear h
 unfold laws_eqChange.f at H
 by_cases c3 : a0_0 = a1_0
 ·rw [if_pos c3] at H
  have c3b0 : (a0_0 == a1_0) = true := beq_iff_eq.mpr c3
  have c3b1 : (a0_0 != a1_0) = false := bne_eq_false_iff_eq.mpr c3
  clear c3
  obtain ⟨t512, A4, H⟩ := Sh.ba H
  by_cases c5 : t512 = true
  ·subst c5
   rw [if_pos rfl] at H
   obtain rfl := Option.some.inj H
   go_enter Tryz.func86, Tryz.ntmps86
   go_wp2_with (first | ((with_reducible refine Sh.d 2 ?_); refine Sh.bz w (N := 2) (cs := #[.int .i64 a0_0, .slice A0_1 l0_1.length c0_1]) (t := 94) (h := ?_); clear HB; intro gb510 w6 BK510 GE510 HB) | ((with_reducible refine Sh.d 3 ?_); refine Sh.bx (N := 3) (cs := #[.int .i64 a1_0, .slice A1_1 l1_1.length c1_1]) (t := 94) (h := ?_); intro gb511 hg w7 hbox hb; have BK511 := am_ hbox; have GE511 := Sh.ag w hg; replace HB := Sh.hb hb; have NB510_511 := am_ (Sh.nl hg BK510.out); have NB511_510 := am_ (Sh.ng hg BK510.out); replace BK510 := Sh.ab BK510 hb; clear hb hbox hg; have hnb8 := NB510_511.out; have hnc8 := NB511_510.out; obtain ⟨hcz9_0, hcz9_1, hfz9_0, hfz9_1⟩ := Sh.b2 BK510.out; obtain ⟨hcz10_0, hcz10_1, hfz10_0, hfz10_1⟩ := Sh.b2 BK511.out) | ((with_reducible refine Sh.k 32 ?_); refine Sh.gB (some 14) Tryz.func32 #[.slice A0_1 l0_1.length c0_1, .slice A1_1 l1_1.length c1_1] (laws_eqNodeS.calls k _ _ l0_1 _ _ l1_1 true _ (Sh.cB HR0_1.out) HC0_1.out (Sh.cB HR1_1.out) HC1_1.out A4.out) fun w11 hb => ?_; replace BK510 := Sh.ab BK510 hb; replace BK511 := Sh.ab BK511 hb; replace HB := Sh.hb hb; (try clear hb); (try clear hb2); (try clear hk); (try clear hi)))
   go_ret
   exact ⟨Sh.eR, Sh.bw⟩
  ·replace c5 := Bool.eq_false_iff.mpr c5
   subst c5
   rw [Sh.nf] at H
   obtain rfl := Option.some.inj H
   go_enter Tryz.func86, Tryz.ntmps86
   go_wp2_with (first | ((with_reducible refine Sh.d 2 ?_); refine Sh.bz w (N := 2) (cs := #[.int .i64 a0_0, .slice A0_1 l0_1.length c0_1]) (t := 94) (h := ?_); clear HB; intro gb510 w12 BK510 GE510 HB) | ((with_reducible refine Sh.d 3 ?_); refine Sh.bx (N := 3) (cs := #[.int .i64 a1_0, .slice A1_1 l1_1.length c1_1]) (t := 94) (h := ?_); intro gb511 hg w13 hbox hb; have BK511 := am_ hbox; have GE511 := Sh.ag w hg; replace HB := Sh.hb hb; have NB510_511 := am_ (Sh.nl hg BK510.out); have NB511_510 := am_ (Sh.ng hg BK510.out); replace BK510 := Sh.ab BK510 hb; clear hb hbox hg; have hnb14 := NB510_511.out; have hnc14 := NB511_510.out; obtain ⟨hcz15_0, hcz15_1, hfz15_0, hfz15_1⟩ := Sh.b2 BK510.out; obtain ⟨hcz16_0, hcz16_1, hfz16_0, hfz16_1⟩ := Sh.b2 BK511.out) | ((with_reducible refine Sh.k 32 ?_); refine Sh.gB (some 14) Tryz.func32 #[.slice A0_1 l0_1.length c0_1, .slice A1_1 l1_1.length c1_1] (laws_eqNodeS.calls k _ _ l0_1 _ _ l1_1 false _ (Sh.cB HR0_1.out) HC0_1.out (Sh.cB HR1_1.out) HC1_1.out A4.out) fun w17 hb => ?_; replace BK510 := Sh.ab BK510 hb; replace BK511 := Sh.ab BK511 hb; replace HB := Sh.hb hb; (try clear hb); (try clear hb2); (try clear hk); (try clear hi)))
   go_ret
   exact ⟨Sh.eR, Sh.bw⟩
 ·rw [if_neg c3] at H
  have c3b0 : (a0_0 == a1_0) = false := beq_eq_false_iff_ne.mpr c3
  have c3b1 : (a0_0 != a1_0) = true := bne_iff_ne.mpr c3
  obtain rfl := Option.some.inj H
  go_enter Tryz.func86, Tryz.ntmps86
  go_wp2_with (first | ((with_reducible refine Sh.d 2 ?_); refine Sh.bz w (N := 2) (cs := #[.int .i64 a0_0, .slice A0_1 l0_1.length c0_1]) (t := 94) (h := ?_); clear HB; intro gb510 w18 BK510 GE510 HB) | ((with_reducible refine Sh.d 3 ?_); refine Sh.bx (N := 3) (cs := #[.int .i64 a1_0, .slice A1_1 l1_1.length c1_1]) (t := 94) (h := ?_); intro gb511 hg w19 hbox hb; have BK511 := am_ hbox; have GE511 := Sh.ag w hg; replace HB := Sh.hb hb; have NB510_511 := am_ (Sh.nl hg BK510.out); have NB511_510 := am_ (Sh.ng hg BK510.out); replace BK510 := Sh.ab BK510 hb; clear hb hbox hg; have hnb20 := NB510_511.out; have hnc20 := NB511_510.out; obtain ⟨hcz21_0, hcz21_1, hfz21_0, hfz21_1⟩ := Sh.b2 BK510.out; obtain ⟨hcz22_0, hcz22_1, hfz22_0, hfz22_1⟩ := Sh.b2 BK511.out))
  go_ret
  exact ⟨Sh.eR, Sh.bw⟩
def laws_eqChangeS.l0 : Nat → List (S94) → List (S94) → Int → Option (Bool)
 | 0, _, _, _ => none
 | k + 1, x0, x1, x5 => if x5 < (x0.length : Int) then (if 0 ≤ x5 then (if x5 < (x1.length : Int) then ((laws_eqChange.f k ((rd_T94 x0 x5).f0) ((rd_T94 x0 x5).f1) ((rd_T94 x1 x5).f0) ((rd_T94 x1 x5).f1)).bind fun t515 => (if t515 = true then (laws_eqChangeS.l0 k x0 x1 (wrap64 (x5 + 1))) else (some false))) else (none)) else (none)) else (some true)
def laws_eqChangeS.f (k : Nat) (l0 : List (S94)) (l1 : List (S94)) : Option (Bool) := if (l0.length : Int) = (l1.length : Int) then (laws_eqChangeS.l0 k l0 l1 0) else (some false)
theorem laws_eqChangeS.mono_l : ∀ k, (∀ y0 y1 y2, LeO (laws_eqChangeS.l0 k y0 y1 y2) (laws_eqChangeS.l0 (k + 1) y0 y1 y2))
 | 0 => fun _ _ _ r h => by simp [laws_eqChangeS.l0] at h
 | k + 1 => by
  have ih0 := laws_eqChangeS.mono_l k
  ·intro y0 y1 y2
   unfold laws_eqChangeS.l0
   repeat' with_reducible first | apply ih0 | apply laws_eqChange.mono | exact LeO.refl _ | exact LeO.none _ | apply LeO.ite | refine LeO.bind ?_ fun _ => ?_
theorem laws_eqChangeS.mono : ∀ a0 a1 k, LeO (laws_eqChangeS.f k a0 a1) (laws_eqChangeS.f (k + 1) a0 a1) := by
 intro a0 a1 k
 have ih0 := laws_eqChangeS.mono_l k
 unfold laws_eqChangeS.f
 repeat' with_reducible first | apply ih0 | apply laws_eqChange.mono | exact LeO.refl _ | exact LeO.none _ | apply LeO.ite | refine LeO.bind ?_ fun _ => ?_
def laws_eqChangeS.T6 : Bool × List (List Nat × List Nat) := (true, [([], []), ([], []), ([0, 1], [0, 1]), ([2], [2]), ([], []), ([], []), ([4, 5], [4, 5]), ([6], [6]), ([3, 7], [3, 7]), ([8], [8])])
def laws_eqChangeS.B6 : List Nat := [0, 0, 3, 7, 0, 0, 48, 112, 255, 511]
theorem laws_eqChangeS.tab6 : rtab .any (opsOf Tryz.f71 6) = laws_eqChangeS.T6 := by kernel_rfl
theorem laws_eqChangeS.bits6 : waitsOk laws_eqChangeS.T6.2 laws_eqChangeS.B6 = true := by kernel_rfl
theorem laws_eqChangeS.calls (k : Nat) (A0 : Option Addr) (c0 : Nat) (l0 : List (S94)) (A1 : Option Addr) (c1 : Nat) (l1 : List (S94)) (r : Bool) (w : World) (hr0 : Kd.C k94 w A0 l0.length l0) (hc0 : l0.length ≤ c0) (hr1 : Kd.C k94 w A1 l1.length l1) (hc1 : l1.length ≤ c1) (h : laws_eqChangeS.f k l0 l1 = some r) :
  Calls Tryz.prog 71 #[.slice A0 l0.length c0, .slice A1 l1.length c1] w fun e w' => e = .returned (.bool r) ∧ Below w.heap.size w w' := by
 have hu94 := Tryz.underlying94
 have HR0 := am_ hr0
 have HC0 := am_ hc0
 clear hr0 hc0
 have HR1 := am_ hr1
 have HC1 := am_ hc1
 clear hr1 hc1
 have HB := am_ (Below.refl w.heap.size w)
 have H := h
 clear h
 unfold laws_eqChangeS.f at H
 by_cases c3 : (l0.length : Int) = (l1.length : Int)
 ·rw [if_pos c3] at H
  have c3b0 : ((l0.length : Int) == (l1.length : Int)) = true := beq_iff_eq.mpr c3
  have c3b1 : ((l0.length : Int) != (l1.length : Int)) = false := bne_eq_false_iff_eq.mpr c3
  have c3b2 : (l0.length == l1.length) = true := by first | simpa using c3 | (simp at c3 ⊢; omega)
  clear c3
  have H' := am_ H
  clear H
  go_enter Tryz.func71, Tryz.ntmps71
  go_wp2
  go_loopg [5] k (fun kq v5 w' => ∃ (x5_1 : Int), v5 = .int .i64 x5_1 ∧ Aside0 (laws_eqChangeS.l0 kq l0 l1 x5_1 = some r) ∧ Aside0 (kq ≤ k) ∧ Aside0 (Below w.heap.size w w'))
  case atStart => exact ⟨(0), (Sh.es), H', ⟨Nat.le_refl _⟩, ⟨Sh.bw⟩⟩
  case round =>
   clear H'
   obtain ⟨x5_1, rfl, HA, HK1, HB⟩ := hrel
   cases gk with
   | zero => exact absurd HA.out (by simp [laws_eqChangeS.l0])
   | succ k1 =>
    have H := HA.out
    clear HA
    simp only [laws_eqChangeS.l0] at H
    by_cases c4 : x5_1 < (l0.length : Int)
    ·rw [if_pos c4] at H
     have c4b0 := decide_eq_true c4
     clear c4
     by_cases c5 : 0 ≤ x5_1
     ·rw [if_pos c5] at H
      have c5b0 := decide_eq_true c5
      clear c5
      by_cases c6 : x5_1 < (l1.length : Int)
      ·rw [if_pos c6] at H
       have c6b0 := decide_eq_true c6
       clear c6
       obtain ⟨t515, A7, H⟩ := Sh.ba H
       by_cases c8 : t515 = true
       ·subst c8
        rw [if_pos rfl] at H
        have H' := am_ H
        clear H
        try go_wp2
        replace HB := am_ (below_drew1 HB.out)
        have p513 : 0 ≤ (x5_1 : Int) := Sh.od
        have q513 : x5_1 < (l0.length : Int) := Sh.od
        obtain ⟨ad513, A513_1, c513_1, e513, hx513_0, hx513_1, hl513_1, hi513_1⟩ := at_T94 HR0.out x5_1 p513 q513
        have hw513_1 := hx513_1
        have hw513_0 := hx513_0
        cases e513
        try replace hx513_0 := Sh.cw hx513_0
        try replace hx513_1 := Sh.cw hx513_1
        have HR513_1 := am_ hi513_1
        have HC513_1 := am_ hl513_1
        clear hi513_1 hl513_1
        replace p513 := eq_true p513
        replace q513 := eq_true q513
        have p514 : 0 ≤ (x5_1 : Int) := Sh.od
        have q514 : x5_1 < (l1.length : Int) := Sh.od
        obtain ⟨ad514, A514_1, c514_1, e514, hx514_0, hx514_1, hl514_1, hi514_1⟩ := at_T94 HR1.out x5_1 p514 q514
        have hw514_1 := hx514_1
        have hw514_0 := hx514_0
        cases e514
        try replace hx514_0 := Sh.cw hx514_0
        try replace hx514_1 := Sh.cw hx514_1
        have HR514_1 := am_ hi514_1
        have HC514_1 := am_ hl514_1
        clear hi514_1 hl514_1
        replace p514 := eq_true p514
        replace q514 := eq_true q514
        refine start_ (n := 10) (S := fun w' => w'.cell? (ad513.add ((x5_1).toNat * 2)) = some (.int .i64 ((rd_T94 l0 x5_1).f0)) ∧ w'.cell? ⟨(ad513.add ((x5_1).toNat * 2)).block, (ad513.add ((x5_1).toNat * 2)).off + 1, none⟩ = some (.slice A513_1 ((rd_T94 l0 x5_1).f1).length c513_1) ∧ w'.cell? (ad514.add ((x5_1).toNat * 2)) = some (.int .i64 ((rd_T94 l1 x5_1).f0)) ∧ w'.cell? ⟨(ad514.add ((x5_1).toNat * 2)).block, (ad514.add ((x5_1).toNat * 2)).off + 1, none⟩ = some (.slice A514_1 ((rd_T94 l1 x5_1).f1).length c514_1)) (ds := []) (Sh.nm 10 0) (by kernel_rfl) rfl rfl Sh.cs (fun hHeld => ?_); refine with_tabW laws_eqChangeS.tab6 laws_eqChangeS.bits6 (fun HT_ HW_ => ?_)
        generalize wr.drew = w9 at HB HR513_1 HR514_1 hx513_0 hx513_1 hx514_0 hx514_1 hHeld ⊢
        refine Sh.qA 0 ?_; refine Sh.qA 1 ?_; refine Sh.qA 2 ?_; refine Sh.qA 4 ?_; refine Sh.qA 5 ?_; refine Sh.qA 6 ?_; refine Sh.qT 3 hHeld ?_; refine Sh.qT 7 hHeld ?_
        refine Sh.oC 8 Tryz.func86 #[.agg #[.int .i64 ((rd_T94 l0 x5_1).f0), .slice A513_1 ((rd_T94 l0 x5_1).f1).length c513_1], .agg #[.int .i64 ((rd_T94 l1 x5_1).f0), .slice A514_1 ((rd_T94 l1 x5_1).f1).length c514_1]] fun K hK => ?_
        with_reducible refine (laws_eqChange.calls k1 ((rd_T94 l0 x5_1).f0) _ _ ((rd_T94 l0 x5_1).f1) ((rd_T94 l1 x5_1).f0) _ _ ((rd_T94 l1 x5_1).f1) true _ (Sh.cB HR513_1.out) HC513_1.out (Sh.cB HR514_1.out) HC514_1.out A7.out).mono ?_
        rintro e w10 ⟨rfl, hb⟩
        refine ⟨_, rfl, ?_⟩
        replace HB := Sh.hb hb
        (try clear hb)
        (try clear hb2)
        (try clear hk)
        (try clear hi)
        refine Sh.kN hK Sh.cs fun hHeld => ?_
        clear hK K
        refine Sh.qA 9 ?_
        refine done_ (done_of HT_.out (by kernel_rfl)) ?_
        try go_wp2
        go_roundg k1
        case measure => have := HK1.out; omega
        case rel => exact ⟨(wrap64 (x5_1 + 1)), (Sh.es), H', ⟨by have := HK1.out; omega⟩, ⟨Sh.bw⟩⟩
       ·replace c8 := Bool.eq_false_iff.mpr c8
        subst c8
        rw [Sh.nf] at H
        obtain rfl := Option.some.inj H
        try go_wp2
        replace HB := am_ (below_drew1 HB.out)
        have p513 : 0 ≤ (x5_1 : Int) := Sh.od
        have q513 : x5_1 < (l0.length : Int) := Sh.od
        obtain ⟨ad513, A513_1, c513_1, e513, hx513_0, hx513_1, hl513_1, hi513_1⟩ := at_T94 HR0.out x5_1 p513 q513
        have hw513_1 := hx513_1
        have hw513_0 := hx513_0
        cases e513
        try replace hx513_0 := Sh.cw hx513_0
        try replace hx513_1 := Sh.cw hx513_1
        have HR513_1 := am_ hi513_1
        have HC513_1 := am_ hl513_1
        clear hi513_1 hl513_1
        replace p513 := eq_true p513
        replace q513 := eq_true q513
        have p514 : 0 ≤ (x5_1 : Int) := Sh.od
        have q514 : x5_1 < (l1.length : Int) := Sh.od
        obtain ⟨ad514, A514_1, c514_1, e514, hx514_0, hx514_1, hl514_1, hi514_1⟩ := at_T94 HR1.out x5_1 p514 q514
        have hw514_1 := hx514_1
        have hw514_0 := hx514_0
        cases e514
        try replace hx514_0 := Sh.cw hx514_0
        try replace hx514_1 := Sh.cw hx514_1
        have HR514_1 := am_ hi514_1
        have HC514_1 := am_ hl514_1
        clear hi514_1 hl514_1
        replace p514 := eq_true p514
        replace q514 := eq_true q514
        refine start_ (n := 10) (S := fun w' => w'.cell? (ad513.add ((x5_1).toNat * 2)) = some (.int .i64 ((rd_T94 l0 x5_1).f0)) ∧ w'.cell? ⟨(ad513.add ((x5_1).toNat * 2)).block, (ad513.add ((x5_1).toNat * 2)).off + 1, none⟩ = some (.slice A513_1 ((rd_T94 l0 x5_1).f1).length c513_1) ∧ w'.cell? (ad514.add ((x5_1).toNat * 2)) = some (.int .i64 ((rd_T94 l1 x5_1).f0)) ∧ w'.cell? ⟨(ad514.add ((x5_1).toNat * 2)).block, (ad514.add ((x5_1).toNat * 2)).off + 1, none⟩ = some (.slice A514_1 ((rd_T94 l1 x5_1).f1).length c514_1)) (ds := []) (Sh.nm 10 0) (by kernel_rfl) rfl rfl Sh.cs (fun hHeld => ?_); refine with_tabW laws_eqChangeS.tab6 laws_eqChangeS.bits6 (fun HT_ HW_ => ?_)
        generalize wr.drew = w11 at HB HR513_1 HR514_1 hx513_0 hx513_1 hx514_0 hx514_1 hHeld ⊢
        refine Sh.qA 0 ?_; refine Sh.qA 1 ?_; refine Sh.qA 2 ?_; refine Sh.qA 4 ?_; refine Sh.qA 5 ?_; refine Sh.qA 6 ?_; refine Sh.qT 3 hHeld ?_; refine Sh.qT 7 hHeld ?_
        refine Sh.oC 8 Tryz.func86 #[.agg #[.int .i64 ((rd_T94 l0 x5_1).f0), .slice A513_1 ((rd_T94 l0 x5_1).f1).length c513_1], .agg #[.int .i64 ((rd_T94 l1 x5_1).f0), .slice A514_1 ((rd_T94 l1 x5_1).f1).length c514_1]] fun K hK => ?_
        with_reducible refine (laws_eqChange.calls k1 ((rd_T94 l0 x5_1).f0) _ _ ((rd_T94 l0 x5_1).f1) ((rd_T94 l1 x5_1).f0) _ _ ((rd_T94 l1 x5_1).f1) false _ (Sh.cB HR513_1.out) HC513_1.out (Sh.cB HR514_1.out) HC514_1.out A7.out).mono ?_
        rintro e w12 ⟨rfl, hb⟩
        refine ⟨_, rfl, ?_⟩
        replace HB := Sh.hb hb
        (try clear hb)
        (try clear hb2)
        (try clear hk)
        (try clear hi)
        refine Sh.kN hK Sh.cs fun hHeld => ?_
        clear hK K
        refine Sh.qA 9 ?_
        refine done_ (done_of HT_.out (by kernel_rfl)) ?_
        try go_wp2
        go_ret
        exact ⟨Sh.eR, Sh.bw⟩
      ·rw [if_neg c6] at H
       exact absurd H (by simp)
     ·rw [if_neg c5] at H
      exact absurd H (by simp)
    ·rw [if_neg c4] at H
     have c4b0 := decide_eq_false c4
     clear c4
     obtain rfl := Option.some.inj H
     go_wp2
     go_ret
     exact ⟨Sh.eR, Sh.bw⟩
 ·rw [if_neg c3] at H
  have c3b0 : ((l0.length : Int) == (l1.length : Int)) = false := beq_eq_false_iff_ne.mpr c3
  have c3b1 : ((l0.length : Int) != (l1.length : Int)) = true := bne_iff_ne.mpr c3
  have c3b2 : (l0.length == l1.length) = false := by first | simpa using c3 | (simp at c3 ⊢; omega)
  obtain rfl := Option.some.inj H
  go_enter Tryz.func71, Tryz.ntmps71
  go_wp2
  go_ret
  exact ⟨Sh.eR, Sh.bw⟩
def laws_eqCommand.f (k : Nat) (l0_0 : List (S80)) (l0_1 : List (S94)) (l1_0 : List (S80)) (l1_1 : List (S94)) : Option (Bool) := (laws_eqNodeS.f k l0_0 l1_0).bind fun t518 => (if t518 = true then ((laws_eqChangeS.f k l0_1 l1_1).bind fun t519 => (if t519 = true then (some true) else (some false))) else (some false))
theorem laws_eqCommand.mono : ∀ a0 a1 a2 a3 k, LeO (laws_eqCommand.f k a0 a1 a2 a3) (laws_eqCommand.f (k + 1) a0 a1 a2 a3) := by
 intro a0 a1 a2 a3 k
 unfold laws_eqCommand.f
 repeat' with_reducible first | apply laws_eqChangeS.mono | apply laws_eqNodeS.mono | exact LeO.refl _ | exact LeO.none _ | apply LeO.ite | refine LeO.bind ?_ fun _ => ?_
theorem laws_eqCommand.calls (k : Nat) (A0_0 : Option Addr) (c0_0 : Nat) (l0_0 : List (S80)) (A0_1 : Option Addr) (c0_1 : Nat) (l0_1 : List (S94)) (A1_0 : Option Addr) (c1_0 : Nat) (l1_0 : List (S80)) (A1_1 : Option Addr) (c1_1 : Nat) (l1_1 : List (S94)) (r : Bool) (w : World) (hr0_0 : Kd.C k80 w A0_0 l0_0.length l0_0) (hc0_0 : l0_0.length ≤ c0_0) (hr0_1 : Kd.C k94 w A0_1 l0_1.length l0_1) (hc0_1 : l0_1.length ≤ c0_1) (hr1_0 : Kd.C k80 w A1_0 l1_0.length l1_0) (hc1_0 : l1_0.length ≤ c1_0) (hr1_1 : Kd.C k94 w A1_1 l1_1.length l1_1) (hc1_1 : l1_1.length ≤ c1_1) (h : laws_eqCommand.f k l0_0 l0_1 l1_0 l1_1 = some r) :
  Calls Tryz.prog 53 #[.agg #[.slice A0_0 l0_0.length c0_0, .slice A0_1 l0_1.length c0_1], .agg #[.slice A1_0 l1_0.length c1_0, .slice A1_1 l1_1.length c1_1]] w fun e w' => e = .returned (.bool r) ∧ Below w.heap.size w w' := by
 have hu72 := Tryz.underlying72
 have HR0_0 := am_ hr0_0
 have HC0_0 := am_ hc0_0
 clear hr0_0 hc0_0
 have HR0_1 := am_ hr0_1
 have HC0_1 := am_ hc0_1
 clear hr0_1 hc0_1
 have HR1_0 := am_ hr1_0
 have HC1_0 := am_ hc1_0
 clear hr1_0 hc1_0
 have HR1_1 := am_ hr1_1
 have HC1_1 := am_ hc1_1
 clear hr1_1 hc1_1
 have HB := am_ (Below.refl w.heap.size w)
 have H := h
 clear h
 unfold laws_eqCommand.f at H
 obtain ⟨t518, A3, H⟩ := Sh.ba H
 by_cases c4 : t518 = true
 ·subst c4
  rw [if_pos rfl] at H
  obtain ⟨t519, A5, H⟩ := Sh.ba H
  by_cases c6 : t519 = true
  ·subst c6
   rw [if_pos rfl] at H
   obtain rfl := Option.some.inj H
   go_enter Tryz.func53, Tryz.ntmps53
   go_wp2_with (first | ((with_reducible refine Sh.d 2 ?_); refine Sh.bz w (N := 2) (cs := #[.slice A0_0 l0_0.length c0_0, .slice A0_1 l0_1.length c0_1]) (t := 72) (h := ?_); clear HB; intro gb516 w7 BK516 GE516 HB) | ((with_reducible refine Sh.d 3 ?_); refine Sh.bx (N := 3) (cs := #[.slice A1_0 l1_0.length c1_0, .slice A1_1 l1_1.length c1_1]) (t := 72) (h := ?_); intro gb517 hg w8 hbox hb; have BK517 := am_ hbox; have GE517 := Sh.ag w hg; replace HB := Sh.hb hb; have NB516_517 := am_ (Sh.nl hg BK516.out); have NB517_516 := am_ (Sh.ng hg BK516.out); replace BK516 := Sh.ab BK516 hb; clear hb hbox hg; have hnb9 := NB516_517.out; have hnc9 := NB517_516.out; obtain ⟨hcz10_0, hcz10_1, hfz10_0, hfz10_1⟩ := Sh.b2 BK516.out; obtain ⟨hcz11_0, hcz11_1, hfz11_0, hfz11_1⟩ := Sh.b2 BK517.out) | ((with_reducible refine Sh.k 32 ?_); refine Sh.gB (some 9) Tryz.func32 #[.slice A0_0 l0_0.length c0_0, .slice A1_0 l1_0.length c1_0] (laws_eqNodeS.calls k _ _ l0_0 _ _ l1_0 true _ (Sh.cB HR0_0.out) HC0_0.out (Sh.cB HR1_0.out) HC1_0.out A3.out) fun w12 hb => ?_; replace BK516 := Sh.ab BK516 hb; replace BK517 := Sh.ab BK517 hb; replace HB := Sh.hb hb; (try clear hb); (try clear hb2); (try clear hk); (try clear hi); obtain ⟨hcz13_0, hcz13_1, hfz13_0, hfz13_1⟩ := Sh.b2 BK516.out; obtain ⟨hcz14_0, hcz14_1, hfz14_0, hfz14_1⟩ := Sh.b2 BK517.out) | ((with_reducible refine Sh.k 71 ?_); refine Sh.gB (some 15) Tryz.func71 #[.slice A0_1 l0_1.length c0_1, .slice A1_1 l1_1.length c1_1] (laws_eqChangeS.calls k _ _ l0_1 _ _ l1_1 true _ (Sh.cB HR0_1.out) HC0_1.out (Sh.cB HR1_1.out) HC1_1.out A5.out) fun w15 hb => ?_; replace BK516 := Sh.ab BK516 hb; replace BK517 := Sh.ab BK517 hb; replace HB := Sh.hb hb; (try clear hb); (try clear hb2); (try clear hk); (try clear hi)))
   go_ret
   exact ⟨Sh.eR, Sh.bw⟩
  ·replace c6 := Bool.eq_false_iff.mpr c6
   subst c6
   rw [Sh.nf] at H
   obtain rfl := Option.some.inj H
   go_enter Tryz.func53, Tryz.ntmps53
   go_wp2_with (first | ((with_reducible refine Sh.d 2 ?_); refine Sh.bz w (N := 2) (cs := #[.slice A0_0 l0_0.length c0_0, .slice A0_1 l0_1.length c0_1]) (t := 72) (h := ?_); clear HB; intro gb516 w16 BK516 GE516 HB) | ((with_reducible refine Sh.d 3 ?_); refine Sh.bx (N := 3) (cs := #[.slice A1_0 l1_0.length c1_0, .slice A1_1 l1_1.length c1_1]) (t := 72) (h := ?_); intro gb517 hg w17 hbox hb; have BK517 := am_ hbox; have GE517 := Sh.ag w hg; replace HB := Sh.hb hb; have NB516_517 := am_ (Sh.nl hg BK516.out); have NB517_516 := am_ (Sh.ng hg BK516.out); replace BK516 := Sh.ab BK516 hb; clear hb hbox hg; have hnb18 := NB516_517.out; have hnc18 := NB517_516.out; obtain ⟨hcz19_0, hcz19_1, hfz19_0, hfz19_1⟩ := Sh.b2 BK516.out; obtain ⟨hcz20_0, hcz20_1, hfz20_0, hfz20_1⟩ := Sh.b2 BK517.out) | ((with_reducible refine Sh.k 32 ?_); refine Sh.gB (some 9) Tryz.func32 #[.slice A0_0 l0_0.length c0_0, .slice A1_0 l1_0.length c1_0] (laws_eqNodeS.calls k _ _ l0_0 _ _ l1_0 true _ (Sh.cB HR0_0.out) HC0_0.out (Sh.cB HR1_0.out) HC1_0.out A3.out) fun w21 hb => ?_; replace BK516 := Sh.ab BK516 hb; replace BK517 := Sh.ab BK517 hb; replace HB := Sh.hb hb; (try clear hb); (try clear hb2); (try clear hk); (try clear hi); obtain ⟨hcz22_0, hcz22_1, hfz22_0, hfz22_1⟩ := Sh.b2 BK516.out; obtain ⟨hcz23_0, hcz23_1, hfz23_0, hfz23_1⟩ := Sh.b2 BK517.out) | ((with_reducible refine Sh.k 71 ?_); refine Sh.gB (some 15) Tryz.func71 #[.slice A0_1 l0_1.length c0_1, .slice A1_1 l1_1.length c1_1] (laws_eqChangeS.calls k _ _ l0_1 _ _ l1_1 false _ (Sh.cB HR0_1.out) HC0_1.out (Sh.cB HR1_1.out) HC1_1.out A5.out) fun w24 hb => ?_; replace BK516 := Sh.ab BK516 hb; replace BK517 := Sh.ab BK517 hb; replace HB := Sh.hb hb; (try clear hb); (try clear hb2); (try clear hk); (try clear hi)))
   go_ret
   exact ⟨Sh.eR, Sh.bw⟩
 ·replace c4 := Bool.eq_false_iff.mpr c4
  subst c4
  rw [Sh.nf] at H
  obtain rfl := Option.some.inj H
  go_enter Tryz.func53, Tryz.ntmps53
  go_wp2_with (first | ((with_reducible refine Sh.d 2 ?_); refine Sh.bz w (N := 2) (cs := #[.slice A0_0 l0_0.length c0_0, .slice A0_1 l0_1.length c0_1]) (t := 72) (h := ?_); clear HB; intro gb516 w25 BK516 GE516 HB) | ((with_reducible refine Sh.d 3 ?_); refine Sh.bx (N := 3) (cs := #[.slice A1_0 l1_0.length c1_0, .slice A1_1 l1_1.length c1_1]) (t := 72) (h := ?_); intro gb517 hg w26 hbox hb; have BK517 := am_ hbox; have GE517 := Sh.ag w hg; replace HB := Sh.hb hb; have NB516_517 := am_ (Sh.nl hg BK516.out); have NB517_516 := am_ (Sh.ng hg BK516.out); replace BK516 := Sh.ab BK516 hb; clear hb hbox hg; have hnb27 := NB516_517.out; have hnc27 := NB517_516.out; obtain ⟨hcz28_0, hcz28_1, hfz28_0, hfz28_1⟩ := Sh.b2 BK516.out; obtain ⟨hcz29_0, hcz29_1, hfz29_0, hfz29_1⟩ := Sh.b2 BK517.out) | ((with_reducible refine Sh.k 32 ?_); refine Sh.gB (some 9) Tryz.func32 #[.slice A0_0 l0_0.length c0_0, .slice A1_0 l1_0.length c1_0] (laws_eqNodeS.calls k _ _ l0_0 _ _ l1_0 false _ (Sh.cB HR0_0.out) HC0_0.out (Sh.cB HR1_0.out) HC1_0.out A3.out) fun w30 hb => ?_; replace BK516 := Sh.ab BK516 hb; replace BK517 := Sh.ab BK517 hb; replace HB := Sh.hb hb; (try clear hb); (try clear hb2); (try clear hk); (try clear hi)))
  go_ret
  exact ⟨Sh.eR, Sh.bw⟩
def laws_eqCommandS.l0 : Nat → List (S72) → List (S72) → Int → Option (Bool)
 | 0, _, _, _ => none
 | k + 1, x0, x1, x5 => if x5 < (x0.length : Int) then (if 0 ≤ x5 then (if x5 < (x1.length : Int) then ((laws_eqCommand.f k ((rd_T72 x0 x5).f0) ((rd_T72 x0 x5).f1) ((rd_T72 x1 x5).f0) ((rd_T72 x1 x5).f1)).bind fun t522 => (if t522 = true then (laws_eqCommandS.l0 k x0 x1 (wrap64 (x5 + 1))) else (some false))) else (none)) else (none)) else (some true)
def laws_eqCommandS.f (k : Nat) (l0 : List (S72)) (l1 : List (S72)) : Option (Bool) := if (l0.length : Int) = (l1.length : Int) then (laws_eqCommandS.l0 k l0 l1 0) else (some false)
theorem laws_eqCommandS.mono_l : ∀ k, (∀ y0 y1 y2, LeO (laws_eqCommandS.l0 k y0 y1 y2) (laws_eqCommandS.l0 (k + 1) y0 y1 y2))
 | 0 => fun _ _ _ r h => by simp [laws_eqCommandS.l0] at h
 | k + 1 => by
  have ih0 := laws_eqCommandS.mono_l k
  ·intro y0 y1 y2
   unfold laws_eqCommandS.l0
   repeat' with_reducible first | apply ih0 | apply laws_eqCommand.mono | exact LeO.refl _ | exact LeO.none _ | apply LeO.ite | refine LeO.bind ?_ fun _ => ?_
theorem laws_eqCommandS.mono : ∀ a0 a1 k, LeO (laws_eqCommandS.f k a0 a1) (laws_eqCommandS.f (k + 1) a0 a1) := by
 intro a0 a1 k
 have ih0 := laws_eqCommandS.mono_l k
 unfold laws_eqCommandS.f
 repeat' with_reducible first | apply ih0 | apply laws_eqCommand.mono | exact LeO.refl _ | exact LeO.none _ | apply LeO.ite | refine LeO.bind ?_ fun _ => ?_
def laws_eqCommandS.T6 : Bool × List (List Nat × List Nat) := (true, [([], []), ([], []), ([0, 1], [0, 1]), ([2], [2]), ([], []), ([], []), ([4, 5], [4, 5]), ([6], [6]), ([3, 7], [3, 7]), ([8], [8])])
def laws_eqCommandS.B6 : List Nat := [0, 0, 3, 7, 0, 0, 48, 112, 255, 511]
theorem laws_eqCommandS.tab6 : rtab .any (opsOf Tryz.f33 6) = laws_eqCommandS.T6 := by kernel_rfl
theorem laws_eqCommandS.bits6 : waitsOk laws_eqCommandS.T6.2 laws_eqCommandS.B6 = true := by kernel_rfl
theorem laws_eqCommandS.calls (k : Nat) (A0 : Option Addr) (c0 : Nat) (l0 : List (S72)) (A1 : Option Addr) (c1 : Nat) (l1 : List (S72)) (r : Bool) (w : World) (hr0 : Kd.C k72 w A0 l0.length l0) (hc0 : l0.length ≤ c0) (hr1 : Kd.C k72 w A1 l1.length l1) (hc1 : l1.length ≤ c1) (h : laws_eqCommandS.f k l0 l1 = some r) :
  Calls Tryz.prog 33 #[.slice A0 l0.length c0, .slice A1 l1.length c1] w fun e w' => e = .returned (.bool r) ∧ Below w.heap.size w w' := by
 have hu72 := Tryz.underlying72
 have HR0 := am_ hr0
 have HC0 := am_ hc0
 clear hr0 hc0
 have HR1 := am_ hr1
 have HC1 := am_ hc1
 clear hr1 hc1
 have HB := am_ (Below.refl w.heap.size w)
 have H := h
 clear h
 unfold laws_eqCommandS.f at H
 by_cases c3 : (l0.length : Int) = (l1.length : Int)
 ·rw [if_pos c3] at H
  have c3b0 : ((l0.length : Int) == (l1.length : Int)) = true := beq_iff_eq.mpr c3
  have c3b1 : ((l0.length : Int) != (l1.length : Int)) = false := bne_eq_false_iff_eq.mpr c3
  have c3b2 : (l0.length == l1.length) = true := by first | simpa using c3 | (simp at c3 ⊢; omega)
  clear c3
  have H' := am_ H
  clear H
  go_enter Tryz.func33, Tryz.ntmps33
  go_wp2
  go_loopg [5] k (fun kq v5 w' => ∃ (x5_1 : Int), v5 = .int .i64 x5_1 ∧ Aside0 (laws_eqCommandS.l0 kq l0 l1 x5_1 = some r) ∧ Aside0 (kq ≤ k) ∧ Aside0 (Below w.heap.size w w'))
  case atStart => exact ⟨(0), (Sh.es), H', ⟨Nat.le_refl _⟩, ⟨Sh.bw⟩⟩
  case round =>
   clear H'
   obtain ⟨x5_1, rfl, HA, HK1, HB⟩ := hrel
   cases gk with
   | zero => exact absurd HA.out (by simp [laws_eqCommandS.l0])
   | succ k1 =>
    have H := HA.out
    clear HA
    simp only [laws_eqCommandS.l0] at H
    by_cases c4 : x5_1 < (l0.length : Int)
    ·rw [if_pos c4] at H
     have c4b0 := decide_eq_true c4
     clear c4
     by_cases c5 : 0 ≤ x5_1
     ·rw [if_pos c5] at H
      have c5b0 := decide_eq_true c5
      clear c5
      by_cases c6 : x5_1 < (l1.length : Int)
      ·rw [if_pos c6] at H
       have c6b0 := decide_eq_true c6
       clear c6
       obtain ⟨t522, A7, H⟩ := Sh.ba H
       by_cases c8 : t522 = true
       ·subst c8
        rw [if_pos rfl] at H
        have H' := am_ H
        clear H
        try go_wp2
        replace HB := am_ (below_drew1 HB.out)
        have p520 : 0 ≤ (x5_1 : Int) := Sh.od
        have q520 : x5_1 < (l0.length : Int) := Sh.od
        obtain ⟨ad520, A520_0, c520_0, A520_1, c520_1, e520, hx520_0, hx520_1, hl520_0, hi520_0, hl520_1, hi520_1⟩ := at_T72 HR0.out x5_1 p520 q520
        have hw520_1 := hx520_1
        have hw520_0 := hx520_0
        cases e520
        try replace hx520_0 := Sh.cw hx520_0
        try replace hx520_1 := Sh.cw hx520_1
        have HR520_0 := am_ hi520_0
        have HC520_0 := am_ hl520_0
        clear hi520_0 hl520_0
        have HR520_1 := am_ hi520_1
        have HC520_1 := am_ hl520_1
        clear hi520_1 hl520_1
        replace p520 := eq_true p520
        replace q520 := eq_true q520
        have p521 : 0 ≤ (x5_1 : Int) := Sh.od
        have q521 : x5_1 < (l1.length : Int) := Sh.od
        obtain ⟨ad521, A521_0, c521_0, A521_1, c521_1, e521, hx521_0, hx521_1, hl521_0, hi521_0, hl521_1, hi521_1⟩ := at_T72 HR1.out x5_1 p521 q521
        have hw521_1 := hx521_1
        have hw521_0 := hx521_0
        cases e521
        try replace hx521_0 := Sh.cw hx521_0
        try replace hx521_1 := Sh.cw hx521_1
        have HR521_0 := am_ hi521_0
        have HC521_0 := am_ hl521_0
        clear hi521_0 hl521_0
        have HR521_1 := am_ hi521_1
        have HC521_1 := am_ hl521_1
        clear hi521_1 hl521_1
        replace p521 := eq_true p521
        replace q521 := eq_true q521
        refine start_ (n := 10) (S := fun w' => w'.cell? (ad520.add ((x5_1).toNat * 2)) = some (.slice A520_0 ((rd_T72 l0 x5_1).f0).length c520_0) ∧ w'.cell? ⟨(ad520.add ((x5_1).toNat * 2)).block, (ad520.add ((x5_1).toNat * 2)).off + 1, none⟩ = some (.slice A520_1 ((rd_T72 l0 x5_1).f1).length c520_1) ∧ w'.cell? (ad521.add ((x5_1).toNat * 2)) = some (.slice A521_0 ((rd_T72 l1 x5_1).f0).length c521_0) ∧ w'.cell? ⟨(ad521.add ((x5_1).toNat * 2)).block, (ad521.add ((x5_1).toNat * 2)).off + 1, none⟩ = some (.slice A521_1 ((rd_T72 l1 x5_1).f1).length c521_1)) (ds := []) (Sh.nm 10 0) (by kernel_rfl) rfl rfl Sh.cs (fun hHeld => ?_); refine with_tabW laws_eqCommandS.tab6 laws_eqCommandS.bits6 (fun HT_ HW_ => ?_)
        generalize wr.drew = w9 at HB HR520_0 HR520_1 HR521_0 HR521_1 hx520_0 hx520_1 hx521_0 hx521_1 hHeld ⊢
        refine Sh.qA 0 ?_; refine Sh.qA 1 ?_; refine Sh.qA 2 ?_; refine Sh.qA 4 ?_; refine Sh.qA 5 ?_; refine Sh.qA 6 ?_; refine Sh.qT 3 hHeld ?_; refine Sh.qT 7 hHeld ?_
        refine Sh.oC 8 Tryz.func53 #[.agg #[.slice A520_0 ((rd_T72 l0 x5_1).f0).length c520_0, .slice A520_1 ((rd_T72 l0 x5_1).f1).length c520_1], .agg #[.slice A521_0 ((rd_T72 l1 x5_1).f0).length c521_0, .slice A521_1 ((rd_T72 l1 x5_1).f1).length c521_1]] fun K hK => ?_
        with_reducible refine (laws_eqCommand.calls k1 _ _ ((rd_T72 l0 x5_1).f0) _ _ ((rd_T72 l0 x5_1).f1) _ _ ((rd_T72 l1 x5_1).f0) _ _ ((rd_T72 l1 x5_1).f1) true _ (Sh.cB HR520_0.out) HC520_0.out (Sh.cB HR520_1.out) HC520_1.out (Sh.cB HR521_0.out) HC521_0.out (Sh.cB HR521_1.out) HC521_1.out A7.out).mono ?_
        rintro e w10 ⟨rfl, hb⟩
        refine ⟨_, rfl, ?_⟩
        replace HB := Sh.hb hb
        (try clear hb)
        (try clear hb2)
        (try clear hk)
        (try clear hi)
        refine Sh.kN hK Sh.cs fun hHeld => ?_
        clear hK K
        refine Sh.qA 9 ?_
        refine done_ (done_of HT_.out (by kernel_rfl)) ?_
        try go_wp2
        go_roundg k1
        case measure => have := HK1.out; omega
        case rel => exact ⟨(wrap64 (x5_1 + 1)), (Sh.es), H', ⟨by have := HK1.out; omega⟩, ⟨Sh.bw⟩⟩
       ·replace c8 := Bool.eq_false_iff.mpr c8
        subst c8
        rw [Sh.nf] at H
        obtain rfl := Option.some.inj H
        try go_wp2
        replace HB := am_ (below_drew1 HB.out)
        have p520 : 0 ≤ (x5_1 : Int) := Sh.od
        have q520 : x5_1 < (l0.length : Int) := Sh.od
        obtain ⟨ad520, A520_0, c520_0, A520_1, c520_1, e520, hx520_0, hx520_1, hl520_0, hi520_0, hl520_1, hi520_1⟩ := at_T72 HR0.out x5_1 p520 q520
        have hw520_1 := hx520_1
        have hw520_0 := hx520_0
        cases e520
        try replace hx520_0 := Sh.cw hx520_0
        try replace hx520_1 := Sh.cw hx520_1
        have HR520_0 := am_ hi520_0
        have HC520_0 := am_ hl520_0
        clear hi520_0 hl520_0
        have HR520_1 := am_ hi520_1
        have HC520_1 := am_ hl520_1
        clear hi520_1 hl520_1
        replace p520 := eq_true p520
        replace q520 := eq_true q520
        have p521 : 0 ≤ (x5_1 : Int) := Sh.od
        have q521 : x5_1 < (l1.length : Int) := Sh.od
        obtain ⟨ad521, A521_0, c521_0, A521_1, c521_1, e521, hx521_0, hx521_1, hl521_0, hi521_0, hl521_1, hi521_1⟩ := at_T72 HR1.out x5_1 p521 q521
        have hw521_1 := hx521_1
        have hw521_0 := hx521_0
        cases e521
        try replace hx521_0 := Sh.cw hx521_0
        try replace hx521_1 := Sh.cw hx521_1
        have HR521_0 := am_ hi521_0
        have HC521_0 := am_ hl521_0
        clear hi521_0 hl521_0
        have HR521_1 := am_ hi521_1
        have HC521_1 := am_ hl521_1
        clear hi521_1 hl521_1
        replace p521 := eq_true p521
        replace q521 := eq_true q521
        refine start_ (n := 10) (S := fun w' => w'.cell? (ad520.add ((x5_1).toNat * 2)) = some (.slice A520_0 ((rd_T72 l0 x5_1).f0).length c520_0) ∧ w'.cell? ⟨(ad520.add ((x5_1).toNat * 2)).block, (ad520.add ((x5_1).toNat * 2)).off + 1, none⟩ = some (.slice A520_1 ((rd_T72 l0 x5_1).f1).length c520_1) ∧ w'.cell? (ad521.add ((x5_1).toNat * 2)) = some (.slice A521_0 ((rd_T72 l1 x5_1).f0).length c521_0) ∧ w'.cell? ⟨(ad521.add ((x5_1).toNat * 2)).block, (ad521.add ((x5_1).toNat * 2)).off + 1, none⟩ = some (.slice A521_1 ((rd_T72 l1 x5_1).f1).length c521_1)) (ds := []) (Sh.nm 10 0) (by kernel_rfl) rfl rfl Sh.cs (fun hHeld => ?_); refine with_tabW laws_eqCommandS.tab6 laws_eqCommandS.bits6 (fun HT_ HW_ => ?_)
        generalize wr.drew = w11 at HB HR520_0 HR520_1 HR521_0 HR521_1 hx520_0 hx520_1 hx521_0 hx521_1 hHeld ⊢
        refine Sh.qA 0 ?_; refine Sh.qA 1 ?_; refine Sh.qA 2 ?_; refine Sh.qA 4 ?_; refine Sh.qA 5 ?_; refine Sh.qA 6 ?_; refine Sh.qT 3 hHeld ?_; refine Sh.qT 7 hHeld ?_
        refine Sh.oC 8 Tryz.func53 #[.agg #[.slice A520_0 ((rd_T72 l0 x5_1).f0).length c520_0, .slice A520_1 ((rd_T72 l0 x5_1).f1).length c520_1], .agg #[.slice A521_0 ((rd_T72 l1 x5_1).f0).length c521_0, .slice A521_1 ((rd_T72 l1 x5_1).f1).length c521_1]] fun K hK => ?_
        with_reducible refine (laws_eqCommand.calls k1 _ _ ((rd_T72 l0 x5_1).f0) _ _ ((rd_T72 l0 x5_1).f1) _ _ ((rd_T72 l1 x5_1).f0) _ _ ((rd_T72 l1 x5_1).f1) false _ (Sh.cB HR520_0.out) HC520_0.out (Sh.cB HR520_1.out) HC520_1.out (Sh.cB HR521_0.out) HC521_0.out (Sh.cB HR521_1.out) HC521_1.out A7.out).mono ?_
        rintro e w12 ⟨rfl, hb⟩
        refine ⟨_, rfl, ?_⟩
        replace HB := Sh.hb hb
        (try clear hb)
        (try clear hb2)
        (try clear hk)
        (try clear hi)
        refine Sh.kN hK Sh.cs fun hHeld => ?_
        clear hK K
        refine Sh.qA 9 ?_
        refine done_ (done_of HT_.out (by kernel_rfl)) ?_
        try go_wp2
        go_ret
        exact ⟨Sh.eR, Sh.bw⟩
      ·rw [if_neg c6] at H
       exact absurd H (by simp)
     ·rw [if_neg c5] at H
      exact absurd H (by simp)
    ·rw [if_neg c4] at H
     have c4b0 := decide_eq_false c4
     clear c4
     obtain rfl := Option.some.inj H
     go_wp2
     go_ret
     exact ⟨Sh.eR, Sh.bw⟩
 ·rw [if_neg c3] at H
  have c3b0 : ((l0.length : Int) == (l1.length : Int)) = false := beq_eq_false_iff_ne.mpr c3
  have c3b1 : ((l0.length : Int) != (l1.length : Int)) = true := bne_iff_ne.mpr c3
  have c3b2 : (l0.length == l1.length) = false := by first | simpa using c3 | (simp at c3 ⊢; omega)
  obtain rfl := Option.some.inj H
  go_enter Tryz.func33, Tryz.ntmps33
  go_wp2
  go_ret
  exact ⟨Sh.eR, Sh.bw⟩
def laws_eqProgram.f (k : Nat) (a0_0 : Int) (a0_1 : Int) (l0_2 : List (S80)) (l0_3 : List (S72)) (a1_0 : Int) (a1_1 : Int) (l1_2 : List (S80)) (l1_3 : List (S72)) : Option (Bool) := if a0_0 = a1_0 then (if a0_1 = a1_1 then ((laws_eqNodeS.f k l0_2 l1_2).bind fun t525 => (if t525 = true then ((laws_eqCommandS.f k l0_3 l1_3).bind fun t526 => (if t526 = true then (some true) else (some false))) else (some false))) else (some false)) else (some false)
theorem laws_eqProgram.mono : ∀ a0 a1 a2 a3 a4 a5 a6 a7 k, LeO (laws_eqProgram.f k a0 a1 a2 a3 a4 a5 a6 a7) (laws_eqProgram.f (k + 1) a0 a1 a2 a3 a4 a5 a6 a7) := by
 intro a0 a1 a2 a3 a4 a5 a6 a7 k
 unfold laws_eqProgram.f
 repeat' with_reducible first | apply laws_eqCommandS.mono | apply laws_eqNodeS.mono | exact LeO.refl _ | exact LeO.none _ | apply LeO.ite | refine LeO.bind ?_ fun _ => ?_
theorem laws_eqProgram.calls (k : Nat) (a0_0 : Int) (a0_1 : Int) (A0_2 : Option Addr) (c0_2 : Nat) (l0_2 : List (S80)) (A0_3 : Option Addr) (c0_3 : Nat) (l0_3 : List (S72)) (a1_0 : Int) (a1_1 : Int) (A1_2 : Option Addr) (c1_2 : Nat) (l1_2 : List (S80)) (A1_3 : Option Addr) (c1_3 : Nat) (l1_3 : List (S72)) (r : Bool) (w : World) (hr0_2 : Kd.C k80 w A0_2 l0_2.length l0_2) (hc0_2 : l0_2.length ≤ c0_2) (hr0_3 : Kd.C k72 w A0_3 l0_3.length l0_3) (hc0_3 : l0_3.length ≤ c0_3) (hr1_2 : Kd.C k80 w A1_2 l1_2.length l1_2) (hc1_2 : l1_2.length ≤ c1_2) (hr1_3 : Kd.C k72 w A1_3 l1_3.length l1_3) (hc1_3 : l1_3.length ≤ c1_3) (h : laws_eqProgram.f k a0_0 a0_1 l0_2 l0_3 a1_0 a1_1 l1_2 l1_3 = some r) :
  Calls Tryz.prog 12 #[.agg #[.int .i64 a0_0, .int .i64 a0_1, .slice A0_2 l0_2.length c0_2, .slice A0_3 l0_3.length c0_3], .agg #[.int .i64 a1_0, .int .i64 a1_1, .slice A1_2 l1_2.length c1_2, .slice A1_3 l1_3.length c1_3]] w fun e w' => e = .returned (.bool r) ∧ Below w.heap.size w w' := by
 have hu36 := Tryz.underlying36
 have HR0_2 := am_ hr0_2
 have HC0_2 := am_ hc0_2
 clear hr0_2 hc0_2
 have HR0_3 := am_ hr0_3
 have HC0_3 := am_ hc0_3
 clear hr0_3 hc0_3
 have HR1_2 := am_ hr1_2
 have HC1_2 := am_ hc1_2
 clear hr1_2 hc1_2
 have HR1_3 := am_ hr1_3
 have HC1_3 := am_ hc1_3
 clear hr1_3 hc1_3
 have HB := am_ (Below.refl w.heap.size w)
 have H := h
 clear h
 unfold laws_eqProgram.f at H
 by_cases c3 : a0_0 = a1_0
 ·rw [if_pos c3] at H
  have c3b0 : (a0_0 == a1_0) = true := beq_iff_eq.mpr c3
  have c3b1 : (a0_0 != a1_0) = false := bne_eq_false_iff_eq.mpr c3
  clear c3
  by_cases c4 : a0_1 = a1_1
  ·rw [if_pos c4] at H
   have c4b0 : (a0_1 == a1_1) = true := beq_iff_eq.mpr c4
   have c4b1 : (a0_1 != a1_1) = false := bne_eq_false_iff_eq.mpr c4
   clear c4
   obtain ⟨t525, A5, H⟩ := Sh.ba H
   by_cases c6 : t525 = true
   ·subst c6
    rw [if_pos rfl] at H
    obtain ⟨t526, A7, H⟩ := Sh.ba H
    by_cases c8 : t526 = true
    ·subst c8
     rw [if_pos rfl] at H
     obtain rfl := Option.some.inj H
     go_enter Tryz.func12, Tryz.ntmps12
     go_wp2_with (first | ((with_reducible refine Sh.d 2 ?_); refine Sh.bz w (N := 2) (cs := #[.int .i64 a0_0, .int .i64 a0_1, .slice A0_2 l0_2.length c0_2, .slice A0_3 l0_3.length c0_3]) (t := 36) (h := ?_); clear HB; intro gb523 w9 BK523 GE523 HB) | ((with_reducible refine Sh.d 3 ?_); refine Sh.bx (N := 3) (cs := #[.int .i64 a1_0, .int .i64 a1_1, .slice A1_2 l1_2.length c1_2, .slice A1_3 l1_3.length c1_3]) (t := 36) (h := ?_); intro gb524 hg w10 hbox hb; have BK524 := am_ hbox; have GE524 := Sh.ag w hg; replace HB := Sh.hb hb; have NB523_524 := am_ (Sh.nl hg BK523.out); have NB524_523 := am_ (Sh.ng hg BK523.out); replace BK523 := Sh.ab BK523 hb; clear hb hbox hg; have hnb11 := NB523_524.out; have hnc11 := NB524_523.out; obtain ⟨hcz12_0, hcz12_1, hcz12_2, hcz12_3, hfz12_0, hfz12_1, hfz12_2, hfz12_3⟩ := Sh.b4 BK523.out; obtain ⟨hcz13_0, hcz13_1, hcz13_2, hcz13_3, hfz13_0, hfz13_1, hfz13_2, hfz13_3⟩ := Sh.b4 BK524.out) | ((with_reducible refine Sh.k 32 ?_); refine Sh.gB (some 19) Tryz.func32 #[.slice A0_2 l0_2.length c0_2, .slice A1_2 l1_2.length c1_2] (laws_eqNodeS.calls k _ _ l0_2 _ _ l1_2 true _ (Sh.cB HR0_2.out) HC0_2.out (Sh.cB HR1_2.out) HC1_2.out A5.out) fun w14 hb => ?_; replace BK523 := Sh.ab BK523 hb; replace BK524 := Sh.ab BK524 hb; replace HB := Sh.hb hb; (try clear hb); (try clear hb2); (try clear hk); (try clear hi); obtain ⟨hcz15_0, hcz15_1, hcz15_2, hcz15_3, hfz15_0, hfz15_1, hfz15_2, hfz15_3⟩ := Sh.b4 BK523.out; obtain ⟨hcz16_0, hcz16_1, hcz16_2, hcz16_3, hfz16_0, hfz16_1, hfz16_2, hfz16_3⟩ := Sh.b4 BK524.out) | ((with_reducible refine Sh.k 33 ?_); refine Sh.gB (some 25) Tryz.func33 #[.slice A0_3 l0_3.length c0_3, .slice A1_3 l1_3.length c1_3] (laws_eqCommandS.calls k _ _ l0_3 _ _ l1_3 true _ (Sh.cB HR0_3.out) HC0_3.out (Sh.cB HR1_3.out) HC1_3.out A7.out) fun w17 hb => ?_; replace BK523 := Sh.ab BK523 hb; replace BK524 := Sh.ab BK524 hb; replace HB := Sh.hb hb; (try clear hb); (try clear hb2); (try clear hk); (try clear hi)))
     go_ret
     exact ⟨Sh.eR, Sh.bw⟩
    ·replace c8 := Bool.eq_false_iff.mpr c8
     subst c8
     rw [Sh.nf] at H
     obtain rfl := Option.some.inj H
     go_enter Tryz.func12, Tryz.ntmps12
     go_wp2_with (first | ((with_reducible refine Sh.d 2 ?_); refine Sh.bz w (N := 2) (cs := #[.int .i64 a0_0, .int .i64 a0_1, .slice A0_2 l0_2.length c0_2, .slice A0_3 l0_3.length c0_3]) (t := 36) (h := ?_); clear HB; intro gb523 w18 BK523 GE523 HB) | ((with_reducible refine Sh.d 3 ?_); refine Sh.bx (N := 3) (cs := #[.int .i64 a1_0, .int .i64 a1_1, .slice A1_2 l1_2.length c1_2, .slice A1_3 l1_3.length c1_3]) (t := 36) (h := ?_); intro gb524 hg w19 hbox hb; have BK524 := am_ hbox; have GE524 := Sh.ag w hg; replace HB := Sh.hb hb; have NB523_524 := am_ (Sh.nl hg BK523.out); have NB524_523 := am_ (Sh.ng hg BK523.out); replace BK523 := Sh.ab BK523 hb; clear hb hbox hg; have hnb20 := NB523_524.out; have hnc20 := NB524_523.out; obtain ⟨hcz21_0, hcz21_1, hcz21_2, hcz21_3, hfz21_0, hfz21_1, hfz21_2, hfz21_3⟩ := Sh.b4 BK523.out; obtain ⟨hcz22_0, hcz22_1, hcz22_2, hcz22_3, hfz22_0, hfz22_1, hfz22_2, hfz22_3⟩ := Sh.b4 BK524.out) | ((with_reducible refine Sh.k 32 ?_); refine Sh.gB (some 19) Tryz.func32 #[.slice A0_2 l0_2.length c0_2, .slice A1_2 l1_2.length c1_2] (laws_eqNodeS.calls k _ _ l0_2 _ _ l1_2 true _ (Sh.cB HR0_2.out) HC0_2.out (Sh.cB HR1_2.out) HC1_2.out A5.out) fun w23 hb => ?_; replace BK523 := Sh.ab BK523 hb; replace BK524 := Sh.ab BK524 hb; replace HB := Sh.hb hb; (try clear hb); (try clear hb2); (try clear hk); (try clear hi); obtain ⟨hcz24_0, hcz24_1, hcz24_2, hcz24_3, hfz24_0, hfz24_1, hfz24_2, hfz24_3⟩ := Sh.b4 BK523.out; obtain ⟨hcz25_0, hcz25_1, hcz25_2, hcz25_3, hfz25_0, hfz25_1, hfz25_2, hfz25_3⟩ := Sh.b4 BK524.out) | ((with_reducible refine Sh.k 33 ?_); refine Sh.gB (some 25) Tryz.func33 #[.slice A0_3 l0_3.length c0_3, .slice A1_3 l1_3.length c1_3] (laws_eqCommandS.calls k _ _ l0_3 _ _ l1_3 false _ (Sh.cB HR0_3.out) HC0_3.out (Sh.cB HR1_3.out) HC1_3.out A7.out) fun w26 hb => ?_; replace BK523 := Sh.ab BK523 hb; replace BK524 := Sh.ab BK524 hb; replace HB := Sh.hb hb; (try clear hb); (try clear hb2); (try clear hk); (try clear hi)))
     go_ret
     exact ⟨Sh.eR, Sh.bw⟩
   ·replace c6 := Bool.eq_false_iff.mpr c6
    subst c6
    rw [Sh.nf] at H
    obtain rfl := Option.some.inj H
    go_enter Tryz.func12, Tryz.ntmps12
    go_wp2_with (first | ((with_reducible refine Sh.d 2 ?_); refine Sh.bz w (N := 2) (cs := #[.int .i64 a0_0, .int .i64 a0_1, .slice A0_2 l0_2.length c0_2, .slice A0_3 l0_3.length c0_3]) (t := 36) (h := ?_); clear HB; intro gb523 w27 BK523 GE523 HB) | ((with_reducible refine Sh.d 3 ?_); refine Sh.bx (N := 3) (cs := #[.int .i64 a1_0, .int .i64 a1_1, .slice A1_2 l1_2.length c1_2, .slice A1_3 l1_3.length c1_3]) (t := 36) (h := ?_); intro gb524 hg w28 hbox hb; have BK524 := am_ hbox; have GE524 := Sh.ag w hg; replace HB := Sh.hb hb; have NB523_524 := am_ (Sh.nl hg BK523.out); have NB524_523 := am_ (Sh.ng hg BK523.out); replace BK523 := Sh.ab BK523 hb; clear hb hbox hg; have hnb29 := NB523_524.out; have hnc29 := NB524_523.out; obtain ⟨hcz30_0, hcz30_1, hcz30_2, hcz30_3, hfz30_0, hfz30_1, hfz30_2, hfz30_3⟩ := Sh.b4 BK523.out; obtain ⟨hcz31_0, hcz31_1, hcz31_2, hcz31_3, hfz31_0, hfz31_1, hfz31_2, hfz31_3⟩ := Sh.b4 BK524.out) | ((with_reducible refine Sh.k 32 ?_); refine Sh.gB (some 19) Tryz.func32 #[.slice A0_2 l0_2.length c0_2, .slice A1_2 l1_2.length c1_2] (laws_eqNodeS.calls k _ _ l0_2 _ _ l1_2 false _ (Sh.cB HR0_2.out) HC0_2.out (Sh.cB HR1_2.out) HC1_2.out A5.out) fun w32 hb => ?_; replace BK523 := Sh.ab BK523 hb; replace BK524 := Sh.ab BK524 hb; replace HB := Sh.hb hb; (try clear hb); (try clear hb2); (try clear hk); (try clear hi)))
    go_ret
    exact ⟨Sh.eR, Sh.bw⟩
  ·rw [if_neg c4] at H
   have c4b0 : (a0_1 == a1_1) = false := beq_eq_false_iff_ne.mpr c4
   have c4b1 : (a0_1 != a1_1) = true := bne_iff_ne.mpr c4
   obtain rfl := Option.some.inj H
   go_enter Tryz.func12, Tryz.ntmps12
   go_wp2_with (first | ((with_reducible refine Sh.d 2 ?_); refine Sh.bz w (N := 2) (cs := #[.int .i64 a0_0, .int .i64 a0_1, .slice A0_2 l0_2.length c0_2, .slice A0_3 l0_3.length c0_3]) (t := 36) (h := ?_); clear HB; intro gb523 w33 BK523 GE523 HB) | ((with_reducible refine Sh.d 3 ?_); refine Sh.bx (N := 3) (cs := #[.int .i64 a1_0, .int .i64 a1_1, .slice A1_2 l1_2.length c1_2, .slice A1_3 l1_3.length c1_3]) (t := 36) (h := ?_); intro gb524 hg w34 hbox hb; have BK524 := am_ hbox; have GE524 := Sh.ag w hg; replace HB := Sh.hb hb; have NB523_524 := am_ (Sh.nl hg BK523.out); have NB524_523 := am_ (Sh.ng hg BK523.out); replace BK523 := Sh.ab BK523 hb; clear hb hbox hg; have hnb35 := NB523_524.out; have hnc35 := NB524_523.out; obtain ⟨hcz36_0, hcz36_1, hcz36_2, hcz36_3, hfz36_0, hfz36_1, hfz36_2, hfz36_3⟩ := Sh.b4 BK523.out; obtain ⟨hcz37_0, hcz37_1, hcz37_2, hcz37_3, hfz37_0, hfz37_1, hfz37_2, hfz37_3⟩ := Sh.b4 BK524.out))
   go_ret
   exact ⟨Sh.eR, Sh.bw⟩
 ·rw [if_neg c3] at H
  have c3b0 : (a0_0 == a1_0) = false := beq_eq_false_iff_ne.mpr c3
  have c3b1 : (a0_0 != a1_0) = true := bne_iff_ne.mpr c3
  obtain rfl := Option.some.inj H
  go_enter Tryz.func12, Tryz.ntmps12
  go_wp2_with (first | ((with_reducible refine Sh.d 2 ?_); refine Sh.bz w (N := 2) (cs := #[.int .i64 a0_0, .int .i64 a0_1, .slice A0_2 l0_2.length c0_2, .slice A0_3 l0_3.length c0_3]) (t := 36) (h := ?_); clear HB; intro gb523 w38 BK523 GE523 HB) | ((with_reducible refine Sh.d 3 ?_); refine Sh.bx (N := 3) (cs := #[.int .i64 a1_0, .int .i64 a1_1, .slice A1_2 l1_2.length c1_2, .slice A1_3 l1_3.length c1_3]) (t := 36) (h := ?_); intro gb524 hg w39 hbox hb; have BK524 := am_ hbox; have GE524 := Sh.ag w hg; replace HB := Sh.hb hb; have NB523_524 := am_ (Sh.nl hg BK523.out); have NB524_523 := am_ (Sh.ng hg BK523.out); replace BK523 := Sh.ab BK523 hb; clear hb hbox hg; have hnb40 := NB523_524.out; have hnc40 := NB524_523.out; obtain ⟨hcz41_0, hcz41_1, hcz41_2, hcz41_3, hfz41_0, hfz41_1, hfz41_2, hfz41_3⟩ := Sh.b4 BK523.out; obtain ⟨hcz42_0, hcz42_1, hcz42_2, hcz42_3, hfz42_0, hfz42_1, hfz42_2, hfz42_3⟩ := Sh.b4 BK524.out))
  go_ret
  exact ⟨Sh.eR, Sh.bw⟩
def laws_eqIntS.l0 : Nat → List Int → List Int → Int → Option (Bool)
 | 0, _, _, _ => none
 | k + 1, x0, x1, x5 => if x5 < (x0.length : Int) then (if 0 ≤ x5 then (if x5 < (x1.length : Int) then (if (rd x0 x5) = (rd x1 x5) then (laws_eqIntS.l0 k x0 x1 (wrap64 (x5 + 1))) else (some false)) else (none)) else (none)) else (some true)
def laws_eqIntS.f (k : Nat) (l0 : List Int) (l1 : List Int) : Option (Bool) := if (l0.length : Int) = (l1.length : Int) then (laws_eqIntS.l0 k l0 l1 0) else (some false)
theorem laws_eqIntS.mono_l : ∀ k, (∀ y0 y1 y2, LeO (laws_eqIntS.l0 k y0 y1 y2) (laws_eqIntS.l0 (k + 1) y0 y1 y2))
 | 0 => fun _ _ _ r h => by simp [laws_eqIntS.l0] at h
 | k + 1 => by
  have ih0 := laws_eqIntS.mono_l k
  ·intro y0 y1 y2
   unfold laws_eqIntS.l0
   repeat' with_reducible first | apply ih0 | exact LeO.refl _ | exact LeO.none _ | apply LeO.ite | refine LeO.bind ?_ fun _ => ?_
theorem laws_eqIntS.mono : ∀ a0 a1 k, LeO (laws_eqIntS.f k a0 a1) (laws_eqIntS.f (k + 1) a0 a1) := by
 intro a0 a1 k
 have ih0 := laws_eqIntS.mono_l k
 unfold laws_eqIntS.f
 repeat' with_reducible first | apply ih0 | exact LeO.refl _ | exact LeO.none _ | apply LeO.ite | refine LeO.bind ?_ fun _ => ?_
theorem laws_eqIntS.calls (k : Nat) (A0 : Option Addr) (c0 : Nat) (l0 : List Int) (A1 : Option Addr) (c1 : Nat) (l1 : List Int) (r : Bool) (w : World) (hr0 : Kd.C (Kd.int .i64) w A0 l0.length l0) (hc0 : l0.length ≤ c0) (hr1 : Kd.C (Kd.int .i64) w A1 l1.length l1) (hc1 : l1.length ≤ c1) (h : laws_eqIntS.f k l0 l1 = some r) :
  Calls Tryz.prog 14 #[.slice A0 l0.length c0, .slice A1 l1.length c1] w fun e w' => e = .returned (.bool r) ∧ Drawn0 w w' := by
 have HR0 := am_ hr0
 have HC0 := am_ hc0
 clear hr0 hc0
 have HR1 := am_ hr1
 have HC1 := am_ hc1
 clear hr1 hc1
 have H := h
 clear h
 unfold laws_eqIntS.f at H
 by_cases c3 : (l0.length : Int) = (l1.length : Int)
 ·rw [if_pos c3] at H
  have c3b0 : ((l0.length : Int) == (l1.length : Int)) = true := beq_iff_eq.mpr c3
  have c3b1 : ((l0.length : Int) != (l1.length : Int)) = false := bne_eq_false_iff_eq.mpr c3
  have c3b2 : (l0.length == l1.length) = true := by first | simpa using c3 | (simp at c3 ⊢; omega)
  clear c3
  have H' := am_ H
  clear H
  go_enter Tryz.func14, Tryz.ntmps14
  go_wp2
  repeat (go_quiet (fail); try go_wp2)
  go_loopg [5] k (fun kq v5 w' => ∃ (x5_1 : Int), v5 = .int .i64 x5_1 ∧ Aside0 (laws_eqIntS.l0 kq l0 l1 x5_1 = some r) ∧ Aside0 (kq ≤ k) ∧ Drawn0 w w')
  case atStart => exact ⟨(0), (Sh.es), H', ⟨Nat.le_refl _⟩, Sh.dr⟩
  case round =>
   clear H'
   obtain ⟨x5_1, rfl, HA, HK1, ⟨m1, rfl⟩⟩ := hrel
   cases gk with
   | zero => exact absurd HA.out (by simp [laws_eqIntS.l0])
   | succ k1 =>
    have H := HA.out
    clear HA
    simp only [laws_eqIntS.l0] at H
    by_cases c4 : x5_1 < (l0.length : Int)
    ·rw [if_pos c4] at H
     have c4b0 := decide_eq_true c4
     clear c4
     by_cases c5 : 0 ≤ x5_1
     ·rw [if_pos c5] at H
      have c5b0 := decide_eq_true c5
      clear c5
      by_cases c6 : x5_1 < (l1.length : Int)
      ·rw [if_pos c6] at H
       have c6b0 := decide_eq_true c6
       clear c6
       by_cases c7 : (rd l0 x5_1) = (rd l1 x5_1)
       ·rw [if_pos c7] at H
        have c7b0 : ((rd l0 x5_1) == (rd l1 x5_1)) = true := beq_iff_eq.mpr c7
        have c7b1 : ((rd l0 x5_1) != (rd l1 x5_1)) = false := bne_eq_false_iff_eq.mpr c7
        clear c7
        have H' := am_ H
        clear H
        have p527 : 0 ≤ (x5_1 : Int) := Sh.od
        have q527 : x5_1 < (l0.length : Int) := Sh.od
        obtain ⟨ad527, e527, hx527_0⟩ := Kd.at_int HR0.out x5_1 p527 q527
        cases e527
        replace p527 := eq_true p527
        replace q527 := eq_true q527
        have p528 : 0 ≤ (x5_1 : Int) := Sh.od
        have q528 : x5_1 < (l1.length : Int) := Sh.od
        obtain ⟨ad528, e528, hx528_0⟩ := Kd.at_int HR1.out x5_1 p528 q528
        cases e528
        replace p528 := eq_true p528
        replace q528 := eq_true q528
        go_wp2
        repeat (go_quiet (fail); try go_wp2)
        go_roundg k1
        case measure => have := HK1.out; omega
        case rel => exact ⟨(wrap64 (x5_1 + 1)), (Sh.es), H', ⟨by have := HK1.out; omega⟩, Sh.dr⟩
       ·rw [if_neg c7] at H
        have c7b0 : ((rd l0 x5_1) == (rd l1 x5_1)) = false := beq_eq_false_iff_ne.mpr c7
        have c7b1 : ((rd l0 x5_1) != (rd l1 x5_1)) = true := bne_iff_ne.mpr c7
        obtain rfl := Option.some.inj H
        have p527 : 0 ≤ (x5_1 : Int) := Sh.od
        have q527 : x5_1 < (l0.length : Int) := Sh.od
        obtain ⟨ad527, e527, hx527_0⟩ := Kd.at_int HR0.out x5_1 p527 q527
        cases e527
        replace p527 := eq_true p527
        replace q527 := eq_true q527
        have p528 : 0 ≤ (x5_1 : Int) := Sh.od
        have q528 : x5_1 < (l1.length : Int) := Sh.od
        obtain ⟨ad528, e528, hx528_0⟩ := Kd.at_int HR1.out x5_1 p528 q528
        cases e528
        replace p528 := eq_true p528
        replace q528 := eq_true q528
        go_wp2
        repeat (go_quiet (fail); try go_wp2)
        go_ret
        exact ⟨Sh.es, Sh.dr⟩
      ·rw [if_neg c6] at H
       exact absurd H (by simp)
     ·rw [if_neg c5] at H
      exact absurd H (by simp)
    ·rw [if_neg c4] at H
     have c4b0 := decide_eq_false c4
     clear c4
     obtain rfl := Option.some.inj H
     go_wp2
     repeat (go_quiet (fail); try go_wp2)
     go_ret
     exact ⟨Sh.es, Sh.dr⟩
 ·rw [if_neg c3] at H
  have c3b0 : ((l0.length : Int) == (l1.length : Int)) = false := beq_eq_false_iff_ne.mpr c3
  have c3b1 : ((l0.length : Int) != (l1.length : Int)) = true := bne_iff_ne.mpr c3
  have c3b2 : (l0.length == l1.length) = false := by first | simpa using c3 | (simp at c3 ⊢; omega)
  obtain rfl := Option.some.inj H
  go_enter Tryz.func14, Tryz.ntmps14
  go_wp2
  repeat (go_quiet (fail); try go_wp2)
  go_ret
  exact ⟨Sh.es, Sh.dr⟩
/-- What marking may have written: no block beyond P; each block keeps its type and its size; the rows that lead to rows keep what leads there. -/
def MkRel (P : Nat → Prop) (w w' : World) : Prop :=
 Kept w w' P ∧ ∀ (k : Nat) (cur : Array Value) (e : TypeId) (fr : Nat × Nat), w.heap[k]? = some (.cells cur e fr) → ∃ cur' : Array Value, w'.heap[k]? = some (.cells cur' e fr) ∧ cur'.size = cur.size ∧ (e = 72 → cur' = cur) ∧ (e = 94 → ∀ j, cur'[2 * j + 1]? = cur[2 * j + 1]?)
theorem MkRel.refl (P : Nat → Prop) (w : World) : MkRel P w w := ⟨Kept.refl w P, fun k cur e fr h => ⟨cur, h, rfl, fun _ => rfl, fun _ _ => rfl⟩⟩
theorem MkRel.trans {P : Nat → Prop} {a b c : World} (h : MkRel P a b) (h' : MkRel P b c) : MkRel P a c :=
 ⟨h.1.then_ h'.1 (fun _ hk => .inl hk), fun k cur e fr hc => by
  obtain ⟨c1, h1, s1, t1, u1⟩ := h.2 k cur e fr hc
  obtain ⟨c2, h2, s2, t2, u2⟩ := h'.2 k c1 e fr h1
  exact ⟨c2, h2, s2.trans s1, fun he => (t2 he).trans (t1 he), fun he j => (u2 he j).trans (u1 he j)⟩⟩
theorem MkRel.set {P : Nat → Prop} {w : World} {g i : Nat} {cur : Array Value} {e : TypeId} (h : w.heap[g]? = some (.cells cur e (0, 0))) (hP : P g) (he : e ≠ 72) (hi : e = 94 → ∃ j, i = 2 * j) (u : Value) : MkRel P w (w.setCell ⟨g, i, none⟩ u) := by
 refine ⟨(Kept.refl w P).setCell (.inl hP) u, fun k c e' fr hc => ?_⟩
 by_cases hk : k = g
 ·subst hk
  rw [h] at hc
  injection hc with hc
  injection hc with h1 h2 h3
  subst h1; subst h2; subst h3
  refine ⟨_, blk_set h i u, by simp, fun h72 => absurd h72 he, fun h94 j => ?_⟩
  obtain ⟨q, rfl⟩ := hi h94
  rw [Array.getElem?_setIfInBounds]
  rw [if_neg (by omega)]
 ·exact ⟨c, (Below.heap_setCell w _ u k hk).trans hc, rfl, fun _ => rfl, fun _ _ => rfl⟩
theorem MkRel.of_below {P : Nat → Prop} {w w' : World} (h : Below w.heap.size w w') : MkRel P w w' :=
 ⟨Kept.of_below h P, fun k cur e fr hc => ⟨cur, (h.block k (blk_lt hc)).trans hc, rfl, fun _ => rfl, fun _ _ => rfl⟩⟩
def Blk (e : TypeId) (W : World) (P : Nat → Prop) (base : Nat) (v : Value) (n : Nat) (I : Array Value → Prop) : Prop :=
 n ≤ 9223372036854775807 ∧ ((n = 0 ∧ v = .slice none 0 0) ∨ ∃ g cap cur, v = .slice (some ⟨g, 0, none⟩) n cap ∧ P g ∧ base ≤ g ∧ W.heap[g]? = some (.cells cur e (0, 0)) ∧ n ≤ cap ∧ cur.size = cap * 2 ∧ I cur)
def Sh80 (W : World) (P : Nat → Prop) (base : Nat) (v : Value) (n : Nat) : Prop := Blk 80 W P base v n (fun _ => True)
def Sh94 (W : World) (P : Nat → Prop) (base : Nat) (v : Value) (ns : List Nat) : Prop := Blk 94 W P base v ns.length (fun cur => ∀ i, i < ns.length → ∃ u, cur[2 * i + 1]? = some u ∧ Sh80 W P base u (ns.getD i 0))
def Sh72 (W : World) (P : Nat → Prop) (base : Nat) (v : Value) (ms : List (Nat × List Nat)) : Prop :=
 Blk 72 W P base v ms.length (fun cur => ∀ i, i < ms.length → ∃ u1 u2, cur[2 * i]? = some u1 ∧ cur[2 * i + 1]? = some u2 ∧ Sh80 W P base u1 (ms.getD i (0, [])).1 ∧ Sh94 W P base u2 (ms.getD i (0, [])).2)
section
variable {P : Nat → Prop} {w w' : World} {base n : Nat} {v : Value}
theorem Blk.rel {e : TypeId} {I I' : Array Value → Prop} (hk : MkRel P w w') (h : Blk e w P base v n I) (hI : ∀ cur cur', (e = 72 → cur' = cur) → (e = 94 → ∀ j, cur'[2 * j + 1]? = cur[2 * j + 1]?) → I cur → I' cur') : Blk e w' P base v n I' := by
 obtain ⟨hn, h | ⟨g, cap, cur, rfl, hP, hb, hc, hl, hs, hI1⟩⟩ := h
 ·exact ⟨hn, .inl h⟩
 ·obtain ⟨c', h1, h2, h3, h4⟩ := hk.2 g cur e (0, 0) hc
  exact ⟨hn, .inr ⟨g, cap, c', rfl, hP, hb, h1, hl, h2.trans hs, hI cur c' h3 h4 hI1⟩⟩
theorem Sh80.rel (hk : MkRel P w w') (h : Sh80 w P base v n) : Sh80 w' P base v n := Blk.rel hk h (fun _ _ _ _ _ => trivial)
theorem Sh94.rel {ns : List Nat} (hk : MkRel P w w') (h : Sh94 w P base v ns) : Sh94 w' P base v ns :=
 Blk.rel hk h (fun cur cur' _ h2 hI i hi => by
  obtain ⟨u, h1, hs⟩ := hI i hi
  exact ⟨u, (h2 rfl i).trans h1, hs.rel hk⟩)
theorem Sh72.rel {ms : List (Nat × List Nat)} (hk : MkRel P w w') (h : Sh72 w P base v ms) : Sh72 w' P base v ms :=
 Blk.rel hk h (fun cur cur' h1 _ hI i hi => by
  rw [h1 rfl]
  obtain ⟨u1, u2, e1, e2, s1, s2⟩ := hI i hi
  exact ⟨u1, u2, e1, e2, s1.rel hk, s2.rel hk⟩)
theorem Blk.of {α : Type} {d : Kd α} {e : TypeId} {xs : List α} {I : Array Value → Prop} (hd : d.sz = 2) (h : d.R e w base P v xs)
  (hI : ∀ cur : Array Value, (∀ i, i < xs.length → ∃ c, c.length = 2 ∧ (∀ j, j < 2 → cur[2 * i + j]? = c[j]?) ∧ ∃ x, xs[i]? = some x ∧ d.M w base (fun k => P k ∧ some k ≠ v.ownBlock) x c) → I cur) : Blk e w P base v xs.length I := by
 obtain ⟨hok, inner, hown, hrep⟩ := h
 have hn : xs.length ≤ 9223372036854775807 := (Kd.R_reads ⟨hok, inner, hown, hrep⟩).choose_spec.choose_spec.2.2.2.1
 refine ⟨hn, ?_⟩
 obtain ⟨hl, ⟨e1, hz⟩ | ⟨g, cap, cur, e1, hbg, hcur, hcap, _, hsz, htake⟩⟩ := hown
 ·exact .inl ⟨hz, e1⟩
 ·refine .inr ⟨g, cap, cur, e1, hok g (by rw [e1]; simp [Value.ownBlock]), hbg, hcur, hcap, by rw [hsz, hd], hI cur (fun i hi => ?_)⟩
  have hM := hrep.2 i xs[i] (List.getElem?_eq_getElem hi)
  rw [hd] at hl htake hM
  refine ⟨_, ?_, fun j hj => ?_, xs[i], List.getElem?_eq_getElem hi, hM⟩
  ·simp; omega
  ·rw [List.getElem?_take, if_pos hj, List.getElem?_drop, ← htake, List.getElem?_take, if_pos (by omega), Array.getElem?_toList, Nat.mul_comm i 2]
theorem Sh80.of {l : List S80} (h : Kd.R k80 80 w base P v l) : Sh80 w P base v l.length := Blk.of rfl h (fun _ _ => trivial)
theorem Sh94.of {l : List S94} (h : Kd.R k94 94 w base P v l) : Sh94 w P base v (l.map (fun x => x.f1.length)) := by
 have := Blk.of (I := fun cur => ∀ i, i < (l.map (fun x => x.f1.length)).length → ∃ u, cur[2 * i + 1]? = some u ∧ Sh80 w P base u ((l.map (fun x => x.f1.length)).getD i 0)) rfl h (fun cur hc i hi => by
  simp only [List.length_map] at hi
  obtain ⟨c, h2, hj, x, hx, hM⟩ := hc i hi
  obtain ⟨v1, rfl, hr⟩ := k94_openM hM
  refine ⟨v1, hj 1 (by omega), ?_⟩
  rw [List.getD_eq_getElem?_getD, List.getElem?_map, hx]
  exact Sh80.of (Kd.R_mono hr (fun k hk => hk.1)))
 unfold Sh94
 rw [List.length_map] at this ⊢
 exact this
theorem Sh72.of {l : List S72} (h : Kd.R k72 72 w base P v l) : Sh72 w P base v (l.map (fun x => (x.f0.length, x.f1.map (fun y => y.f1.length)))) := by
 have := Blk.of (I := fun cur => ∀ i, i < (l.map (fun x => (x.f0.length, x.f1.map (fun y => y.f1.length)))).length → ∃ u1 u2, cur[2 * i]? = some u1 ∧ cur[2 * i + 1]? = some u2 ∧ Sh80 w P base u1 ((l.map (fun x => (x.f0.length, x.f1.map (fun y => y.f1.length)))).getD i (0, [])).1 ∧ Sh94 w P base u2 ((l.map (fun x => (x.f0.length, x.f1.map (fun y => y.f1.length)))).getD i (0, [])).2) rfl h (fun cur hc i hi => by
  simp only [List.length_map] at hi
  obtain ⟨c, h2, hj, x, hx, hM⟩ := hc i hi
  obtain ⟨v0, v1, rfl, hr0, hr1⟩ := k72_openM hM
  refine ⟨v0, v1, hj 0 (by omega), hj 1 (by omega), ?_⟩
  rw [List.getD_eq_getElem?_getD, List.getElem?_map, hx]
  exact ⟨Sh80.of (Kd.R_mono hr0 (fun k hk => hk.1)), Sh94.of (Kd.R_mono hr1 (fun k hk => hk.1))⟩)
 unfold Sh72
 rw [List.length_map] at this ⊢
 exact this
end
def mk94 : List Nat → Nat
 | [] => 0
 | n :: t => 1 + 2 * n + mk94 t
def mk72 : List (Nat × List Nat) → Nat
 | [] => 0
 | x :: t => 2 * x.1 + mk94 x.2 + mk72 t
theorem mk94_drop : ∀ (l : List Nat) (j : Nat), j < l.length → mk94 (l.drop j) = 1 + 2 * l.getD j 0 + mk94 (l.drop (j + 1)) := fun l j h => by
 rw [List.drop_eq_getElem_cons h, mk94]; simp [List.getD_eq_getElem?_getD, List.getElem?_eq_getElem h]
theorem mk72_drop : ∀ (l : List (Nat × List Nat)) (j : Nat), j < l.length → mk72 (l.drop j) = 2 * (l.getD j (0, [])).1 + mk94 (l.getD j (0, [])).2 + mk72 (l.drop (j + 1)) := fun l j h => by
 rw [List.drop_eq_getElem_cons h, mk72]; simp [List.getD_eq_getElem?_getD, List.getElem?_eq_getElem h]
theorem mkNodeS (P : Nat → Prop) (v : Value) (n : Nat) (a : Int) (w0 w : World) (hB : Below w0.heap.size w0 w) (hs : Sh80 w P w0.heap.size v n) (h0 : 0 ≤ a) (h1 : a + 2 * n ≤ 4611686018427387904) :
  Calls Tryz.prog 34 #[v, .int .i64 a] w fun e w' => e = .returned (.int .i64 (a + 2 * n)) ∧ Below w0.heap.size w0 w' ∧ MkRel P w w' := by
 obtain ⟨hn, ⟨rfl, rfl⟩ | ⟨g, cap, cur, rfl, hP, hb, hc, hl, hsz, _⟩⟩ := hs
 ·go_enter Tryz.func34, Tryz.ntmps34
  go_wp2
  go_loopg [1, 5] 0 (fun gg v1 v5 wr => v1 = .int .i64 a ∧ v5 = .int .i64 0 ∧ Aside0 (wr = w))
  case atStart => exact ⟨rfl, rfl, ⟨rfl⟩⟩
  case round =>
   obtain ⟨rfl, rfl, HW⟩ := hrel
   have hw := HW.out
   subst hw
   go_wp2
   go_ret
   exact ⟨by simp, hB, MkRel.refl P _⟩
 ·have HC := am_ hc
  have HPB := am_ (And.intro hP hb)
  have HB := am_ hB
  have HS := am_ hsz
  clear hc hP hb hB hsz
  go_enter Tryz.func34, Tryz.ntmps34
  go_wp2
  go_loopg [1, 5] n (fun gg v1 v5 wr => ∃ j : Nat, j ≤ n ∧ n - j ≤ gg ∧ v1 = .int .i64 (a + 2 * j) ∧ v5 = .int .i64 j ∧ Aside0 (Below w0.heap.size w0 wr) ∧ Aside0 (MkRel P w wr))
  case atStart => exact ⟨0, Nat.zero_le _, by omega, by simp, rfl, HB, ⟨MkRel.refl P w⟩⟩
  case round =>
   obtain ⟨j, hj, hg, rfl, rfl, HB2, HM⟩ := hrel
   by_cases hlt : j < n
   ·have hltz : (j : Int) < (n : Int) := by omega
    have h0z : 0 ≤ (j : Int) := by omega
    obtain ⟨c', hc1, hs1, _, _⟩ := HM.out.2 g cur 80 (0, 0) HC.out
    have hs2 := HS.out
    have hx : wr.cell? ⟨g, j * 2, none⟩ = some (c'[j * 2]'(by omega)) := (blk_cell hc1 (j * 2)).trans (Array.getElem?_eq_getElem _)
    have hf : wr.frozen? ⟨g, j * 2, none⟩ = false := blk_frozen hc1 _
    have HC1 := am_ hc1
    have HS1 := am_ hs1
    clear hc1
    go_wp2_with (first | ((with_reducible refine gate_store (t := 3) (p := 16) rfl ?_); refine store_event (t := 3) (p := 16) (v := ?vo) (w1 := (wr.setCell ⟨g, j * 2, none⟩ (.int .i64 (a + 2 * j)))) ?hg ?ho ?hn ?hr ?_; (case ho => rfl); (case hg => rfl); (case hn => rfl); (case hr => first | (go_simp; done) | (go_simp; rfl)); intro w9 hw; have n0_ := am_ (show Below w0.heap.size w0 w9 from by rw [hw]; exact below_set HB2.out HPB.out.2); have n1_ := am_ (show MkRel P w w9 from by rw [hw]; exact HM.out.trans (MkRel.set HC1.out HPB.out.1 (by decide) (fun h_ => absurd h_ (by decide)) _)); have hc2 := blk_set HC1.out (j * 2) (.int .i64 (a + 2 * j)); rw [← hw] at hc2; have hx9 : w9.cell? ⟨g, j * 2 + 1, none⟩ = some (c'[j * 2 + 1]'(by have := HS1.out; have := HS.out; omega)) := (blk_cell hc2 (j * 2 + 1)).trans (by rw [Array.getElem?_setIfInBounds, if_neg (by omega)]; exact Array.getElem?_eq_getElem _); have hf9 : w9.frozen? ⟨g, j * 2 + 1, none⟩ = false := blk_frozen hc2 _; have HC2 := am_ hc2; clear hc2 hw HB2 HM hx hf; have HB2 := n0_; have HM := n1_; clear n0_ n1_))
    go_roundg (n - (j + 1))
    case measure => omega
    case rel => exact ⟨j + 1, by omega, by omega, by go_num, by go_num, ⟨below_set HB2.out HPB.out.2⟩, ⟨HM.out.trans (MkRel.set HC2.out HPB.out.1 (by decide) (fun h_ => absurd h_ (by decide)) _)⟩⟩
   ·have hltz : ¬ (j : Int) < (n : Int) := by omega
    have hjn : j = n := by omega
    subst hjn
    go_wp2
    go_ret
    exact ⟨rfl, HB2.out, HM.out⟩
theorem mkChangeS (P : Nat → Prop) (v : Value) (ns : List Nat) (a : Int) (w0 w : World) (hB : Below w0.heap.size w0 w) (hs : Sh94 w P w0.heap.size v ns) (h0 : 0 ≤ a) (h1 : a + mk94 ns ≤ 4611686018427387904) :
  Calls Tryz.prog 54 #[v, .int .i64 a] w fun e w' => e = .returned (.int .i64 (a + mk94 ns)) ∧ Below w0.heap.size w0 w' ∧ MkRel P w w' := by
 have HSH := am_ hs
 obtain ⟨hn, ⟨hz, rfl⟩ | ⟨g, cap, cur, rfl, hP, hb, hc, hl, hsz, _⟩⟩ := hs
 ·have hns : ns = [] := List.length_eq_zero_iff.1 hz
  subst hns
  clear HSH hz hn
  go_enter Tryz.func54, Tryz.ntmps54
  go_wp2
  go_loopg [1, 5] 0 (fun gg v1 v5 wr => v1 = .int .i64 a ∧ v5 = .int .i64 0 ∧ Aside0 (wr = w))
  case atStart => exact ⟨rfl, rfl, ⟨rfl⟩⟩
  case round =>
   obtain ⟨rfl, rfl, HW⟩ := hrel
   have hw := HW.out
   subst hw
   go_wp2
   go_ret
   exact ⟨by simp [mk94], hB, MkRel.refl P _⟩
 ·have HPB := am_ (And.intro hP hb)
  have HB := am_ hB
  clear hc hP hb hB hsz
  go_enter Tryz.func54, Tryz.ntmps54
  go_wp2
  go_loopg [1, 5] ns.length (fun gg v1 v5 wr => ∃ (j : Nat) (q : Int), j ≤ ns.length ∧ ns.length - j ≤ gg ∧ v1 = .int .i64 q ∧ v5 = .int .i64 j ∧ Aside0 (q + mk94 (ns.drop j) = a + mk94 ns) ∧ Aside0 (0 ≤ q) ∧ Aside0 (Below w0.heap.size w0 wr) ∧ Aside0 (MkRel P w wr))
  case atStart => exact ⟨0, a, Nat.zero_le _, by omega, rfl, rfl, ⟨by simp⟩, ⟨h0⟩, HB, ⟨MkRel.refl P w⟩⟩
  case round =>
   obtain ⟨j, q, hj, hg, rfl, rfl, HQ, HQ0, HB2, HM⟩ := hrel
   by_cases hlt : j < ns.length
   ·have hltz : (j : Int) < (ns.length : Int) := by omega
    have h0z : 0 ≤ (j : Int) := by omega
    have hq := HQ.out
    have hq0 := HQ0.out
    rw [mk94_drop ns j hlt] at hq
    obtain ⟨_, ⟨hz2, _⟩ | ⟨g2, cap2, c', hv2, _, _, hc1, hl1, hs1, hI⟩⟩ := Sh94.rel HM.out HSH.out
    ·omega
    injection hv2 with hv2 _ hv3
    injection hv2 with hv2
    injection hv2 with hv2
    subst hv2
    subst hv3
    obtain ⟨u, hu, hsu⟩ := hI j hlt
    generalize ns.getD j 0 = m at hsu hq
    have hx : wr.cell? ⟨g, j * 2, none⟩ = some (c'[j * 2]'(by omega)) := (blk_cell hc1 (j * 2)).trans (Array.getElem?_eq_getElem _)
    have hf : wr.frozen? ⟨g, j * 2, none⟩ = false := blk_frozen hc1 _
    have HC1 := am_ hc1
    have HU := am_ hu
    have HSU := am_ hsu
    clear hc1 hu hsu hI
    go_wp2_with (first | ((with_reducible refine gate_store (t := 3) (p := 16) rfl ?_); refine store_event (t := 3) (p := 16) (v := ?vo) (w1 := (wr.setCell ⟨g, j * 2, none⟩ (.int .i64 q))) ?hg ?ho ?hn ?hr ?_; (case ho => rfl); (case hg => rfl); (case hn => rfl); (case hr => first | (go_simp; done) | (go_simp; rfl)); intro w9 hw; have hr9 : MkRel P wr w9 := (by rw [hw]; exact MkRel.set HC1.out HPB.out.1 (by decide) (fun _ => ⟨j, Nat.mul_comm j 2⟩) _); have n0_ := am_ (show Below w0.heap.size w0 w9 from by rw [hw]; exact below_set HB2.out HPB.out.2); have n1_ := am_ (HM.out.trans hr9); have hc2 := blk_set HC1.out (j * 2) (.int .i64 q); rw [← hw] at hc2; have hx9 : w9.cell? ⟨g, j * 2 + 1, none⟩ = some u := (blk_cell hc2 (j * 2 + 1)).trans (by rw [Array.getElem?_setIfInBounds, if_neg (by omega), Nat.mul_comm j 2]; exact HU.out); have HS9 := am_ (HSU.out.rel hr9); clear hc2 hw HB2 HM hx hf hr9 HSU; have HB2 := n0_; have HM := n1_; clear n0_ n1_) | (go_at_call 34; (refine (mkNodeS P u m (q + 1) w0 _ HB2.out HS9.out (by omega) (by omega)).mono ?_); rintro e w' ⟨rfl, hb, hm⟩; have n0_ := am_ hb; have n1_ := am_ (HM.out.trans hm); clear hb hm HB2 HM; have HB2 := n0_; have HM := n1_; clear n0_ n1_))
    go_roundg (ns.length - (j + 1))
    case measure => omega
    case rel => exact ⟨j + 1, q + 1 + 2 * (m : Int), by omega, by omega, rfl, by go_num, ⟨by omega⟩, ⟨by omega⟩, HB2, HM⟩
   ·have hltz : ¬ (j : Int) < (ns.length : Int) := by omega
    have hq := HQ.out
    rw [List.drop_of_length_le (by omega)] at hq
    simp only [mk94] at hq
    have hq2 : q = a + mk94 ns := by omega
    subst hq2
    go_wp2
    go_ret
    exact ⟨rfl, HB2.out, HM.out⟩
theorem mkCommandS (P : Nat → Prop) (v : Value) (ms : List (Nat × List Nat)) (a : Int) (w0 w : World) (hB : Below w0.heap.size w0 w) (hs : Sh72 w P w0.heap.size v ms) (h0 : 0 ≤ a) (h1 : a + mk72 ms ≤ 4611686018427387904) :
  Calls Tryz.prog 35 #[v, .int .i64 a] w fun e w' => e = .returned (.int .i64 (a + mk72 ms)) ∧ Below w0.heap.size w0 w' ∧ MkRel P w w' := by
 have HSH := am_ hs
 obtain ⟨hn, ⟨hz, rfl⟩ | ⟨g, cap, cur, rfl, hP, hb, hc, hl, hsz, _⟩⟩ := hs
 ·have hns : ms = [] := List.length_eq_zero_iff.1 hz
  subst hns
  clear HSH hz hn
  go_enter Tryz.func35, Tryz.ntmps35
  go_wp2
  go_loopg [1, 5] 0 (fun gg v1 v5 wr => v1 = .int .i64 a ∧ v5 = .int .i64 0 ∧ Aside0 (wr = w))
  case atStart => exact ⟨rfl, rfl, ⟨rfl⟩⟩
  case round =>
   obtain ⟨rfl, rfl, HW⟩ := hrel
   have hw := HW.out
   subst hw
   go_wp2
   go_ret
   exact ⟨by simp [mk72], hB, MkRel.refl P _⟩
 ·have HPB := am_ (And.intro hP hb)
  have HB := am_ hB
  clear hc hP hb hB hsz
  go_enter Tryz.func35, Tryz.ntmps35
  go_wp2
  go_loopg [1, 5] ms.length (fun gg v1 v5 wr => ∃ (j : Nat) (q : Int), j ≤ ms.length ∧ ms.length - j ≤ gg ∧ v1 = .int .i64 q ∧ v5 = .int .i64 j ∧ Aside0 (q + mk72 (ms.drop j) = a + mk72 ms) ∧ Aside0 (0 ≤ q) ∧ Aside0 (Below w0.heap.size w0 wr) ∧ Aside0 (MkRel P w wr))
  case atStart => exact ⟨0, a, Nat.zero_le _, by omega, rfl, rfl, ⟨by simp⟩, ⟨h0⟩, HB, ⟨MkRel.refl P w⟩⟩
  case round =>
   obtain ⟨j, q, hj, hg, rfl, rfl, HQ, HQ0, HB2, HM⟩ := hrel
   by_cases hlt : j < ms.length
   ·have hltz : (j : Int) < (ms.length : Int) := by omega
    have h0z : 0 ≤ (j : Int) := by omega
    have hq := HQ.out
    have hq0 := HQ0.out
    rw [mk72_drop ms j hlt] at hq
    obtain ⟨_, ⟨hz2, _⟩ | ⟨g2, cap2, c', hv2, _, _, hc1, hl1, hs1, hI⟩⟩ := Sh72.rel HM.out HSH.out
    ·omega
    injection hv2 with hv2 _ hv3
    injection hv2 with hv2
    injection hv2 with hv2
    subst hv2
    subst hv3
    obtain ⟨u1, u2, hu1, hu2, hsu1, hsu2⟩ := hI j hlt
    generalize ms.getD j (0, []) = m at hsu1 hsu2 hq
    obtain ⟨m1, m2⟩ := m
    simp only at hsu1 hsu2 hq
    have hx : wr.cell? ⟨g, j * 2, none⟩ = some u1 := (blk_cell hc1 (j * 2)).trans (by rw [Nat.mul_comm j 2]; exact hu1)
    have HC1 := am_ hc1
    have HU2 := am_ hu2
    have HS1 := am_ hsu1
    have HS2 := am_ hsu2
    clear hc1 hu1 hu2 hsu1 hsu2 hI
    go_wp2_with (first | (go_at_call 34; (refine (mkNodeS P u1 m1 q w0 _ HB2.out HS1.out (by omega) (by omega)).mono ?_); rintro e w9 ⟨rfl, hb, hm⟩; have n0_ := am_ hb; have n1_ := am_ (HM.out.trans hm); obtain ⟨c9, hc9, _, ht9, _⟩ := hm.2 _ _ _ _ HC1.out; have hx9 : w9.cell? ⟨g, j * 2 + 1, none⟩ = some u2 := (blk_cell hc9 (j * 2 + 1)).trans (by rw [ht9 rfl, Nat.mul_comm j 2]; exact HU2.out); have HS9 := am_ (HS2.out.rel hm); clear hb hm HB2 HM hx hc9 ht9 HS2; have HB2 := n0_; have HM := n1_; clear n0_ n1_) | (go_at_call 54; (refine (mkChangeS P u2 m2 (q + 2 * m1) w0 _ HB2.out HS9.out (by omega) (by omega)).mono ?_); rintro e w' ⟨rfl, hb, hm⟩; have n0_ := am_ hb; have n1_ := am_ (HM.out.trans hm); clear hb hm HB2 HM; have HB2 := n0_; have HM := n1_; clear n0_ n1_))
    go_roundg (ms.length - (j + 1))
    case measure => omega
    case rel => exact ⟨j + 1, q + 2 * m1 + mk94 m2, by omega, by omega, rfl, by go_num, ⟨by omega⟩, ⟨by omega⟩, HB2, HM⟩
   ·have hltz : ¬ (j : Int) < (ms.length : Int) := by omega
    have hq := HQ.out
    rw [List.drop_of_length_le (by omega)] at hq
    simp only [mk72] at hq
    have hq2 : q = a + mk72 ms := by omega
    subst hq2
    go_wp2
    go_ret
    exact ⟨rfl, HB2.out, HM.out⟩
/-- How far markProgram counts. -/
def mkTot (l0 : List S80) (l1 : List S72) : Nat := 2 * l0.length + mk72 (l1.map (fun x => (x.f0.length, x.f1.map (fun y => y.f1.length))))
def laws_markProgram.f (k : Nat) (a0_0 a0_1 : Int) (l0_2 : List S80) (l0_3 : List S72) (a1 : Int) : Option Int := if 0 ≤ a1 ∧ a1 + mkTot l0_2 l0_3 ≤ 4611686018427387904 then some (a1 + mkTot l0_2 l0_3) else none
theorem laws_markProgram.calls (k : Nat) (P0_2_ : Nat → Prop) (a0_0 : Int) (a0_1 : Int) (u9002_ : Value) (l0_2 : List S80) (u9003_ : Value) (l0_3 : List S72) (a1 : Int) (r : Int) (w0 w : World) (hB : Below w0.heap.size w0 w) (ho0_2 : Kd.R k80 80 w w0.heap.size P0_2_ u9002_ l0_2) (ho0_3 : Kd.R k72 72 w w0.heap.size P0_2_ u9003_ l0_3) (h : laws_markProgram.f k a0_0 a0_1 l0_2 l0_3 a1 = some r) :
  Calls Tryz.prog 15 #[.agg #[.int .i64 a0_0, .int .i64 a0_1, u9002_, u9003_], .int .i64 a1] w fun e w' => e = .returned (.int .i64 r) ∧ Below w0.heap.size w0 w' ∧ Kept w w' (fun k_ => P0_2_ k_) := by
 have hf : 0 ≤ a1 ∧ a1 + mkTot l0_2 l0_3 ≤ 4611686018427387904 := by
  rcases Decidable.em (0 ≤ a1 ∧ a1 + mkTot l0_2 l0_3 ≤ 4611686018427387904) with h1 | h1
  ·exact h1
  ·rw [laws_markProgram.f, if_neg h1] at h; cases h
 rw [laws_markProgram.f, if_pos hf] at h
 obtain rfl := Option.some.inj h
 have HS2 := am_ (Sh80.of (Kd.R_mono (Kd.R_bound ho0_2) (fun k hk => (⟨hk.1, hk.2.2.1⟩ : P0_2_ k ∧ k < w.heap.size))))
 have HS3 := am_ (Sh72.of (Kd.R_mono (Kd.R_bound ho0_3) (fun k hk => (⟨hk.1, hk.2.2.1⟩ : P0_2_ k ∧ k < w.heap.size))))
 have HB := am_ hB
 have hu36 := Tryz.underlying36
 unfold mkTot at hf ⊢
 clear h ho0_2 ho0_3 hB
 generalize l0_3.map (fun x => (x.f0.length, x.f1.map (fun y => y.f1.length))) = ms at HS3 hf ⊢
 generalize l0_2.length = n at HS2 hf ⊢
 obtain ⟨tot, htot⟩ : ∃ tot : Int, a1 + ((2 * n + mk72 ms : Nat) : Int) = tot := ⟨_, rfl⟩
 have ht2 : a1 + 2 * n + mk72 ms = tot := by omega
 rw [htot]
 have HT := am_ ht2
 clear htot ht2
 go_enter Tryz.func15, Tryz.ntmps15
 go_wp2_with (first | ((with_reducible refine Sh.d 2 ?_); refine Sh.bx (N := 2) (cs := #[.int .i64 a0_0, .int .i64 a0_1, u9002_, u9003_]) (t := 36) (h := ?_); intro g hg w1 hbox hb; have HBX := am_ hbox; have HG := am_ hg; have HB1 := am_ (below_step HB.out hb); have HM := am_ (show MkRel (fun k => P0_2_ k ∧ k < w.heap.size) w w1 from MkRel.of_below hb); have HS4 := am_ (HS2.out.rel HM.out); have hx := (blk_cell hbox 2).trans (show _ = some u9002_ from rfl); have hfz := blk_frozen hbox 2; clear hg hbox hb) | (go_at_call 34; (refine (mkNodeS (fun k => P0_2_ k ∧ k < w.heap.size) u9002_ n a1 w0 _ HB1.out HS4.out hf.1 (by omega)).mono ?_); rintro e w2 ⟨rfl, hb, hm⟩; have HB2 := am_ hb; have HM2 := am_ (HM.out.trans hm); have hbox2 := blk_kept HBX.out hm.1 (fun h_ => by have := HG.out; omega); have HS5 := am_ (HS3.out.rel HM2.out); have hx2 := (blk_cell hbox2 3).trans (show _ = some u9003_ from rfl); have hfz2 := blk_frozen hbox2 3; clear hb hm hbox2 HM hx hfz) | (go_at_call 35; (refine (mkCommandS (fun k => P0_2_ k ∧ k < w.heap.size) u9003_ ms (a1 + 2 * n) w0 _ HB2.out HS5.out (by omega) (by omega)).mono ?_); rintro e w3 ⟨rfl, hb, hm⟩; have HB3 := am_ hb; have HM3 := am_ (HM2.out.trans hm); clear hb hm))
 go_ret
 exact ⟨by rw [HT.out]; rfl, HB3.out, HM3.out.1.mono (fun k hk => hk.1)⟩
def laws_markUint64S.l0 : Nat → List Int → Int → Int → Option (Int × List Int)
 | 0, _, _, _ => none
 | k + 1, x0, x1, x5 => if x5 < (x0.length : Int) then (if 0 ≤ x5 then (laws_markUint64S.l0 k (x0.set (x5 : Int).toNat (IntKind.u64.wrap (x1))) (wrap64 (x1 + 1)) (wrap64 (x5 + 1))) else (none)) else (some (x1, x0))
def laws_markUint64S.f (k : Nat) (l0 : List Int) (a1 : Int) : Option (Int × List Int) := laws_markUint64S.l0 k l0 a1 0
theorem laws_markUint64S.mono_l : ∀ k, (∀ y0 y1 y2, LeO (laws_markUint64S.l0 k y0 y1 y2) (laws_markUint64S.l0 (k + 1) y0 y1 y2))
 | 0 => fun _ _ _ r h => by simp [laws_markUint64S.l0] at h
 | k + 1 => by
  have ih0 := laws_markUint64S.mono_l k
  ·intro y0 y1 y2
   unfold laws_markUint64S.l0
   repeat' with_reducible first | apply ih0 | exact LeO.refl _ | exact LeO.none _ | apply LeO.ite | refine LeO.bind ?_ fun _ => ?_
theorem laws_markUint64S.mono : ∀ a0 a1 k, LeO (laws_markUint64S.f k a0 a1) (laws_markUint64S.f (k + 1) a0 a1) := by
 intro a0 a1 k
 have ih0 := laws_markUint64S.mono_l k
 unfold laws_markUint64S.f
 repeat' with_reducible first | apply ih0 | exact LeO.refl _ | exact LeO.none _ | apply LeO.ite | refine LeO.bind ?_ fun _ => ?_
theorem laws_markUint64S.calls (k : Nat) (P0_ : Nat → Prop) (u9000_ : Value) (l0 : List Int) (a1 : Int) (r1 : Int) (r2 : List Int) (w0 w : World) (hB : Below w0.heap.size w0 w) (ho0 : Kd.R (Kd.int .u64) 59 w w0.heap.size P0_ u9000_ l0) (h : laws_markUint64S.f k l0 a1 = some (r1, r2)) :
  Calls Tryz.prog 16 #[u9000_, .int .i64 a1] w fun e w' => e = .returned (.int .i64 r1) ∧ Kd.R (Kd.int .u64) 59 w' w0.heap.size (fun k_ => (P0_ k_ ∨ w.heap.size ≤ k_)) u9000_ r2 ∧ Below w0.heap.size w0 w' ∧ Kept w w' (fun k_ => P0_ k_) := by
 have HO0 := am_ (show Kd.R (Kd.int .u64) 59 w w0.heap.size (fun k_ => (P0_ k_ ∨ w.heap.size ≤ k_)) u9000_ l0 from Kd.R_mono ho0 (fun k_ hk => (.inl hk)))
 have HK := am_ (Kept.refl w (fun k_ => P0_ k_))
 have HW0 := am_ hB.size
 have HB := am_ hB
 clear hB
 have H := h
 clear h
 unfold laws_markUint64S.f at H
 have H' := am_ H
 clear H
 go_enter Tryz.func16, Tryz.ntmps16
 go_wp2
 go_loopg [1, 5] k (fun kq v1 v5 w' => ∃ (x0_1 : List Int) (x1_1 : Int) (x5_1 : Int), v1 = .int .i64 x1_1 ∧ v5 = .int .i64 x5_1 ∧ Aside0 (laws_markUint64S.l0 kq x0_1 x1_1 x5_1 = some (r1, r2)) ∧ Aside0 (kq ≤ k) ∧ Aside0 (Kd.R (Kd.int .u64) 59 w' w0.heap.size (fun k_ => (P0_ k_ ∨ w.heap.size ≤ k_)) u9000_ x0_1) ∧ Aside0 (Kept w w' (fun k_ => P0_ k_)) ∧ Aside0 (Below w0.heap.size w0 w'))
 case atStart => exact ⟨(l0), (a1), (0), (Sh.es), (Sh.es), H', ⟨Nat.le_refl _⟩, ⟨Sh.rl HO0.out⟩, ⟨by repeat (first | (with_reducible first | exact HK.out | apply Kept.alloc | apply Kept.drewN | apply Kept.drew) | exact HK.out)⟩, ⟨Sh.bw⟩⟩
 case round =>
  clear H'
  obtain ⟨x0_1, x1_1, x5_1, rfl, rfl, HA, HK1, HO_0, HK, HB⟩ := hrel
  cases gk with
  | zero => exact absurd HA.out (by simp [laws_markUint64S.l0])
  | succ k1 =>
   have H := HA.out
   clear HA
   simp only [laws_markUint64S.l0] at H
   by_cases c3 : x5_1 < (x0_1.length : Int)
   ·rw [if_pos c3] at H
    have c3b0 := decide_eq_true c3
    clear c3
    by_cases c4 : 0 ≤ x5_1
    ·rw [if_pos c4] at H
     have c4b0 := decide_eq_true c4
     clear c4
     obtain ⟨y532, hy532⟩ : ∃ y_ : List Int, y_ = (x0_1.set (x5_1 : Int).toNat (IntKind.u64.wrap (x1_1))) := ⟨_, rfl⟩
     replace H : (laws_markUint64S.l0 k1 y532 (wrap64 (x1_1 + 1)) (wrap64 (x5_1 + 1))) = some (r1, r2) := by first | (rw [hy532]; with_reducible exact H) | (have H2_ := (Option.bind_some _ _).symm.trans H; rw [hy532]; with_reducible exact H2_) | (have H2_ := (Option.bind_some _ _).symm.trans H; with_reducible exact H2_) | with_reducible exact H | (rw [hy532]; exact H) | exact H
     have Ny532 := am_ hy532
     clear hy532
     have H' := am_ H
     clear H
     obtain ⟨Ao6, co6, eo6⟩ := Kd.R_slice HO_0.out
     subst eo6
     have p5 : 0 ≤ (x5_1 : Int) := Sh.od
     have q5 : (x5_1 : Int) < ((x0_1.length : Int) : Int) := Sh.od
     obtain ⟨go5, co5, eo5, gb5, gl5, cl5, HG5⟩ := Kd.R_form HO_0.out (by omega)
     (first | cases eo5 | (injection eo5 with ea_ en_ ec_; (first | subst ea_ | (injection ea_ with ea_; subst ea_)); subst ec_; clear en_))
     have GB5 := am_ gb5
     have GG5 := am_ HG5
     clear gb5 gl5 HG5
     have HMgo5 := am_ (show (P0_ go5 ∨ w.heap.size ≤ go5) from (HO_0.out.1 _ rfl))
     obtain ⟨hx5_0, hf5_0⟩ := Kd.R_celln 0 HO_0.out (x5_1 : Int) p5 q5
     replace p5 := eq_true p5
     replace q5 := eq_true q5
     have HP7 := Kd.R_putg HO_0.out (x5_1 : Int) (IntKind.u64.wrap (x1_1))
     go_wp2_with (first | ((with_reducible refine gate_store (t := 59) (p := 16) rfl ?_); refine store_event (t := 59) (p := 16) (v := ?vo_w8) (w1 := (wr.setCell ⟨go5, (x5_1 : Int).toNat, none⟩ (.int .u64 (IntKind.u64.wrap (x1_1))))) ?hg ?ho ?hn ?hr ?_; (case ho => rfl); (case hg => rfl); (case hn => rfl); (case hr => first | (go_simp; done) | (go_simp; rfl)); intro w8 hw; have hg : wr.grownBy w8 (some go5) := (by rw [hw]; exact HP7.2); have hp_ : Kd.R (Kd.int .u64) 59 w8 w0.heap.size (fun k_ => (P0_ k_ ∨ w.heap.size ≤ k_)) (.slice (some ⟨go5, 0, none⟩) x0_1.length co6) y532 := (by rw [hw, Ny532.out]; exact HP7.1); clear HP7; replace HB := am_ ((by rw [hw]; exact below_set (HB.out) GB5.out : Below w0.heap.size w0 w8)); replace HK := am_ (Kept.of_grown (S := (fun k_ => P0_ k_)) hg (by repeat (first | (with_reducible first | exact HK.out | apply Kept.alloc | apply Kept.drewN | apply Kept.drew) | exact HK.out)) (fun k_ e_ => (HO_0.out.1 k_ e_))); replace HO_0 := am_ hp_; clear hg hw hp_))
     go_roundg k1
     case measure => have := HK1.out; omega
     case rel => exact ⟨(y532), (wrap64 (x1_1 + 1)), (wrap64 (x5_1 + 1)), (Sh.es), (Sh.es), H', ⟨by have := HK1.out; omega⟩, ⟨Sh.rl HO_0.out⟩, ⟨by repeat (first | (with_reducible first | exact HK.out | apply Kept.alloc | apply Kept.drewN | apply Kept.drew) | exact HK.out)⟩, ⟨Sh.bw⟩⟩
    ·rw [if_neg c4] at H
     exact absurd H (by simp)
   ·rw [if_neg c3] at H
    have c3b0 := decide_eq_false c3
    clear c3
    simp only [Option.some.injEq, Prod.mk.injEq] at H
    obtain ⟨rfl, rfl⟩ := H
    obtain ⟨Ao9, co9, eo9⟩ := Kd.R_slice HO_0.out
    subst eo9
    go_wp2
    go_ret
    exact ⟨Sh.eR, Sh.rl HO_0.out, Sh.bw, by repeat (first | (with_reducible first | exact HK.out | apply Kept.alloc | apply Kept.drewN | apply Kept.drew) | exact HK.out)⟩
def laws_markIntS.l0 : Nat → List Int → Int → Int → Option (Int × List Int)
 | 0, _, _, _ => none
 | k + 1, x0, x1, x5 => if x5 < (x0.length : Int) then (if 0 ≤ x5 then (laws_markIntS.l0 k (x0.set (x5 : Int).toNat x1) (wrap64 (x1 + 1)) (wrap64 (x5 + 1))) else (none)) else (some (x1, x0))
def laws_markIntS.f (k : Nat) (l0 : List Int) (a1 : Int) : Option (Int × List Int) := laws_markIntS.l0 k l0 a1 0
theorem laws_markIntS.mono_l : ∀ k, (∀ y0 y1 y2, LeO (laws_markIntS.l0 k y0 y1 y2) (laws_markIntS.l0 (k + 1) y0 y1 y2))
 | 0 => fun _ _ _ r h => by simp [laws_markIntS.l0] at h
 | k + 1 => by
  have ih0 := laws_markIntS.mono_l k
  ·intro y0 y1 y2
   unfold laws_markIntS.l0
   repeat' with_reducible first | apply ih0 | exact LeO.refl _ | exact LeO.none _ | apply LeO.ite | refine LeO.bind ?_ fun _ => ?_
theorem laws_markIntS.mono : ∀ a0 a1 k, LeO (laws_markIntS.f k a0 a1) (laws_markIntS.f (k + 1) a0 a1) := by
 intro a0 a1 k
 have ih0 := laws_markIntS.mono_l k
 unfold laws_markIntS.f
 repeat' with_reducible first | apply ih0 | exact LeO.refl _ | exact LeO.none _ | apply LeO.ite | refine LeO.bind ?_ fun _ => ?_
theorem laws_markIntS.calls (k : Nat) (P0_ : Nat → Prop) (u9000_ : Value) (l0 : List Int) (a1 : Int) (r1 : Int) (r2 : List Int) (w0 w : World) (hB : Below w0.heap.size w0 w) (ho0 : Kd.R (Kd.int .i64) 3 w w0.heap.size P0_ u9000_ l0) (h : laws_markIntS.f k l0 a1 = some (r1, r2)) :
  Calls Tryz.prog 17 #[u9000_, .int .i64 a1] w fun e w' => e = .returned (.int .i64 r1) ∧ Kd.R (Kd.int .i64) 3 w' w0.heap.size (fun k_ => (P0_ k_ ∨ w.heap.size ≤ k_)) u9000_ r2 ∧ Below w0.heap.size w0 w' ∧ Kept w w' (fun k_ => P0_ k_) := by
 have HO0 := am_ (show Kd.R (Kd.int .i64) 3 w w0.heap.size (fun k_ => (P0_ k_ ∨ w.heap.size ≤ k_)) u9000_ l0 from Kd.R_mono ho0 (fun k_ hk => (.inl hk)))
 have HK := am_ (Kept.refl w (fun k_ => P0_ k_))
 have HW0 := am_ hB.size
 have HB := am_ hB
 clear hB
 have H := h
 clear h
 unfold laws_markIntS.f at H
 have H' := am_ H
 clear H
 go_enter Tryz.func17, Tryz.ntmps17
 go_wp2
 go_loopg [1, 5] k (fun kq v1 v5 w' => ∃ (x0_1 : List Int) (x1_1 : Int) (x5_1 : Int), v1 = .int .i64 x1_1 ∧ v5 = .int .i64 x5_1 ∧ Aside0 (laws_markIntS.l0 kq x0_1 x1_1 x5_1 = some (r1, r2)) ∧ Aside0 (kq ≤ k) ∧ Aside0 (Kd.R (Kd.int .i64) 3 w' w0.heap.size (fun k_ => (P0_ k_ ∨ w.heap.size ≤ k_)) u9000_ x0_1) ∧ Aside0 (Kept w w' (fun k_ => P0_ k_)) ∧ Aside0 (Below w0.heap.size w0 w'))
 case atStart => exact ⟨(l0), (a1), (0), (Sh.es), (Sh.es), H', ⟨Nat.le_refl _⟩, ⟨Sh.rl HO0.out⟩, ⟨by repeat (first | (with_reducible first | exact HK.out | apply Kept.alloc | apply Kept.drewN | apply Kept.drew) | exact HK.out)⟩, ⟨Sh.bw⟩⟩
 case round =>
  clear H'
  obtain ⟨x0_1, x1_1, x5_1, rfl, rfl, HA, HK1, HO_0, HK, HB⟩ := hrel
  cases gk with
  | zero => exact absurd HA.out (by simp [laws_markIntS.l0])
  | succ k1 =>
   have H := HA.out
   clear HA
   simp only [laws_markIntS.l0] at H
   by_cases c3 : x5_1 < (x0_1.length : Int)
   ·rw [if_pos c3] at H
    have c3b0 := decide_eq_true c3
    clear c3
    by_cases c4 : 0 ≤ x5_1
    ·rw [if_pos c4] at H
     have c4b0 := decide_eq_true c4
     clear c4
     obtain ⟨y533, hy533⟩ : ∃ y_ : List Int, y_ = (x0_1.set (x5_1 : Int).toNat x1_1) := ⟨_, rfl⟩
     replace H : (laws_markIntS.l0 k1 y533 (wrap64 (x1_1 + 1)) (wrap64 (x5_1 + 1))) = some (r1, r2) := by first | (rw [hy533]; with_reducible exact H) | (have H2_ := (Option.bind_some _ _).symm.trans H; rw [hy533]; with_reducible exact H2_) | (have H2_ := (Option.bind_some _ _).symm.trans H; with_reducible exact H2_) | with_reducible exact H | (rw [hy533]; exact H) | exact H
     have Ny533 := am_ hy533
     clear hy533
     have H' := am_ H
     clear H
     obtain ⟨Ao6, co6, eo6⟩ := Kd.R_slice HO_0.out
     subst eo6
     have p5 : 0 ≤ (x5_1 : Int) := Sh.od
     have q5 : (x5_1 : Int) < ((x0_1.length : Int) : Int) := Sh.od
     obtain ⟨go5, co5, eo5, gb5, gl5, cl5, HG5⟩ := Kd.R_form HO_0.out (by omega)
     (first | cases eo5 | (injection eo5 with ea_ en_ ec_; (first | subst ea_ | (injection ea_ with ea_; subst ea_)); subst ec_; clear en_))
     have GB5 := am_ gb5
     have GG5 := am_ HG5
     clear gb5 gl5 HG5
     have HMgo5 := am_ (show (P0_ go5 ∨ w.heap.size ≤ go5) from (HO_0.out.1 _ rfl))
     obtain ⟨hx5_0, hf5_0⟩ := Kd.R_celln 0 HO_0.out (x5_1 : Int) p5 q5
     replace p5 := eq_true p5
     replace q5 := eq_true q5
     have HP7 := Kd.R_putg HO_0.out (x5_1 : Int) x1_1
     go_wp2_with (first | ((with_reducible refine gate_store (t := 3) (p := 15) rfl ?_); refine store_event (t := 3) (p := 15) (v := ?vo_w8) (w1 := (wr.setCell ⟨go5, (x5_1 : Int).toNat, none⟩ (.int .i64 x1_1))) ?hg ?ho ?hn ?hr ?_; (case ho => rfl); (case hg => rfl); (case hn => rfl); (case hr => first | (go_simp; done) | (go_simp; rfl)); intro w8 hw; have hg : wr.grownBy w8 (some go5) := (by rw [hw]; exact HP7.2); have hp_ : Kd.R (Kd.int .i64) 3 w8 w0.heap.size (fun k_ => (P0_ k_ ∨ w.heap.size ≤ k_)) (.slice (some ⟨go5, 0, none⟩) x0_1.length co6) y533 := (by rw [hw, Ny533.out]; exact HP7.1); clear HP7; replace HB := am_ ((by rw [hw]; exact below_set (HB.out) GB5.out : Below w0.heap.size w0 w8)); replace HK := am_ (Kept.of_grown (S := (fun k_ => P0_ k_)) hg (by repeat (first | (with_reducible first | exact HK.out | apply Kept.alloc | apply Kept.drewN | apply Kept.drew) | exact HK.out)) (fun k_ e_ => (HO_0.out.1 k_ e_))); replace HO_0 := am_ hp_; clear hg hw hp_))
     go_roundg k1
     case measure => have := HK1.out; omega
     case rel => exact ⟨(y533), (wrap64 (x1_1 + 1)), (wrap64 (x5_1 + 1)), (Sh.es), (Sh.es), H', ⟨by have := HK1.out; omega⟩, ⟨Sh.rl HO_0.out⟩, ⟨by repeat (first | (with_reducible first | exact HK.out | apply Kept.alloc | apply Kept.drewN | apply Kept.drew) | exact HK.out)⟩, ⟨Sh.bw⟩⟩
    ·rw [if_neg c4] at H
     exact absurd H (by simp)
   ·rw [if_neg c3] at H
    have c3b0 := decide_eq_false c3
    clear c3
    simp only [Option.some.injEq, Prod.mk.injEq] at H
    obtain ⟨rfl, rfl⟩ := H
    obtain ⟨Ao9, co9, eo9⟩ := Kd.R_slice HO_0.out
    subst eo9
    go_wp2
    go_ret
    exact ⟨Sh.eR, Sh.rl HO_0.out, Sh.bw, by repeat (first | (with_reducible first | exact HK.out | apply Kept.alloc | apply Kept.drewN | apply Kept.drew) | exact HK.out)⟩
def laws_markUint64SS.f (k : Nat) : List (List (Int)) → Int → Option (Int × List (List (Int)))
 | [], a => some (a, [])
 | x :: t, a => (laws_markUint64S.f k x a).bind fun b => (laws_markUint64SS.f k t b.1).bind fun c => some (c.1, b.2 :: c.2)
theorem laws_markUint64SS.len (k : Nat) : ∀ (l : List (List (Int))) (a r1 : Int) (r2 : List (List (Int))), laws_markUint64SS.f k l a = some (r1, r2) → r2.length = l.length
 | [], a, r1, r2, h => by
  simp only [laws_markUint64SS.f, Option.some.injEq, Prod.mk.injEq] at h
  rw [← h.2]
 | x :: t, a, r1, r2, h => by
  simp only [laws_markUint64SS.f] at h
  obtain ⟨b, hb, h⟩ := Option.bind_eq_some_iff.mp h
  obtain ⟨c, hc, h⟩ := Option.bind_eq_some_iff.mp h
  simp only [Option.some.injEq, Prod.mk.injEq] at h
  rw [← h.2, List.length_cons, List.length_cons, laws_markUint64SS.len k t b.1 c.1 c.2 hc]
/-- The rows inside a row of rows of one's own: outer cells, and each inner row by itself. -/
def laws_markUint64SS.I (P0 : Nat → Prop) (f : Nat → Nat) (base : Nat) (v : Value) (n : Nat) (inner : List Value) (W : World) (L : List (List (Int))) : Prop :=
 W.ownsRow base 26 1 v n inner ∧ L.length = n ∧ ∀ i, i < n → ∃ u, inner[i]? = some u ∧ Kd.R (Kd.int .u64) 59 W base (fun k => (P0 k ∧ some k ≠ v.ownBlock) ∧ f k = i) u (L.getD i [])
theorem laws_markUint64SS.split {P0 : Nat → Prop} {base : Nat} {v : Value} {W : World} {l : List (List (Int))} (h : Kd.S (Kd.slice 59 (Kd.int .u64)) 26 W base P0 v l) :
  ∃ f inner, (∀ k, v.ownBlock = some k → P0 k) ∧ laws_markUint64SS.I P0 f base v l.length inner W l := by
 obtain ⟨f, hok, inner, hown, hrep⟩ := h
 rw [List.length_zipIdx] at hown
 refine ⟨f, inner, hok, hown, rfl, fun i hi => ?_⟩
 obtain ⟨u, hu, hr⟩ := hrep.2 i (l[i], i) (by rw [List.getElem?_zipIdx, List.getElem?_eq_getElem hi]; simp)
 rw [show (Kd.tag f (Kd.slice 59 (Kd.int .u64))).sz = 1 from rfl, Nat.mul_one] at hu
 refine ⟨u, ?_, ?_⟩
 ·have := congrArg (fun c => c[0]?) hu
  simpa [List.getElem?_take, List.getElem?_drop] using this
 ·rw [List.getD_eq_getElem?_getD, List.getElem?_eq_getElem hi]; exact hr
theorem laws_markUint64SS.join {P0 : Nat → Prop} {f : Nat → Nat} {base : Nat} {v : Value} {inner : List Value} {W : World} {L : List (List (Int))} (hok : ∀ k, v.ownBlock = some k → P0 k) (h : laws_markUint64SS.I P0 f base v L.length inner W L) :
  Kd.S (Kd.slice 59 (Kd.int .u64)) 26 W base P0 v L := by
 obtain ⟨hown, _, hr⟩ := h
 refine ⟨f, hok, inner, by rw [List.length_zipIdx]; exact hown, ?_, fun j p hj => ?_⟩
 ·rw [List.length_zipIdx]; exact hown.1
 ·rw [List.getElem?_zipIdx] at hj
  obtain ⟨x, hx, rfl⟩ := Option.map_eq_some_iff.1 hj
  have hi := (List.getElem?_eq_some_iff.1 hx).1
  obtain ⟨u, hu, h1⟩ := hr j hi
  refine ⟨u, ?_, ?_⟩
  ·rw [show (Kd.tag f (Kd.slice 59 (Kd.int .u64))).sz = 1 from rfl, Nat.mul_one]
   have hl := hown.1
   apply List.ext_getElem?
   intro q
   rw [List.getElem?_take, List.getElem?_drop]
   by_cases hq : q < 1
   ·obtain rfl : q = 0 := by omega
    simpa using hu
   ·rw [if_neg hq]; rw [List.getElem?_eq_none (by simp; omega)]
  ·rw [List.getD_eq_getElem?_getD, hx] at h1
   simpa using h1
theorem laws_markUint64SS.drop_consM {l : List (List (Int))} {j : Nat} (h : j < l.length) : l.drop j = l.getD j [] :: l.drop (j + 1) := by
 rw [List.drop_eq_getElem_cons h]
 simp [List.getD_eq_getElem?_getD, List.getElem?_eq_getElem h]
theorem laws_markUint64SS.calls (k : Nat) (P0_ : Nat → Prop) (u9000_ : Value) (l0 : List (List (Int))) (a1 : Int) (r1 : Int) (r2 : List (List (Int))) (w0 w : World) (hB : Below w0.heap.size w0 w) (ho0 : Kd.S (Kd.slice 59 (Kd.int .u64)) 26 w w0.heap.size P0_ u9000_ l0) (h : laws_markUint64SS.f k l0 a1 = some (r1, r2)) :
  Calls Tryz.prog 18 #[u9000_, .int .i64 a1] w fun e w' => e = .returned (.int .i64 r1) ∧ Kd.S (Kd.slice 59 (Kd.int .u64)) 26 w' w0.heap.size P0_ u9000_ r2 ∧ Below w0.heap.size w0 w' ∧ Kept w w' (fun k_ => P0_ k_) := by
 obtain ⟨f, inner, hok, hI⟩ := laws_markUint64SS.split ho0
 have hn : l0.length ≤ 9223372036854775807 := (Kd.S_reads ho0).choose_spec.choose_spec.2.2.2.1
 obtain ⟨A, c, hv⟩ := Kd.S_slice ho0
 subst hv
 have HH := am_ h
 have HO := am_ hok
 have HI := am_ hI
 have HB := am_ hB
 have HK := am_ (Kept.refl w P0_)
 clear h hok hI hB ho0
 go_enter Tryz.func18, Tryz.ntmps18
 go_wp2
 go_loopg [1, 5] l0.length (fun gg v1 v5 wr => ∃ (j : Nat) (a : Int) (d t : List (List (Int))), j ≤ l0.length ∧ l0.length - j ≤ gg ∧ v1 = .int .i64 a ∧ v5 = .int .i64 j ∧ d.length = j ∧ Aside0 (laws_markUint64SS.f k (l0.drop j) a = some (r1, t)) ∧ Aside0 (d ++ t = r2) ∧ Aside0 (laws_markUint64SS.I P0_ f w0.heap.size (.slice A l0.length c) l0.length inner wr (d ++ l0.drop j)) ∧ Aside0 (Below w0.heap.size w0 wr) ∧ Aside0 (Kept w wr P0_))
 case atStart => exact ⟨0, a1, [], r2, Nat.zero_le _, by omega, rfl, rfl, rfl, HH, ⟨rfl⟩, HI, HB, HK⟩
 case round =>
  obtain ⟨j, a, d, t, hj, hg, rfl, rfl, hd, HF, HT, HI2, HB2, HK2⟩ := hrel
  clear HH HI HB HK
  by_cases hlt : j < l0.length
  ·have hltz : (j : Int) < (l0.length : Int) := by omega
   have hF := HF.out
   rw [laws_markUint64SS.drop_consM hlt] at hF
   simp only [laws_markUint64SS.f] at hF
   obtain ⟨b, hb0, hF⟩ := Option.bind_eq_some_iff.mp hF
   obtain ⟨cc, hc0, hF⟩ := Option.bind_eq_some_iff.mp hF
   simp only [Option.some.injEq, Prod.mk.injEq] at hF
   obtain ⟨rfl, rfl⟩ := hF
   obtain ⟨hown, hL, hrs⟩ := HI2.out
   obtain ⟨u, hu, hru⟩ := hrs j hlt
   have eL : (d ++ l0.drop j).getD j [] = l0.getD j [] := by
    rw [List.getD_eq_getElem?_getD, List.getElem?_append_right (by omega), hd, Nat.sub_self, List.getElem?_drop, List.getD_eq_getElem?_getD]; simp
   rw [eL] at hru
   obtain ⟨hl1, ⟨e1, hz⟩ | ⟨g, cap, cur, e1, hbg, hcur, hcap, _, hsz1, htake⟩⟩ := id hown
   ·omega
   have eA : A = some ⟨g, 0, none⟩ := by injection e1
   subst eA
   have hx : wr.cell? ⟨g, j, none⟩ = some u := by
    refine (blk_cell hcur j).trans ?_
    rw [← htake, List.getElem?_take] at hu
    rw [if_pos (by omega)] at hu
    simpa using hu
   have HF2 := am_ (And.intro hb0 hc0)
   have HRU := am_ hru
   have HRS := am_ hrs
   have HOW := am_ hown
   clear hF hb0 hc0 hru hrs hown hl1 e1 hbg hcur hcap hsz1 htake hL
   go_wp2_with (first | (go_at_call 16; go_loud (refine (laws_markUint64S.calls k _ u (l0.getD j []) a b.1 b.2 w0 _ HB2.out HRU.out HF2.out.1).mono ?_); rintro e w' ⟨rfl, hR, hb, hkp⟩))
   go_roundg (l0.length - (j + 1))
   case measure => omega
   case rel =>
    refine ⟨j + 1, b.1, d ++ [b.2], cc.2, by omega, by omega, rfl, by go_num, by simp [hd], ⟨HF2.out.2⟩, ⟨by rw [← HT.out]; simp⟩, ⟨?_, ?_, ?_⟩, ⟨hb⟩, ⟨HK2.out.then_ hkp (fun k_ hk => .inl hk.1.1)⟩⟩
    ·exact own_move HOW.out (fun k_ hk => hkp.2 k_ (own_lt HOW.out k_ hk) (fun h_ => h_.1.2 hk.symm))
    ·simp [hd]; omega
    ·intro i hi
     by_cases hij : i = j
     ·subst hij
      refine ⟨u, hu, ?_⟩
      rw [show (d ++ [b.2] ++ l0.drop (i + 1)).getD i [] = b.2 by rw [List.getD_eq_getElem?_getD, List.append_assoc, List.getElem?_append_right (by omega), hd, Nat.sub_self]; simp]
      exact Kd.R_reok rfl hR (fun k_ e_ => HRU.out.1 k_ e_)
     ·obtain ⟨u2, hu2, hr2⟩ := HRS.out i hi
      refine ⟨u2, hu2, ?_⟩
      rw [show (d ++ [b.2] ++ l0.drop (j + 1)).getD i [] = (d ++ l0.drop j).getD i [] by
       rw [laws_markUint64SS.drop_consM hlt, List.getD_eq_getElem?_getD, List.getD_eq_getElem?_getD]
       rcases Nat.lt_or_ge i j with h1 | h1
       ·rw [List.append_assoc, List.getElem?_append_left (by omega), List.getElem?_append_left (by omega)]
       ·have e1 : (d ++ ([b.2] ++ l0.drop (j + 1)))[i]? = ([b.2] ++ l0.drop (j + 1))[i - d.length]? := List.getElem?_append_right (by omega)
        have e2 : (d ++ (l0.getD j [] :: l0.drop (j + 1)))[i]? = (l0.getD j [] :: l0.drop (j + 1))[i - d.length]? := List.getElem?_append_right (by omega)
        rw [List.append_assoc, e1, e2, hd]
        obtain ⟨q, hq⟩ : ∃ q, i - j = q + 1 := ⟨i - j - 1, by omega⟩
        rw [hq]; simp]
      exact Kd.R_step hr2 (fun k_ hk hlt2 => hkp.2 k_ hlt2 (fun h_ => hij (hk.2.symm.trans h_.2)))
  ·have hltz : ¬ (j : Int) < (l0.length : Int) := by omega
   have hF := HF.out
   rw [List.drop_of_length_le (by omega)] at hF
   simp only [laws_markUint64SS.f, Option.some.injEq, Prod.mk.injEq] at hF
   obtain ⟨rfl, rfl⟩ := hF
   go_wp2
   go_ret
   have hI := HI2.out
   rw [List.drop_of_length_le (by omega), HT.out] at hI
   have hl2 : r2.length = l0.length := hI.2.1
   refine ⟨rfl, ?_, HB2.out, HK2.out⟩
   rw [← hl2] at hI ⊢
   exact laws_markUint64SS.join (f := f) (inner := inner) (by rw [hl2]; exact HO.out) hI
def laws_markBoolS.l0 : Nat → List Bool → Int → Int → Option (Int × List Bool)
 | 0, _, _, _ => none
 | k + 1, x0, x1, x5 => if x5 < (x0.length : Int) then (if 0 ≤ x5 then (laws_markBoolS.l0 k (x0.set (x5 : Int).toNat ((Int.tmod x1 3) == 0)) (wrap64 (x1 + 1)) (wrap64 (x5 + 1))) else (none)) else (some (x1, x0))
def laws_markBoolS.f (k : Nat) (l0 : List Bool) (a1 : Int) : Option (Int × List Bool) := laws_markBoolS.l0 k l0 a1 0
theorem laws_markBoolS.mono_l : ∀ k, (∀ y0 y1 y2, LeO (laws_markBoolS.l0 k y0 y1 y2) (laws_markBoolS.l0 (k + 1) y0 y1 y2))
 | 0 => fun _ _ _ r h => by simp [laws_markBoolS.l0] at h
 | k + 1 => by
  have ih0 := laws_markBoolS.mono_l k
  ·intro y0 y1 y2
   unfold laws_markBoolS.l0
   repeat' with_reducible first | apply ih0 | exact LeO.refl _ | exact LeO.none _ | apply LeO.ite | refine LeO.bind ?_ fun _ => ?_
theorem laws_markBoolS.mono : ∀ a0 a1 k, LeO (laws_markBoolS.f k a0 a1) (laws_markBoolS.f (k + 1) a0 a1) := by
 intro a0 a1 k
 have ih0 := laws_markBoolS.mono_l k
 unfold laws_markBoolS.f
 repeat' with_reducible first | apply ih0 | exact LeO.refl _ | exact LeO.none _ | apply LeO.ite | refine LeO.bind ?_ fun _ => ?_
theorem laws_markBoolS.calls (k : Nat) (P0_ : Nat → Prop) (u9000_ : Value) (l0 : List Bool) (a1 : Int) (r1 : Int) (r2 : List Bool) (w0 w : World) (hB : Below w0.heap.size w0 w) (ho0 : Kd.R Kd.bool 4 w w0.heap.size P0_ u9000_ l0) (h : laws_markBoolS.f k l0 a1 = some (r1, r2)) :
  Calls Tryz.prog 19 #[u9000_, .int .i64 a1] w fun e w' => e = .returned (.int .i64 r1) ∧ Kd.R Kd.bool 4 w' w0.heap.size (fun k_ => (P0_ k_ ∨ w.heap.size ≤ k_)) u9000_ r2 ∧ Below w0.heap.size w0 w' ∧ Kept w w' (fun k_ => P0_ k_) := by
 have HO0 := am_ (show Kd.R Kd.bool 4 w w0.heap.size (fun k_ => (P0_ k_ ∨ w.heap.size ≤ k_)) u9000_ l0 from Kd.R_mono ho0 (fun k_ hk => (.inl hk)))
 have HK := am_ (Kept.refl w (fun k_ => P0_ k_))
 have HW0 := am_ hB.size
 have HB := am_ hB
 clear hB
 have H := h
 clear h
 unfold laws_markBoolS.f at H
 have H' := am_ H
 clear H
 go_enter Tryz.func19, Tryz.ntmps19
 go_wp2
 go_loopg [1, 5] k (fun kq v1 v5 w' => ∃ (x0_1 : List Bool) (x1_1 : Int) (x5_1 : Int), v1 = .int .i64 x1_1 ∧ v5 = .int .i64 x5_1 ∧ Aside0 (laws_markBoolS.l0 kq x0_1 x1_1 x5_1 = some (r1, r2)) ∧ Aside0 (kq ≤ k) ∧ Aside0 (Kd.R Kd.bool 4 w' w0.heap.size (fun k_ => (P0_ k_ ∨ w.heap.size ≤ k_)) u9000_ x0_1) ∧ Aside0 (Kept w w' (fun k_ => P0_ k_)) ∧ Aside0 (Below w0.heap.size w0 w'))
 case atStart => exact ⟨(l0), (a1), (0), (Sh.es), (Sh.es), H', ⟨Nat.le_refl _⟩, ⟨Sh.rl HO0.out⟩, ⟨by repeat (first | (with_reducible first | exact HK.out | apply Kept.alloc | apply Kept.drewN | apply Kept.drew) | exact HK.out)⟩, ⟨Sh.bw⟩⟩
 case round =>
  clear H'
  obtain ⟨x0_1, x1_1, x5_1, rfl, rfl, HA, HK1, HO_0, HK, HB⟩ := hrel
  cases gk with
  | zero => exact absurd HA.out (by simp [laws_markBoolS.l0])
  | succ k1 =>
   have H := HA.out
   clear HA
   simp only [laws_markBoolS.l0] at H
   by_cases c3 : x5_1 < (x0_1.length : Int)
   ·rw [if_pos c3] at H
    have c3b0 := decide_eq_true c3
    clear c3
    by_cases c4 : 0 ≤ x5_1
    ·rw [if_pos c4] at H
     have c4b0 := decide_eq_true c4
     clear c4
     obtain ⟨y534, hy534⟩ : ∃ y_ : List Bool, y_ = (x0_1.set (x5_1 : Int).toNat ((Int.tmod x1_1 3) == 0)) := ⟨_, rfl⟩
     replace H : (laws_markBoolS.l0 k1 y534 (wrap64 (x1_1 + 1)) (wrap64 (x5_1 + 1))) = some (r1, r2) := by first | (rw [hy534]; with_reducible exact H) | (have H2_ := (Option.bind_some _ _).symm.trans H; rw [hy534]; with_reducible exact H2_) | (have H2_ := (Option.bind_some _ _).symm.trans H; with_reducible exact H2_) | with_reducible exact H | (rw [hy534]; exact H) | exact H
     have Ny534 := am_ hy534
     clear hy534
     have H' := am_ H
     clear H
     obtain ⟨Ao6, co6, eo6⟩ := Kd.R_slice HO_0.out
     subst eo6
     have p5 : 0 ≤ (x5_1 : Int) := Sh.od
     have q5 : (x5_1 : Int) < ((x0_1.length : Int) : Int) := Sh.od
     obtain ⟨go5, co5, eo5, gb5, gl5, cl5, HG5⟩ := Kd.R_form HO_0.out (by omega)
     (first | cases eo5 | (injection eo5 with ea_ en_ ec_; (first | subst ea_ | (injection ea_ with ea_; subst ea_)); subst ec_; clear en_))
     have GB5 := am_ gb5
     have GG5 := am_ HG5
     clear gb5 gl5 HG5
     have HMgo5 := am_ (show (P0_ go5 ∨ w.heap.size ≤ go5) from (HO_0.out.1 _ rfl))
     obtain ⟨hx5_0, hf5_0⟩ := Kd.R_celln false HO_0.out (x5_1 : Int) p5 q5
     replace p5 := eq_true p5
     replace q5 := eq_true q5
     have HP7 := Kd.R_putg HO_0.out (x5_1 : Int) ((Int.tmod x1_1 3) == 0)
     go_wp2_with (first | ((with_reducible refine gate_store (t := 4) (p := 17) rfl ?_); refine store_event (t := 4) (p := 17) (v := ?vo_w8) (w1 := (wr.setCell ⟨go5, (x5_1 : Int).toNat, none⟩ (.bool ((Int.tmod x1_1 3) == 0)))) ?hg ?ho ?hn ?hr ?_; (case ho => rfl); (case hg => rfl); (case hn => rfl); (case hr => first | (go_simp; done) | (go_simp; rfl)); intro w8 hw; have hg : wr.grownBy w8 (some go5) := (by rw [hw]; exact HP7.2); have hp_ : Kd.R Kd.bool 4 w8 w0.heap.size (fun k_ => (P0_ k_ ∨ w.heap.size ≤ k_)) (.slice (some ⟨go5, 0, none⟩) x0_1.length co6) y534 := (by rw [hw, Ny534.out]; exact HP7.1); clear HP7; replace HB := am_ ((by rw [hw]; exact below_set (HB.out) GB5.out : Below w0.heap.size w0 w8)); replace HK := am_ (Kept.of_grown (S := (fun k_ => P0_ k_)) hg (by repeat (first | (with_reducible first | exact HK.out | apply Kept.alloc | apply Kept.drewN | apply Kept.drew) | exact HK.out)) (fun k_ e_ => (HO_0.out.1 k_ e_))); replace HO_0 := am_ hp_; clear hg hw hp_))
     go_roundg k1
     case measure => have := HK1.out; omega
     case rel => exact ⟨(y534), (wrap64 (x1_1 + 1)), (wrap64 (x5_1 + 1)), (Sh.es), (Sh.es), H', ⟨by have := HK1.out; omega⟩, ⟨Sh.rl HO_0.out⟩, ⟨by repeat (first | (with_reducible first | exact HK.out | apply Kept.alloc | apply Kept.drewN | apply Kept.drew) | exact HK.out)⟩, ⟨Sh.bw⟩⟩
    ·rw [if_neg c4] at H
     exact absurd H (by simp)
   ·rw [if_neg c3] at H
    have c3b0 := decide_eq_false c3
    clear c3
    simp only [Option.some.injEq, Prod.mk.injEq] at H
    obtain ⟨rfl, rfl⟩ := H
    obtain ⟨Ao9, co9, eo9⟩ := Kd.R_slice HO_0.out
    subst eo9
    go_wp2
    go_ret
    exact ⟨Sh.eR, Sh.rl HO_0.out, Sh.bw, by repeat (first | (with_reducible first | exact HK.out | apply Kept.alloc | apply Kept.drewN | apply Kept.drew) | exact HK.out)⟩
def laws_heldUint64S.l0 : Nat → List Int → Int → Int → Option (Int)
 | 0, _, _, _ => none
 | k + 1, x0, x1, x5 => if x5 < (x0.length : Int) then (if 0 ≤ x5 then (if (rd x0 x5) = (IntKind.u64.wrap (x1)) then (laws_heldUint64S.l0 k x0 (wrap64 (x1 + 1)) (wrap64 (x5 + 1))) else (some (-1))) else (none)) else (some x1)
def laws_heldUint64S.f (k : Nat) (l0 : List Int) (a1 : Int) : Option (Int) := laws_heldUint64S.l0 k l0 a1 0
theorem laws_heldUint64S.mono_l : ∀ k, (∀ y0 y1 y2, LeO (laws_heldUint64S.l0 k y0 y1 y2) (laws_heldUint64S.l0 (k + 1) y0 y1 y2))
 | 0 => fun _ _ _ r h => by simp [laws_heldUint64S.l0] at h
 | k + 1 => by
  have ih0 := laws_heldUint64S.mono_l k
  ·intro y0 y1 y2
   unfold laws_heldUint64S.l0
   repeat' with_reducible first | apply ih0 | exact LeO.refl _ | exact LeO.none _ | apply LeO.ite | refine LeO.bind ?_ fun _ => ?_
theorem laws_heldUint64S.mono : ∀ a0 a1 k, LeO (laws_heldUint64S.f k a0 a1) (laws_heldUint64S.f (k + 1) a0 a1) := by
 intro a0 a1 k
 have ih0 := laws_heldUint64S.mono_l k
 unfold laws_heldUint64S.f
 repeat' with_reducible first | apply ih0 | exact LeO.refl _ | exact LeO.none _ | apply LeO.ite | refine LeO.bind ?_ fun _ => ?_
theorem laws_heldUint64S.calls (k : Nat) (A0 : Option Addr) (c0 : Nat) (l0 : List Int) (a1 : Int) (r : Int) (w : World) (hr0 : Kd.C (Kd.int .u64) w A0 l0.length l0) (hc0 : l0.length ≤ c0) (h : laws_heldUint64S.f k l0 a1 = some r) :
  Calls Tryz.prog 36 #[.slice A0 l0.length c0, .int .i64 a1] w fun e w' => e = .returned (.int .i64 r) ∧ Drawn0 w w' := by
 have HR0 := am_ hr0
 have HC0 := am_ hc0
 clear hr0 hc0
 have H := h
 clear h
 unfold laws_heldUint64S.f at H
 have H' := am_ H
 clear H
 go_enter Tryz.func36, Tryz.ntmps36
 go_wp2
 go_loopg [1, 5] k (fun kq v1 v5 w' => ∃ (x1_1 : Int) (x5_1 : Int), v1 = .int .i64 x1_1 ∧ v5 = .int .i64 x5_1 ∧ Aside0 (laws_heldUint64S.l0 kq l0 x1_1 x5_1 = some r) ∧ Aside0 (kq ≤ k) ∧ Drawn0 w w')
 case atStart => exact ⟨(a1), (0), (Sh.es), (Sh.es), H', ⟨Nat.le_refl _⟩, Sh.dr⟩
 case round =>
  clear H'
  obtain ⟨x1_1, x5_1, rfl, rfl, HA, HK1, ⟨m1, rfl⟩⟩ := hrel
  cases gk with
  | zero => exact absurd HA.out (by simp [laws_heldUint64S.l0])
  | succ k1 =>
   have H := HA.out
   clear HA
   simp only [laws_heldUint64S.l0] at H
   by_cases c3 : x5_1 < (l0.length : Int)
   ·rw [if_pos c3] at H
    have c3b0 := decide_eq_true c3
    clear c3
    by_cases c4 : 0 ≤ x5_1
    ·rw [if_pos c4] at H
     have c4b0 := decide_eq_true c4
     clear c4
     by_cases c5 : (rd l0 x5_1) = (IntKind.u64.wrap (x1_1))
     ·rw [if_pos c5] at H
      have c5b0 : ((rd l0 x5_1) == (IntKind.u64.wrap (x1_1))) = true := beq_iff_eq.mpr c5
      have c5b1 : ((rd l0 x5_1) != (IntKind.u64.wrap (x1_1))) = false := bne_eq_false_iff_eq.mpr c5
      clear c5
      have H' := am_ H
      clear H
      have p535 : 0 ≤ (x5_1 : Int) := Sh.od
      have q535 : x5_1 < (l0.length : Int) := Sh.od
      obtain ⟨ad535, e535, hx535_0⟩ := Kd.at_int HR0.out x5_1 p535 q535
      cases e535
      replace p535 := eq_true p535
      replace q535 := eq_true q535
      go_wp2
      go_roundg k1
      case measure => have := HK1.out; omega
      case rel => exact ⟨(wrap64 (x1_1 + 1)), (wrap64 (x5_1 + 1)), (Sh.es), (Sh.es), H', ⟨by have := HK1.out; omega⟩, Sh.dr⟩
     ·rw [if_neg c5] at H
      have c5b0 : ((rd l0 x5_1) == (IntKind.u64.wrap (x1_1))) = false := beq_eq_false_iff_ne.mpr c5
      have c5b1 : ((rd l0 x5_1) != (IntKind.u64.wrap (x1_1))) = true := bne_iff_ne.mpr c5
      obtain rfl := Option.some.inj H
      have p535 : 0 ≤ (x5_1 : Int) := Sh.od
      have q535 : x5_1 < (l0.length : Int) := Sh.od
      obtain ⟨ad535, e535, hx535_0⟩ := Kd.at_int HR0.out x5_1 p535 q535
      cases e535
      replace p535 := eq_true p535
      replace q535 := eq_true q535
      go_wp2
      go_ret
      exact ⟨Sh.es, Sh.dr⟩
    ·rw [if_neg c4] at H
     exact absurd H (by simp)
   ·rw [if_neg c3] at H
    have c3b0 := decide_eq_false c3
    clear c3
    obtain rfl := Option.some.inj H
    go_wp2
    go_ret
    exact ⟨Sh.es, Sh.dr⟩
def laws_heldUint64SS.l0 : Nat → List (List Int) → Int → Int → Option (Int)
 | 0, _, _, _ => none
 | k + 1, x0, x1, x5 => if x5 < (x0.length : Int) then (if 0 ≤ x5 then ((laws_heldUint64S.f k (rd_L12 x0 x5) x1).bind fun t537 => (if t537 < 0 then (some (-1)) else (laws_heldUint64SS.l0 k x0 t537 (wrap64 (x5 + 1))))) else (none)) else (some x1)
def laws_heldUint64SS.f (k : Nat) (l0 : List (List Int)) (a1 : Int) : Option (Int) := laws_heldUint64SS.l0 k l0 a1 0
theorem laws_heldUint64SS.mono_l : ∀ k, (∀ y0 y1 y2, LeO (laws_heldUint64SS.l0 k y0 y1 y2) (laws_heldUint64SS.l0 (k + 1) y0 y1 y2))
 | 0 => fun _ _ _ r h => by simp [laws_heldUint64SS.l0] at h
 | k + 1 => by
  have ih0 := laws_heldUint64SS.mono_l k
  ·intro y0 y1 y2
   unfold laws_heldUint64SS.l0
   repeat' with_reducible first | apply ih0 | apply laws_heldUint64S.mono | exact LeO.refl _ | exact LeO.none _ | apply LeO.ite | refine LeO.bind ?_ fun _ => ?_
theorem laws_heldUint64SS.mono : ∀ a0 a1 k, LeO (laws_heldUint64SS.f k a0 a1) (laws_heldUint64SS.f (k + 1) a0 a1) := by
 intro a0 a1 k
 have ih0 := laws_heldUint64SS.mono_l k
 unfold laws_heldUint64SS.f
 repeat' with_reducible first | apply ih0 | apply laws_heldUint64S.mono | exact LeO.refl _ | exact LeO.none _ | apply LeO.ite | refine LeO.bind ?_ fun _ => ?_
theorem laws_heldUint64SS.calls (k : Nat) (A0 : Option Addr) (c0 : Nat) (l0 : List (List Int)) (a1 : Int) (r : Int) (w : World) (hr0 : Kd.C (Kd.slice 59 (Kd.int .u64)) w A0 l0.length l0) (hc0 : l0.length ≤ c0) (h : laws_heldUint64SS.f k l0 a1 = some r) :
  Calls Tryz.prog 20 #[.slice A0 l0.length c0, .int .i64 a1] w fun e w' => e = .returned (.int .i64 r) ∧ Drawn0 w w' := by
 have HR0 := am_ hr0
 have HC0 := am_ hc0
 clear hr0 hc0
 have H := h
 clear h
 unfold laws_heldUint64SS.f at H
 have H' := am_ H
 clear H
 go_enter Tryz.func20, Tryz.ntmps20
 go_wp2
 go_loopg [1, 5] k (fun kq v1 v5 w' => ∃ (x1_1 : Int) (x5_1 : Int), v1 = .int .i64 x1_1 ∧ v5 = .int .i64 x5_1 ∧ Aside0 (laws_heldUint64SS.l0 kq l0 x1_1 x5_1 = some r) ∧ Aside0 (kq ≤ k) ∧ Drawn0 w w')
 case atStart => exact ⟨(a1), (0), (Sh.es), (Sh.es), H', ⟨Nat.le_refl _⟩, Sh.dr⟩
 case round =>
  clear H'
  obtain ⟨x1_1, x5_1, rfl, rfl, HA, HK1, ⟨m1, rfl⟩⟩ := hrel
  cases gk with
  | zero => exact absurd HA.out (by simp [laws_heldUint64SS.l0])
  | succ k1 =>
   have H := HA.out
   clear HA
   simp only [laws_heldUint64SS.l0] at H
   by_cases c3 : x5_1 < (l0.length : Int)
   ·rw [if_pos c3] at H
    have c3b0 := decide_eq_true c3
    clear c3
    by_cases c4 : 0 ≤ x5_1
    ·rw [if_pos c4] at H
     have c4b0 := decide_eq_true c4
     clear c4
     obtain ⟨t537, A5, H⟩ := Sh.ba H
     by_cases c6 : t537 < 0
     ·rw [if_pos c6] at H
      have c6b0 := decide_eq_true c6
      clear c6
      obtain rfl := Option.some.inj H
      have p536 : 0 ≤ (x5_1 : Int) := Sh.od
      have q536 : x5_1 < (l0.length : Int) := Sh.od
      obtain ⟨ad536, A536_0, c536_0, e536, hx536_0, hl536_0, hi536_0⟩ := at_L12 HR0.out x5_1 p536 q536
      cases e536
      have HR536_0 := am_ hi536_0
      have HC536_0 := am_ hl536_0
      clear hi536_0 hl536_0
      replace p536 := eq_true p536
      replace q536 := eq_true q536
      go_wp2_with (first | ((with_reducible refine Sh.k 36 ?_); refine Sh.gL (some 17) Tryz.func36 #[.slice A536_0 (rd_L12 l0 x5_1).length c536_0, .int .i64 x1_1] (h := ?_); (with_reducible refine (laws_heldUint64S.calls k1 _ _ (rd_L12 l0 x5_1) x1_1 t537 _ ?side1 ?side2 A5.out).mono ?_); (case side1 => repeat (first | exact HR536_0.out | (with_reducible first | refine Kd.C_alloc ?_ _ | refine Kd.C_drewN ?_ _ | refine Kd.C_drew ?_))); (case side2 => exact HC536_0.out); rintro e w' ⟨rfl, ⟨nd, rfl⟩⟩; refine ⟨_, rfl, ?_⟩))
      go_ret
      exact ⟨Sh.es, Sh.dr⟩
     ·rw [if_neg c6] at H
      have c6b0 := decide_eq_false c6
      clear c6
      have H' := am_ H
      clear H
      have p536 : 0 ≤ (x5_1 : Int) := Sh.od
      have q536 : x5_1 < (l0.length : Int) := Sh.od
      obtain ⟨ad536, A536_0, c536_0, e536, hx536_0, hl536_0, hi536_0⟩ := at_L12 HR0.out x5_1 p536 q536
      cases e536
      have HR536_0 := am_ hi536_0
      have HC536_0 := am_ hl536_0
      clear hi536_0 hl536_0
      replace p536 := eq_true p536
      replace q536 := eq_true q536
      go_wp2_with (first | ((with_reducible refine Sh.k 36 ?_); refine Sh.gL (some 17) Tryz.func36 #[.slice A536_0 (rd_L12 l0 x5_1).length c536_0, .int .i64 x1_1] (h := ?_); (with_reducible refine (laws_heldUint64S.calls k1 _ _ (rd_L12 l0 x5_1) x1_1 t537 _ ?side1 ?side2 A5.out).mono ?_); (case side1 => repeat (first | exact HR536_0.out | (with_reducible first | refine Kd.C_alloc ?_ _ | refine Kd.C_drewN ?_ _ | refine Kd.C_drew ?_))); (case side2 => exact HC536_0.out); rintro e w' ⟨rfl, ⟨nd, rfl⟩⟩; refine ⟨_, rfl, ?_⟩))
      go_roundg k1
      case measure => have := HK1.out; omega
      case rel => exact ⟨(t537), (wrap64 (x5_1 + 1)), (Sh.es), (Sh.es), H', ⟨by have := HK1.out; omega⟩, Sh.dr⟩
    ·rw [if_neg c4] at H
     exact absurd H (by simp)
   ·rw [if_neg c3] at H
    have c3b0 := decide_eq_false c3
    clear c3
    obtain rfl := Option.some.inj H
    go_wp2
    go_ret
    exact ⟨Sh.es, Sh.dr⟩
def laws_heldBoolS.l0 : Nat → List Bool → Int → Int → Option (Int)
 | 0, _, _, _ => none
 | k + 1, x0, x1, x5 => if x5 < (x0.length : Int) then (if 0 ≤ x5 then (if ((rdOf false x0 x5) != ((Int.tmod x1 3) == 0)) = true then (some (-1)) else (laws_heldBoolS.l0 k x0 (wrap64 (x1 + 1)) (wrap64 (x5 + 1)))) else (none)) else (some x1)
def laws_heldBoolS.f (k : Nat) (l0 : List Bool) (a1 : Int) : Option (Int) := laws_heldBoolS.l0 k l0 a1 0
theorem laws_heldBoolS.mono_l : ∀ k, (∀ y0 y1 y2, LeO (laws_heldBoolS.l0 k y0 y1 y2) (laws_heldBoolS.l0 (k + 1) y0 y1 y2))
 | 0 => fun _ _ _ r h => by simp [laws_heldBoolS.l0] at h
 | k + 1 => by
  have ih0 := laws_heldBoolS.mono_l k
  ·intro y0 y1 y2
   unfold laws_heldBoolS.l0
   repeat' with_reducible first | apply ih0 | exact LeO.refl _ | exact LeO.none _ | apply LeO.ite | refine LeO.bind ?_ fun _ => ?_
theorem laws_heldBoolS.mono : ∀ a0 a1 k, LeO (laws_heldBoolS.f k a0 a1) (laws_heldBoolS.f (k + 1) a0 a1) := by
 intro a0 a1 k
 have ih0 := laws_heldBoolS.mono_l k
 unfold laws_heldBoolS.f
 repeat' with_reducible first | apply ih0 | exact LeO.refl _ | exact LeO.none _ | apply LeO.ite | refine LeO.bind ?_ fun _ => ?_
theorem laws_heldBoolS.calls (k : Nat) (A0 : Option Addr) (c0 : Nat) (l0 : List Bool) (a1 : Int) (r : Int) (w : World) (hr0 : Kd.C Kd.bool w A0 l0.length l0) (hc0 : l0.length ≤ c0) (h : laws_heldBoolS.f k l0 a1 = some r) :
  Calls Tryz.prog 21 #[.slice A0 l0.length c0, .int .i64 a1] w fun e w' => e = .returned (.int .i64 r) ∧ Drawn0 w w' := by
 have HR0 := am_ hr0
 have HC0 := am_ hc0
 clear hr0 hc0
 have H := h
 clear h
 unfold laws_heldBoolS.f at H
 have H' := am_ H
 clear H
 go_enter Tryz.func21, Tryz.ntmps21
 go_wp2
 go_loopg [1, 5] k (fun kq v1 v5 w' => ∃ (x1_1 : Int) (x5_1 : Int), v1 = .int .i64 x1_1 ∧ v5 = .int .i64 x5_1 ∧ Aside0 (laws_heldBoolS.l0 kq l0 x1_1 x5_1 = some r) ∧ Aside0 (kq ≤ k) ∧ Drawn0 w w')
 case atStart => exact ⟨(a1), (0), (Sh.es), (Sh.es), H', ⟨Nat.le_refl _⟩, Sh.dr⟩
 case round =>
  clear H'
  obtain ⟨x1_1, x5_1, rfl, rfl, HA, HK1, ⟨m1, rfl⟩⟩ := hrel
  cases gk with
  | zero => exact absurd HA.out (by simp [laws_heldBoolS.l0])
  | succ k1 =>
   have H := HA.out
   clear HA
   simp only [laws_heldBoolS.l0] at H
   by_cases c3 : x5_1 < (l0.length : Int)
   ·rw [if_pos c3] at H
    have c3b0 := decide_eq_true c3
    clear c3
    by_cases c4 : 0 ≤ x5_1
    ·rw [if_pos c4] at H
     have c4b0 := decide_eq_true c4
     clear c4
     by_cases c5 : ((rdOf false l0 x5_1) != ((Int.tmod x1_1 3) == 0)) = true
     ·rw [if_pos c5] at H
      have c5b0 : ((rdOf false l0 x5_1) != ((Int.tmod x1_1 3) == 0)) = true := c5
      (try (have c5b1 : decide ((rdOf false l0 x5_1) = ((Int.tmod x1_1 3) == 0)) = false := by simpa using c5))
      (try (have c5b2 : ((rdOf false l0 x5_1) == ((Int.tmod x1_1 3) == 0)) = false := by simpa using c5))
      (try (have c5b3 : ¬ ((rdOf false l0 x5_1) = ((Int.tmod x1_1 3) == 0)) := by simpa using c5))
      clear c5
      obtain rfl := Option.some.inj H
      have p538 : 0 ≤ (x5_1 : Int) := Sh.od
      have q538 : x5_1 < (l0.length : Int) := Sh.od
      obtain ⟨ad538, e538, hx538_0⟩ := Kd.at_bool HR0.out x5_1 p538 q538
      cases e538
      replace p538 := eq_true p538
      replace q538 := eq_true q538
      go_wp2
      go_ret
      exact ⟨Sh.es, Sh.dr⟩
     ·rw [if_neg c5] at H
      have c5b0 : ((rdOf false l0 x5_1) != ((Int.tmod x1_1 3) == 0)) = false := by simpa using c5
      (try (have c5b1 : decide ((rdOf false l0 x5_1) = ((Int.tmod x1_1 3) == 0)) = true := by simpa using c5))
      (try (have c5b2 : ((rdOf false l0 x5_1) == ((Int.tmod x1_1 3) == 0)) = true := by simpa using c5))
      clear c5
      have H' := am_ H
      clear H
      have p538 : 0 ≤ (x5_1 : Int) := Sh.od
      have q538 : x5_1 < (l0.length : Int) := Sh.od
      obtain ⟨ad538, e538, hx538_0⟩ := Kd.at_bool HR0.out x5_1 p538 q538
      cases e538
      replace p538 := eq_true p538
      replace q538 := eq_true q538
      go_wp2
      go_roundg k1
      case measure => have := HK1.out; omega
      case rel => exact ⟨(wrap64 (x1_1 + 1)), (wrap64 (x5_1 + 1)), (Sh.es), (Sh.es), H', ⟨by have := HK1.out; omega⟩, Sh.dr⟩
    ·rw [if_neg c4] at H
     exact absurd H (by simp)
   ·rw [if_neg c3] at H
    have c3b0 := decide_eq_false c3
    clear c3
    obtain rfl := Option.some.inj H
    go_wp2
    go_ret
    exact ⟨Sh.es, Sh.dr⟩
end Go.Proofs.YtjenmoopbmklfaaGreat.P
