/- Go functions of this seat as Lean functions, and the proofs that the calls come to what these say; printed by a program of this session. No condition. -/
import Derived.Test.YtaacldndbjmekaaP0
import Derived.Test.YtaacldndbjmekaaMFnExactStutterAt1
import Derived.Test.YtaacldndbjmekaaMFnExactStutterAt2
set_option linter.unusedVariables false
set_option linter.unusedSimpArgs false
set_option maxHeartbeats 40000000
set_option maxRecDepth 100000
namespace Go.Proofs.Ytaacldndbjmekaa.P
open Go.RowKit Go.Proofs.YtaacldndbjmekaaW.PrintWords Go.Proofs.YtaacldndbjmekaaW.PrintLast Go.Proofs.YtaacldndbjmekaaW.PrintMore Go.Proofs.Ytaacldndbjmekaa.Hof
attribute [local go_sem] max2_int min2_int max_two min_two max_three min_three max_four min_four
def impl_StutterAt.j0 : Nat → Int → Bool → List Int → List Int → Option (List Int × List Int × Bool)
 | 0, _, _, _, _ => none
 | k + 1, x1, x6, x971000, x971001 => if x6 = true then (some (([] : List Int), ([] : List Int), false)) else (if x1 < (x971000.length : Int) then ((slices_Clone_int_int.f x971000).bind fun t974 => (if 0 ≤ x1 then ((slices_Insert_int_int.f t974 x1 (([rd x971000 x1] : List Int))).bind fun t981 => ((slices_Clone_int_int.f x971001).bind fun t984 => ((impl_checkedLasso.f t981 t984).bind fun bt987 => (some (bt987.1, bt987.2.1, bt987.2.2))))) else (none))) else ((impl_Lasso_unroll.f k x971000 x971001 (wrap64 (x1 + 1))).bind fun t994 => ((impl_Lasso_loopFrom.f k x971000 x971001 x1).bind fun t997 => ((impl_checkedLasso.f t994 t997).bind fun bt1000 => (some (bt1000.1, bt1000.2.1, bt1000.2.2))))))
def impl_StutterAt.f (k : Nat) (l0_0 : List Int) (l0_1 : List Int) (a1 : Int) : Option (List Int × List Int × Bool) := (impl_GoodLasso.f l0_0 l0_1).bind fun t972 => (if t972 = true then ((impl_isIndex.f a1).bind fun t973 => (impl_StutterAt.j0 k a1 (!t973) l0_0 l0_1)) else (impl_StutterAt.j0 k a1 true l0_0 l0_1))
theorem impl_StutterAt.mono_l : ∀ k, (∀ y0 y1 y2 y3, LeO (impl_StutterAt.j0 k y0 y1 y2 y3) (impl_StutterAt.j0 (k + 1) y0 y1 y2 y3))
 | 0 => fun _ _ _ _ r h => by simp [impl_StutterAt.j0] at h
 | k + 1 => by
  have ih0 := impl_StutterAt.mono_l k
  ·intro y0 y1 y2 y3
   unfold impl_StutterAt.j0
   repeat' with_reducible first | apply ih0 | apply impl_Lasso_loopFrom.mono | apply impl_Lasso_unroll.mono | exact LeO.refl _ | exact LeO.none _ | apply LeO.ite | refine LeO.bind ?_ fun _ => ?_
theorem impl_StutterAt.mono : ∀ a0 a1 a2 k, LeO (impl_StutterAt.f k a0 a1 a2) (impl_StutterAt.f (k + 1) a0 a1 a2) := by
 intro a0 a1 a2 k
 have ih0 := impl_StutterAt.mono_l k
 unfold impl_StutterAt.f
 repeat' with_reducible first | apply ih0 | apply impl_Lasso_loopFrom.mono | apply impl_Lasso_unroll.mono | exact LeO.refl _ | exact LeO.none _ | apply LeO.ite | refine LeO.bind ?_ fun _ => ?_
def impl_StutterAt.T4 : Bool × List (List Nat × List Nat) := (true, [([], []), ([0], [0]), ([1], [1]), ([], []), ([], []), ([4], [4]), ([], []), ([5, 6], [5, 6]), ([7], [7]), ([8], [8]), ([2, 3, 9, 2], [2, 3, 9]), ([], []), ([11], [11]), ([12, 10], [12]), ([10, 13], [10, 13]), ([14, 13], [14]), ([15], [15]), ([15], [15]), ([16, 15, 0, 1, 2, 3, 4, 5, 6, 7, 8, 9, 10, 11, 12, 13, 14, 15, 16, 17], [16]), ([17, 18, 0, 1, 2, 3, 4, 5, 6, 7, 8, 9, 10, 11, 12, 13, 14, 15, 16, 17, 18], [17])])
def impl_StutterAt.B4 : List Nat := [0, 1, 3, 0, 0, 16, 0, 112, 240, 496, 1023, 0, 2048, 8191, 16383, 32767, 65535, 65535, 262143, 524287]
theorem impl_StutterAt.tab4 : rtab .any (opsOf Try.f22 4) = impl_StutterAt.T4 := by kernel_rfl
theorem impl_StutterAt.bits4 : waitsOk impl_StutterAt.T4.2 impl_StutterAt.B4 = true := by kernel_rfl
def impl_StutterAt.T5 : Bool × List (List Nat × List Nat) := (true, [([], []), ([], []), ([1], [1]), ([0, 2], [0, 2]), ([], []), ([], []), ([4, 5, 3], [4, 5]), ([3, 6], [3, 6]), ([7, 6], [7]), ([8], [8]), ([8], [8]), ([9, 8, 0, 1, 2, 3, 4, 5, 6, 7, 8, 9, 10], [9]), ([10, 11, 0, 1, 2, 3, 4, 5, 6, 7, 8, 9, 10, 11], [10])])
def impl_StutterAt.B5 : List Nat := [0, 0, 2, 7, 0, 0, 63, 127, 255, 511, 511, 2047, 4095]
theorem impl_StutterAt.tab5 : rtab .any (opsOf Try.f22 5) = impl_StutterAt.T5 := by kernel_rfl
theorem impl_StutterAt.bits5 : waitsOk impl_StutterAt.T5.2 impl_StutterAt.B5 = true := by kernel_rfl
theorem impl_StutterAt.calls (k : Nat) (A0_0 : Option Addr) (c0_0 : Nat) (l0_0 : List Int) (A0_1 : Option Addr) (c0_1 : Nat) (l0_1 : List Int) (a1 : Int) (r1 : List Int) (r2 : List Int) (r3 : Bool) (w : World) (hr0_0 : Kd.C (Kd.int .i64) w A0_0 l0_0.length l0_0) (hc0_0 : l0_0.length ≤ c0_0) (hr0_1 : Kd.C (Kd.int .i64) w A0_1 l0_1.length l0_1) (hc0_1 : l0_1.length ≤ c0_1) (h : impl_StutterAt.f k l0_0 l0_1 a1 = some (r1, r2, r3)) :
  Calls Try.prog 22 #[.agg #[.slice A0_0 l0_0.length c0_0, .slice A0_1 l0_1.length c0_1], .int .i64 a1] w fun e w' => ∃ v0_ v1_ : Value, e = .returned (.tuple #[.agg #[v0_, v1_], .bool r3]) ∧ Kd.R (Kd.int .i64) 3 w' w.heap.size (fun k_ => some k_ ≠ (v1_ : Value).ownBlock) v0_ r1 ∧ Kd.R (Kd.int .i64) 3 w' w.heap.size (fun k_ => some k_ ≠ (v0_ : Value).ownBlock) v1_ r2 ∧ Below w.heap.size w w' := by
 have hu37 := Try.underlying37
 have HR0_0 := am_ hr0_0
 have HC0_0 := am_ hc0_0
 clear hr0_0 hc0_0
 have HR0_1 := am_ hr0_1
 have HC0_1 := am_ hc0_1
 clear hr0_1 hc0_1
 have HB := am_ (Below.refl w.heap.size w)
 have H := h
 clear h
 unfold impl_StutterAt.f at H
 have HC3 := am_ H
 clear H
 go_enter Try.func22, Try.ntmps22
 go_upto_region 1 with (first | ((with_reducible refine Sh.d 2 ?_); refine Sh.bz w (N := 2) (cs := #[.slice A0_0 l0_0.length c0_0, .slice A0_1 l0_1.length c0_1]) (t := 37) (h := ?_); clear HB; intro gb970 w4 BK970 GE970 HB) | ((with_reducible refine Sh.d 4 ?_); refine Sh.bx (N := 4) (cs := #[.slice none 0 0, .slice none 0 0]) (t := 37) (h := ?_); intro gb971 hg w5 hbox hb; have BK971 := am_ hbox; have GW971 := Sh.ag w hg; have GE971 := Sh.ag w hg; replace HB := Sh.hb hb; have NB970_971 := am_ (Sh.nl hg BK970.out); have NB971_970 := am_ (Sh.ng hg BK970.out); replace BK970 := Sh.ab BK970 hb; clear hb hbox hg))
 (try simp only [Act.put, List.setIfInBounds_toArray, List.set_cons_zero, List.set_cons_succ])
 go_cut [6] (fun v6 wc => ∃ (kq : Nat) (x6_2 : Bool), v6 = .bool x6_2 ∧ Aside0 (impl_StutterAt.j0 kq a1 x6_2 l0_0 l0_1 = some (r1, r2, r3)) ∧ Aside0 (kq ≤ k) ∧ Aside0 (wc.heap[gb970]? = some (.cells #[(.slice A0_0 l0_0.length c0_0), (.slice A0_1 l0_1.length c0_1)] 37 (0, 0))) ∧ Aside0 (wc.heap[gb971]? = some (.cells #[(.slice none 0 0), (.slice none 0 0)] 37 (0, 0))) ∧ Aside0 (Below w.heap.size w wc))
 case first =>
  have H := HC3.out
  clear HC3
  obtain ⟨t972, A6, H⟩ := Sh.ba H
  by_cases c7 : t972 = true
  ·subst c7
   rw [if_pos rfl] at H
   obtain ⟨t973, A8, H⟩ := Sh.ba H
   have H' := am_ H
   clear H
   have hnb9 := NB970_971.out
   have hnc9 := NB971_970.out
   have hcz10_0 := Sh.bc BK970.out 0
   have hcz10_1 := Sh.bc BK970.out 1
   have hfz10_0 := blk_frozen BK970.out 0
   have hfz10_1 := blk_frozen BK970.out 1
   go_wp2_with (first | ((with_reducible refine Sh.k 51 ?_); refine Sh.gB (some 8) Try.func51 #[.agg #[.slice A0_0 l0_0.length c0_0, .slice A0_1 l0_1.length c0_1]] (impl_GoodLasso.calls _ _ l0_0 _ _ l0_1 true _ (Sh.cB HR0_0.out) HC0_0.out (Sh.cB HR0_1.out) HC0_1.out A6.out) fun w11 hb => ?_; replace BK970 := Sh.ab BK970 hb; replace BK971 := Sh.ab BK971 hb; replace HB := Sh.hb hb; (try clear hb); (try clear hb2); (try clear hk); (try clear hi)) | (go_at_call 52; (with_reducible refine (impl_isIndex.calls a1 t973 _ A8.out).mono ?_); rintro e w' ⟨rfl, ⟨nd, rfl⟩⟩))
   go_meet
   case rel => exact ⟨_, (!t973), (Sh.es), H', ⟨Sh.om⟩, ⟨by refine Sh.pl ?_; exact BK970.out⟩, ⟨by refine Sh.pl ?_; exact BK971.out⟩, ⟨Sh.bw⟩⟩
  ·replace c7 := Bool.eq_false_iff.mpr c7
   subst c7
   rw [Sh.nf] at H
   have H' := am_ H
   clear H
   have hnb12 := NB970_971.out
   have hnc12 := NB971_970.out
   have hcz13_0 := Sh.bc BK970.out 0
   have hcz13_1 := Sh.bc BK970.out 1
   have hfz13_0 := blk_frozen BK970.out 0
   have hfz13_1 := blk_frozen BK970.out 1
   go_wp2_with (first | ((with_reducible refine Sh.k 51 ?_); refine Sh.gB (some 8) Try.func51 #[.agg #[.slice A0_0 l0_0.length c0_0, .slice A0_1 l0_1.length c0_1]] (impl_GoodLasso.calls _ _ l0_0 _ _ l0_1 false _ (Sh.cB HR0_0.out) HC0_0.out (Sh.cB HR0_1.out) HC0_1.out A6.out) fun w14 hb => ?_; replace BK970 := Sh.ab BK970 hb; replace BK971 := Sh.ab BK971 hb; replace HB := Sh.hb hb; (try clear hb); (try clear hb2); (try clear hk); (try clear hi)))
   go_meet
   case rel => exact ⟨_, (true), (Sh.es), H', ⟨Sh.om⟩, ⟨by refine Sh.pl ?_; exact BK970.out⟩, ⟨by refine Sh.pl ?_; exact BK971.out⟩, ⟨Sh.bw⟩⟩
 case rest =>
  clear HC3
  try clear hcz10_0
  try clear hcz10_1
  try clear hcz13_0
  try clear hcz13_1
  try clear hfz10_0
  try clear hfz10_1
  try clear hfz13_0
  try clear hfz13_1
  obtain ⟨kq, x6_2, rfl, HA, HJ2, BK970, BK971, HB⟩ := hcut
  cases kq with
  | zero => exact absurd HA.out (by simp [impl_StutterAt.j0])
  | succ kj2 =>
   have H := HA.out
   clear HA
   simp only [impl_StutterAt.j0] at H
   by_cases c15 : x6_2 = true
   ·subst c15
    rw [if_pos rfl] at H
    simp only [Option.some.injEq, Prod.mk.injEq] at H
    obtain ⟨rfl, rfl, rfl⟩ := H
    have hnb16 := NB971_970.out
    have hnc16 := NB970_971.out
    have hcz17_0 := Sh.bc BK971.out 0
    have hcz17_1 := Sh.bc BK971.out 1
    have hfz17_0 := blk_frozen BK971.out 0
    have hfz17_1 := blk_frozen BK971.out 1
    go_wp2
    refine bodyPost_ret (results_ct rfl _ _ gb971 37 #[.slice none 0 0, .slice none 0 0] (0, 0) _ rfl (by refine Sh.pl ?_; refine blk_put (cs := #[.slice none 0 0, .slice none 0 0]) ?_ 1 _ rfl; refine Sh.pl ?_; refine blk_put (cs := #[.slice none 0 0, .slice none 0 0]) ?_ 0 _ rfl; refine Sh.pl ?_; exact BK971.out) Try.underlying37 rfl (by kernel_rfl)) rfl ?_
    exact ⟨_, _, by first | rfl | (simp [errW_none, errW_some] <;> rfl) | (simp [*, errW_none, errW_some] <;> rfl), by first | exact Kd.R_nil _ _ _ _ _ | exact Kd.N_nil _ _ _ _ _ | exact Kd.V_nil _ _ _ _ _ | exact Kd.Q_nil _ _ _ _ _ | exact Kd.S_nil _ _ _ _ _, by first | exact Kd.R_nil _ _ _ _ _ | exact Kd.N_nil _ _ _ _ _ | exact Kd.V_nil _ _ _ _ _ | exact Kd.Q_nil _ _ _ _ _ | exact Kd.S_nil _ _ _ _ _, Sh.bw⟩
   ·replace c15 := Bool.eq_false_iff.mpr c15
    subst c15
    rw [Sh.nf] at H
    by_cases c18 : a1 < (l0_0.length : Int)
    ·rw [if_pos c18] at H
     have c18b0 := decide_eq_true c18
     clear c18
     obtain ⟨t974, A19, H⟩ := Sh.ba H
     by_cases c20 : 0 ≤ a1
     ·rw [if_pos c20] at H
      have c20b0 := decide_eq_true c20
      clear c20
      obtain ⟨y978, hy978⟩ : ∃ y_ : List Int, y_ = (([rd l0_0 a1] : List Int)) := ⟨_, rfl⟩
      replace H : ((slices_Insert_int_int.f t974 a1 y978).bind fun t981 => ((slices_Clone_int_int.f l0_1).bind fun t984 => ((impl_checkedLasso.f t981 t984).bind fun bt987 => (some (bt987.1, bt987.2.1, bt987.2.2))))) = some (r1, r2, r3) := by first | (rw [hy978]; with_reducible exact H) | (have H2_ := (Option.bind_some _ _).symm.trans H; rw [hy978]; with_reducible exact H2_) | (have H2_ := (Option.bind_some _ _).symm.trans H; with_reducible exact H2_) | with_reducible exact H | (rw [hy978]; exact H) | exact H
      have Ny978 := am_ hy978
      clear hy978
      obtain ⟨t981, A21, H⟩ := Sh.ba H
      obtain ⟨t984, A22, H⟩ := Sh.ba H
      obtain ⟨⟨t987, t990, t993⟩, A230, H⟩ := Sh.bd H
      have A23 := am_ A230
      clear A230
      simp only [Option.some.injEq, Prod.mk.injEq] at H
      obtain ⟨rfl, rfl, rfl⟩ := H
      have hnb24 := NB970_971.out
      have hnc24 := NB971_970.out
      have hcz25_0 := Sh.bc BK970.out 0
      have hcz25_1 := Sh.bc BK970.out 1
      have hfz25_0 := blk_frozen BK970.out 0
      have hfz25_1 := blk_frozen BK970.out 1
      try go_wp2
      replace BK970 := am_ (blk_drew BK970.out)
      replace BK971 := am_ (blk_drew BK971.out)
      replace HB := am_ (below_drew1 HB.out)
      have p977 : 0 ≤ (a1 : Int) := Sh.od
      have q977 : a1 < (l0_0.length : Int) := Sh.od
      obtain ⟨ad977, e977, hx977_0⟩ := Kd.at_int HR0_0.out a1 p977 q977
      have hw977_0 := hx977_0
      cases e977
      try replace hx977_0 := Sh.cw hx977_0
      replace p977 := eq_true p977
      replace q977 := eq_true q977
      refine start_ (n := 20) (S := fun w' => w'.cell? ⟨gb970, 0, none⟩ = some (.slice (some ad977) l0_0.length c0_0) ∧ w'.cell? ⟨gb970, 1, none⟩ = some (.slice A0_1 l0_1.length c0_1) ∧ w'.cell? (ad977.add (a1).toNat) = some (.int .i64 (rd l0_0 a1))) (ds := []) (Sh.nm 20 0) (by kernel_rfl) rfl rfl Sh.cs (fun hHeld => ?_); refine with_tabW impl_StutterAt.tab4 impl_StutterAt.bits4 (fun HT_ HW_ => ?_)
      generalize wc.drew = w26 at BK970 BK971 HB hx977_0 hHeld ⊢
      refine Sh.qA 0 ?_; refine Sh.qA 3 ?_; refine Sh.qA 4 ?_; refine Sh.qA 6 ?_; refine Sh.qA 11 ?_; refine Sh.qT 1 hHeld ?_; refine Sh.qT 5 hHeld ?_; refine Sh.qA 7 ?_; refine Sh.qT 8 hHeld ?_; refine Sh.qT 12 hHeld ?_
      refine join_ (σ := Value × Value) 8 (Sh.nm 20 7167) (fun s_ => [(24, s_.1), (31, s_.2)]) (fun s_ w' => (w'.cell? ⟨gb970, 0, none⟩ = some (.slice (some ad977) l0_0.length c0_0) ∧ w'.cell? ⟨gb970, 1, none⟩ = some (.slice A0_1 l0_1.length c0_1) ∧ w'.cell? (ad977.add (a1).toNat) = some (.int .i64 (rd l0_0 a1))) ∧ (Kd.R (Kd.int .i64) 3 w' w.heap.size (fun k_ => some k_ ≠ (s_.2 : Value).ownBlock) s_.1 t974) ∧ (Kd.R (Kd.int .i64) 3 w' w.heap.size (fun k_ => some k_ ≠ (s_.1 : Value).ownBlock) s_.2 y978) ∧ (w'.heap[gb970]? = some (.cells #[.slice (some ad977) l0_0.length c0_0, .slice A0_1 l0_1.length c0_1] 37 (0, 0))) ∧ (w'.heap[gb971]? = some (.cells #[.slice none 0 0, .slice none 0 0] 37 (0, 0))) ∧ (Below w.heap.size w w')) ?_ ?_
      rotate_left
      ·intro hCont
       refine two_ (i := 2) (j := 9) (Ni := some 24) (Nj := some 31) (Sh.nm 20 6655) (Sh.nm 20 7163) rfl rfl rfl rfl (two_of HT_.out (by kernel_rfl)) (by decide) (by decide) (fun K hK => ?_) (fun K hK => ?_)
       ·skip
        refine goes_ Try.func55 (by kernel_rfl) rfl #[.slice (some ad977) l0_0.length c0_0] (by rfl) rfl rfl (by (try simp only [List.map_toArray, List.map_cons, List.map_nil]); first | done | rfl | (simp only [List.length_drop, List.length_take]; rfl)) ?_
        with_reducible refine (slices_Clone_int_int.calls _ _ l0_0 t974 _ (Sh.cB HR0_0.out) HC0_0.out A19.out).mono ?_
        rintro e w27 ⟨v975, rfl, ho0, hb⟩
        refine ⟨_, rfl, ?_⟩
        have HO976 := am_ (Kd.R_lower ho0 (below_size Sh.bw))
        replace BK970 := Sh.ab BK970 hb
        replace BK971 := Sh.ab BK971 hb
        replace HB := Sh.hb hb
        (try clear hb)
        (try clear hb2)
        (try clear hk)
        (try clear hi)
        (try clear ho0)
        refine Sh.kN hK Sh.cs fun hHeld => ?_
        clear hK K
        refine one_ (i := 9) (N := some 31) (Sh.nm 20 7167) rfl rfl (one_of HT_.out (by kernel_rfl)) (by decide) (fun K hK => ?_)
        refine Kd.R_lit_step (Kd.int .i64) _ 3 ?hg (N := 31) ?hd (xs := ([rd l0_0 a1] : List Int)) (inner := [.int .i64 (rd l0_0 a1)]) (ok := fun _ => True) (okp := fun _ => True) ?hr ?hp (fun _ hk => hk) trivial (Below.refl _ _) (Nat.le_refl _) (by simp) ?_; (case hd => rfl); (case hg => rfl); (case hr => first | (go_simp; done) | (go_simp; rfl)); (case hp => exact (Reps.one (show Kd.M (Kd.int .i64) _ _ _ (rd l0_0 a1) [.int .i64 (rd l0_0 a1)] from rfl) (Reps.none _ _)))
        intro v979 w28 ho29 hb hg_ hnew_
        clear hg_ hnew_
        (first | rw [← Ny978.out] at ho29 | (simp only [Int.reduceToNat] at ho29; rw [← Ny978.out] at ho29))
        have HO980 := am_ (Kd.R_lower (Kd.R_new' ho29 (Kd.R_lt (Sh.rl HO976.out))) (below_size Sh.bw))
        replace HO976 := am_ (Kd.R_elder' (Sh.rl HO976.out) (Kd.R_base ho29) hb)
        replace BK970 := Sh.ab BK970 hb
        replace BK971 := Sh.ab BK971 hb
        replace HB := Sh.hb hb
        clear hb ho29
        refine Sh.kN hK Sh.cs fun hHeld => ?_
        clear hK K
        exact norm_ (by simp only [putAll, Act.put, List.setIfInBounds_toArray, List.set_cons_zero, List.set_cons_succ]) (hCont (v975, v979) _ ⟨hHeld, (Sh.rl (Kd.R_mono HO976.out (fun _ hk => hk.2))), (Sh.rl (Kd.R_mono HO980.out (fun _ hk => hk.2))), (Sh.pl BK970.out), (Sh.pl BK971.out), Sh.bw⟩)
       ·skip
        refine Kd.R_lit_step (Kd.int .i64) _ 3 ?hg (N := 31) ?hd (xs := ([rd l0_0 a1] : List Int)) (inner := [.int .i64 (rd l0_0 a1)]) (ok := fun _ => True) (okp := fun _ => True) ?hr ?hp (fun _ hk => hk) trivial (Below.refl _ _) (Nat.le_refl _) (by simp) ?_; (case hd => rfl); (case hg => rfl); (case hr => first | (go_simp; done) | (go_simp; rfl)); (case hp => exact (Reps.one (show Kd.M (Kd.int .i64) _ _ _ (rd l0_0 a1) [.int .i64 (rd l0_0 a1)] from rfl) (Reps.none _ _)))
        intro v979 w27 ho28 hb hg_ hnew_
        clear hg_ hnew_
        (first | rw [← Ny978.out] at ho28 | (simp only [Int.reduceToNat] at ho28; rw [← Ny978.out] at ho28))
        have HO980 := am_ (Kd.R_lower ho28 (below_size Sh.bw))
        replace BK970 := Sh.ab BK970 hb
        replace BK971 := Sh.ab BK971 hb
        replace HB := Sh.hb hb
        clear hb ho28
        refine Sh.kN hK Sh.cs fun hHeld => ?_
        clear hK K
        refine Sh.oC 2 Try.func55 #[.slice (some ad977) l0_0.length c0_0] fun K hK => ?_
        with_reducible refine (slices_Clone_int_int.calls _ _ l0_0 t974 _ (Sh.cB HR0_0.out) HC0_0.out A19.out).mono ?_
        rintro e w29 ⟨v975, rfl, ho0, hb⟩
        refine ⟨_, rfl, ?_⟩
        have HO976 := am_ (Kd.R_lower (Kd.R_new' ho0 (Kd.R_lt (Sh.rl HO980.out))) (below_size Sh.bw))
        replace HO980 := am_ (Kd.R_elder' (Sh.rl HO980.out) (Kd.R_base ho0) hb)
        replace BK970 := Sh.ab BK970 hb
        replace BK971 := Sh.ab BK971 hb
        replace HB := Sh.hb hb
        (try clear hb)
        (try clear hb2)
        (try clear hk)
        (try clear hi)
        (try clear ho0)
        refine Sh.kN hK Sh.cs fun hHeld => ?_
        clear hK K
        exact norm_ (by simp only [putAll, Act.put, List.setIfInBounds_toArray, List.set_cons_zero, List.set_cons_succ]) (hCont (v975, v979) _ ⟨hHeld, (Sh.rl (Kd.R_mono HO976.out (fun _ hk => hk.2))), (Sh.rl (Kd.R_mono HO980.out (fun _ hk => hk.2))), (Sh.pl BK970.out), (Sh.pl BK971.out), Sh.bw⟩)
      rintro ⟨v975, v979⟩ w30 ⟨hS_, h0_, h1_, h2_, h3_, h4_⟩
      have n0_ : Aside0 (Kd.R (Kd.int .i64) 3 w30 w.heap.size (fun k_ => some k_ ≠ (v979 : Value).ownBlock) v975 t974) := ⟨h0_⟩
      have n1_ : Aside0 (Kd.R (Kd.int .i64) 3 w30 w.heap.size (fun k_ => some k_ ≠ (v975 : Value).ownBlock) v979 y978) := ⟨h1_⟩
      have n2_ : Aside0 (w30.heap[gb970]? = some (.cells #[.slice (some ad977) l0_0.length c0_0, .slice A0_1 l0_1.length c0_1] 37 (0, 0))) := ⟨h2_⟩
      have n3_ : Aside0 (w30.heap[gb971]? = some (.cells #[.slice none 0 0, .slice none 0 0] 37 (0, 0))) := ⟨h3_⟩
      have n4_ : Aside0 (Below w.heap.size w w30) := ⟨h4_⟩
      clear BK970
      clear BK971
      clear HB
      clear h0_ h1_ h2_ h3_ h4_
      have HO976 := n0_
      have HO980 := n1_
      have BK970 := n2_
      have BK971 := n3_
      have HB := n4_
      clear n0_ n1_ n2_ n3_ n4_
      have hHeld : w30.cell? ⟨gb970, 0, none⟩ = some (.slice (some ad977) l0_0.length c0_0) ∧ w30.cell? ⟨gb970, 1, none⟩ = some (.slice A0_1 l0_1.length c0_1) ∧ w30.cell? (ad977.add (a1).toNat) = some (.int .i64 (rd l0_0 a1)) := hS_
      obtain ⟨Ao31, co31, eo31⟩ := Kd.R_slice HO976.out
      (first | subst eo31 | (injection eo31 with f1_ f2_ f3_; have f4_ := f1_.symm; have f5_ := f3_.symm; clear f1_ f2_ f3_; subst f4_; subst f5_))
      obtain ⟨Ao32, co32, eo32⟩ := Kd.R_slice HO980.out
      (first | subst eo32 | (injection eo32 with f1_ f2_ f3_; have f4_ := f1_.symm; have f5_ := f3_.symm; clear f1_ f2_ f3_; subst f4_; subst f5_))
      refine norm_ (a' := ?_) ?_ ?_
      rotate_left
      ·simp only [putAll, Act.put, List.setIfInBounds_toArray, List.set_cons_zero, List.set_cons_succ]
       rfl
      refine Sh.oC 10 Try.func54 #[.slice Ao31 t974.length co31, .int .i64 a1, .slice Ao32 y978.length co32] fun K hK => ?_
      with_reducible refine (slices_Insert_int_int.calls (fun k_ => some k_ = (.slice Ao31 t974.length co31 : Value).ownBlock) (.slice Ao31 t974.length co31) t974 a1 (fun k_ => some k_ = (.slice Ao32 y978.length co32 : Value).ownBlock) (.slice Ao32 y978.length co32) y978 t981 w _ ?side1 ?side2 ?side3 ?side4 ?side5 A21.out).mono ?_
      (case side1 => repeat (first | (with_reducible first | exact HB.out | apply below_alloc | apply pw_below_drewN | apply below_drew1 | refine below_set ?_ GE970.out | refine below_set ?_ GE971.out) | exact HB.out))
      (case side2 => exact Kd.R_tight rfl HO976.out)
      (case side3 => exact fun k_ e_ => (HO976.out.1 k_ e_.symm))
      (case side4 => exact Kd.R_tight rfl HO980.out)
      (case side5 => exact fun k_ e_ => (HO980.out.1 k_ e_.symm))
      rintro e w33 ⟨v982, rfl, ho0, hb, hkp⟩
      refine ⟨_, rfl, ?_⟩
      have n0_ := am_ (blk_kept (Sh.pl BK970.out) hkp (fun hs_ => Or.elim hs_ (fun e_ => (fun e_ => (Kd.R_ne HO976.out BK970.out (by decide)) e_) e_) (fun e_ => (fun e_ => (Kd.R_ne HO980.out BK970.out (by decide)) e_) e_)))
      have n1_ := am_ (blk_kept (Sh.pl BK971.out) hkp (fun hs_ => Or.elim hs_ (fun e_ => (fun e_ => (Kd.R_ne HO976.out BK971.out (by decide)) e_) e_) (fun e_ => (fun e_ => (Kd.R_ne HO980.out BK971.out (by decide)) e_) e_)))
      have n2_ := am_ (Kd.R_mono (ok' := fun k_ => True) ho0 (fun k_ hk_ => trivial))
      have n3_ := am_ hb
      clear BK970
      clear BK971
      clear HB
      clear HO976
      clear HO980
      have BK970 := n0_
      have BK971 := n1_
      have HO983 := n2_
      have HB := n3_
      clear n0_ n1_ n2_ n3_
      (try clear hb)
      (try clear hkp)
      (try clear ho0)
      refine Sh.kN hK Sh.cs fun hHeld => ?_
      clear hK K
      refine Sh.oC 13 Try.func55 #[.slice A0_1 l0_1.length c0_1] fun K hK => ?_
      with_reducible refine (slices_Clone_int_int.calls _ _ l0_1 t984 _ (Sh.cB HR0_1.out) HC0_1.out A22.out).mono ?_
      rintro e w34 ⟨v985, rfl, ho0, hb⟩
      refine ⟨_, rfl, ?_⟩
      have HO986 := am_ (Kd.R_lower (Kd.R_new' ho0 (Kd.R_lt (Sh.rl HO983.out))) (below_size Sh.bw))
      replace HO983 := am_ (Kd.R_elder' (Sh.rl HO983.out) (Kd.R_base ho0) hb)
      replace BK970 := Sh.ab BK970 hb
      replace BK971 := Sh.ab BK971 hb
      replace HB := Sh.hb hb
      (try clear hb)
      (try clear hb2)
      (try clear hk)
      (try clear hi)
      (try clear ho0)
      obtain ⟨Ao35, co35, eo35⟩ := Kd.R_slice HO986.out
      (first | subst eo35 | (injection eo35 with f1_ f2_ f3_; have f4_ := f1_.symm; have f5_ := f3_.symm; clear f1_ f2_ f3_; subst f4_; subst f5_))
      obtain ⟨Ao36, co36, eo36⟩ := Kd.R_slice HO983.out
      (first | subst eo36 | (injection eo36 with f1_ f2_ f3_; have f4_ := f1_.symm; have f5_ := f3_.symm; clear f1_ f2_ f3_; subst f4_; subst f5_))
      refine Sh.kN hK Sh.cs fun hHeld => ?_
      clear hK K
      refine Sh.qA 14 ?_
      refine Sh.oC 15 Try.func53 #[.agg #[.slice Ao36 t981.length co36, .slice Ao35 t984.length co35]] fun K hK => ?_
      with_reducible refine (impl_checkedLasso.calls (fun k_ => some k_ = (.slice Ao36 t981.length co36 : Value).ownBlock) (.slice Ao36 t981.length co36) t981 (fun k_ => some k_ = (.slice Ao35 t984.length co35 : Value).ownBlock) (.slice Ao35 t984.length co35) t984 t987 t990 t993 w _ ?side1 ?side2 ?side3 ?side4 ?side5 A23.out).mono ?_
      (case side1 => repeat (first | (with_reducible first | exact HB.out | apply below_alloc | apply pw_below_drewN | apply below_drew1 | refine below_set ?_ GE970.out | refine below_set ?_ GE971.out) | exact HB.out))
      (case side2 => exact Kd.R_tight rfl HO983.out)
      (case side3 => exact fun k_ e_ => (HO983.out.1 k_ e_.symm).2)
      (case side4 => exact Kd.R_tight rfl HO986.out)
      (case side5 => exact fun k_ e_ => (HO986.out.1 k_ e_.symm).2)
      rintro e w37 ⟨v988, v991, rfl, ho0, ho1, hb, hkp⟩
      refine ⟨_, rfl, ?_⟩
      have n0_ := am_ (blk_kept (Sh.pl BK970.out) hkp (fun hs_ => Or.elim hs_ (fun e_ => (fun e_ => (Kd.R_ne HO983.out BK970.out (by decide)) e_) e_) (fun e_ => (fun e_ => (Kd.R_ne HO986.out BK970.out (by decide)) e_) e_)))
      have n1_ := am_ (blk_kept (Sh.pl BK971.out) hkp (fun hs_ => Or.elim hs_ (fun e_ => (fun e_ => (Kd.R_ne HO983.out BK971.out (by decide)) e_) e_) (fun e_ => (fun e_ => (Kd.R_ne HO986.out BK971.out (by decide)) e_) e_)))
      have n2_ := am_ (Kd.R_mono (ok' := fun k_ => some k_ ≠ (v991 : Value).ownBlock) ho0 (fun k_ hk_ => hk_.2))
      have n3_ := am_ (Kd.R_mono (ok' := fun k_ => some k_ ≠ (v988 : Value).ownBlock) ho1 (fun k_ hk_ => hk_.2))
      have n4_ := am_ hb
      clear BK970
      clear BK971
      clear HB
      clear HO983
      clear HO986
      have BK970 := n0_
      have BK971 := n1_
      have HO989 := n2_
      have HO992 := n3_
      have HB := n4_
      clear n0_ n1_ n2_ n3_ n4_
      (try clear hb)
      (try clear hkp)
      (try clear ho0)
      (try clear ho1)
      obtain ⟨Ao38, co38, eo38⟩ := Kd.R_slice HO989.out
      (first | subst eo38 | (injection eo38 with f1_ f2_ f3_; have f4_ := f1_.symm; have f5_ := f3_.symm; clear f1_ f2_ f3_; subst f4_; subst f5_))
      obtain ⟨Ao40, co40, eo40⟩ := Kd.R_slice HO992.out
      (first | subst eo40 | (injection eo40 with f1_ f2_ f3_; have f4_ := f1_.symm; have f5_ := f3_.symm; clear f1_ f2_ f3_; subst f4_; subst f5_))
      refine Sh.kN hK Sh.cs fun hHeld => ?_
      clear hK K
      refine Sh.qA 16 ?_; refine Sh.qA 17 ?_
      refine one_ (i := 18) (N := none) (Sh.nm 20 524287) rfl rfl (one_of HT_.out (by kernel_rfl)) (by decide) (fun K hK => ?_)
      have hs39 : w37.cell? ⟨gb971, 0, none⟩ = some (.slice none 0 0) := (blk_cell BK971.out 0).trans rfl
      have hfs39 := blk_frozen BK971.out 0
      have hns39_0 := NB970_971.out
      have hms39_0 := NB971_970.out
      have hs41 : w37.cell? ⟨gb971, 1, none⟩ = some (.slice none 0 0) := (blk_cell BK971.out 1).trans rfl
      have hfs41 := blk_frozen BK971.out 1
      have hns41_0 := NB970_971.out
      have hms41_0 := NB971_970.out
      refine skip_ (w1 := ?_) (by rfl) rfl ?_ ?_
      rotate_left
      ·go_simp
       rfl
      refine hK.out _ _ ⟨((cell_far (p := ⟨gb971, _, none⟩) NB970_971.out _).trans (((cell_far (p := ⟨gb971, _, none⟩) NB970_971.out _).trans (hHeld.1)))), ((cell_far (p := ⟨gb971, _, none⟩) NB970_971.out _).trans (((cell_far (p := ⟨gb971, _, none⟩) NB970_971.out _).trans (hHeld.2.1)))), ((cell_far (p := ⟨gb971, _, none⟩) (by first | exact Nat.ne_of_lt (Nat.lt_of_lt_of_le (by have := World.block_lt_of_cell? _ _ hw977_0; first | rwa [add_block] at this | exact this) GW971.out) | (rw [add_block]; exact Nat.ne_of_lt (Nat.lt_of_lt_of_le (by have := World.block_lt_of_cell? _ _ hw977_0; first | rwa [add_block] at this | exact this) GW971.out)) | (show (Addr.add _ _).block ≠ _; rw [add_block]; exact Nat.ne_of_lt (Nat.lt_of_lt_of_le (by have := World.block_lt_of_cell? _ _ hw977_0; first | rwa [add_block] at this | exact this) GW971.out)) | (dsimp only; exact Nat.ne_of_lt (Nat.lt_of_lt_of_le (by have := World.block_lt_of_cell? _ _ hw977_0; first | rwa [add_block] at this | exact this) GW971.out))) _).trans (((cell_far (p := ⟨gb971, _, none⟩) (by first | exact Nat.ne_of_lt (Nat.lt_of_lt_of_le (by have := World.block_lt_of_cell? _ _ hw977_0; first | rwa [add_block] at this | exact this) GW971.out) | (rw [add_block]; exact Nat.ne_of_lt (Nat.lt_of_lt_of_le (by have := World.block_lt_of_cell? _ _ hw977_0; first | rwa [add_block] at this | exact this) GW971.out)) | (show (Addr.add _ _).block ≠ _; rw [add_block]; exact Nat.ne_of_lt (Nat.lt_of_lt_of_le (by have := World.block_lt_of_cell? _ _ hw977_0; first | rwa [add_block] at this | exact this) GW971.out)) | (dsimp only; exact Nat.ne_of_lt (Nat.lt_of_lt_of_le (by have := World.block_lt_of_cell? _ _ hw977_0; first | rwa [add_block] at this | exact this) GW971.out))) _).trans (hHeld.2.2))))⟩ (fun hHeld => ?_)
      clear hK K
      refine Sh.qA 19 ?_
      refine done_ (done_of HT_.out (by kernel_rfl)) ?_
      try go_wp2
      refine bodyPost_ret (results_ct rfl _ _ gb971 37 #[.slice Ao38 t987.length co38, .slice Ao40 t990.length co40] (0, 0) _ rfl (by refine Sh.pl ?_; refine blk_put (cs := #[.slice Ao38 t987.length co38, .slice none 0 0]) ?_ 1 _ rfl; refine Sh.pl ?_; refine blk_put (cs := #[.slice none 0 0, .slice none 0 0]) ?_ 0 _ rfl; refine Sh.pl ?_; exact BK971.out) Try.underlying37 rfl (by kernel_rfl)) rfl ?_
      exact ⟨_, _, by first | rfl | (simp [errW_none, errW_some] <;> rfl) | (simp [*, errW_none, errW_some] <;> rfl), Sh.rl (Kd.R_mono (Kd.R_far (p := ⟨gb971, 1, none⟩) (Kd.R_far (p := ⟨gb971, 0, none⟩) (Kd.R_types HO989.out BK971.out (by decide)) (fun _ hk => hk.2) (.slice Ao38 t987.length co38)) (fun _ hk => hk.2) (.slice Ao40 t990.length co40)) (fun _ hk => hk.1)), Sh.rl (Kd.R_mono (Kd.R_far (p := ⟨gb971, 1, none⟩) (Kd.R_far (p := ⟨gb971, 0, none⟩) (Kd.R_types HO992.out BK971.out (by decide)) (fun _ hk => hk.2) (.slice Ao38 t987.length co38)) (fun _ hk => hk.2) (.slice Ao40 t990.length co40)) (fun _ hk => hk.1)), Sh.bw⟩
     ·rw [if_neg c20] at H
      exact absurd H (by simp)
    ·rw [if_neg c18] at H
     have c18b0 := decide_eq_false c18
     clear c18
     obtain ⟨t994, A42, H⟩ := Sh.ba H
     obtain ⟨t997, A43, H⟩ := Sh.ba H
     obtain ⟨⟨t1000, t1003, t1006⟩, A440, H⟩ := Sh.bd H
     have A44 := am_ A440
     clear A440
     simp only [Option.some.injEq, Prod.mk.injEq] at H
     obtain ⟨rfl, rfl, rfl⟩ := H
     have hnb45 := NB970_971.out
     have hnc45 := NB971_970.out
     have hcz46_0 := Sh.bc BK970.out 0
     have hcz46_1 := Sh.bc BK970.out 1
     have hfz46_0 := blk_frozen BK970.out 0
     have hfz46_1 := blk_frozen BK970.out 1
     try go_wp2
     replace BK970 := am_ (blk_drew BK970.out)
     replace BK971 := am_ (blk_drew BK971.out)
     replace HB := am_ (below_drew1 HB.out)
     refine start_ (n := 13) (S := fun w' => w'.cell? ⟨gb970, 0, none⟩ = some (.slice A0_0 l0_0.length c0_0) ∧ w'.cell? ⟨gb970, 1, none⟩ = some (.slice A0_1 l0_1.length c0_1)) (ds := []) (Sh.nm 13 0) (by kernel_rfl) rfl rfl Sh.cs (fun hHeld => ?_); refine with_tabW impl_StutterAt.tab5 impl_StutterAt.bits5 (fun HT_ HW_ => ?_)
     generalize wc.drew = w47 at BK970 BK971 HB hHeld ⊢
     refine Sh.qA 1 ?_; refine Sh.qA 2 ?_; refine Sh.qA 5 ?_; refine Sh.qT 0 hHeld ?_; refine Sh.qT 4 hHeld ?_
     refine Sh.oC 3 Try.func56 #[.agg #[.slice A0_0 l0_0.length c0_0, .slice A0_1 l0_1.length c0_1], .int .i64 (wrap64 (a1 + 1))] fun K hK => ?_
     with_reducible refine (impl_Lasso_unroll.calls kj2 _ _ l0_0 _ _ l0_1 (wrap64 (a1 + 1)) t994 _ (Sh.cB HR0_0.out) HC0_0.out (Sh.cB HR0_1.out) HC0_1.out A42.out).mono ?_
     rintro e w48 ⟨v995, rfl, ho0, hb⟩
     refine ⟨_, rfl, ?_⟩
     have HO996 := am_ (Kd.R_lower ho0 (below_size Sh.bw))
     replace BK970 := Sh.ab BK970 hb
     replace BK971 := Sh.ab BK971 hb
     replace HB := Sh.hb hb
     (try clear hb)
     (try clear hb2)
     (try clear hk)
     (try clear hi)
     (try clear ho0)
     refine Sh.kN hK Sh.cs fun hHeld => ?_
     clear hK K
     refine Sh.oC 6 Try.func57 #[.agg #[.slice A0_0 l0_0.length c0_0, .slice A0_1 l0_1.length c0_1], .int .i64 a1] fun K hK => ?_
     with_reducible refine (impl_Lasso_loopFrom.calls kj2 _ _ l0_0 (fun k_ => k_ < w.heap.size) _ _ l0_1 a1 t997 _ ?side1 ?side2 ?side3 A43.out).mono ?_
     (case side1 => repeat (first | exact (Kd.C_below HR0_0.out HB.out) | (with_reducible first | refine Kd.C_alloc ?_ _ | refine Kd.C_drewN ?_ _ | refine Kd.C_drew ?_)))
     (case side2 => exact HC0_0.out)
     (case side3 => exact Kd.V_mk HC0_1.out (Kd.F_below (Kd.C_F (Kd.heap_int .i64) HR0_1.out) Sh.bw))
     rintro e w49 ⟨v998, rfl, ho0, hb⟩
     refine ⟨_, rfl, ?_⟩
     have HO999 := am_ (Kd.R_lower (Kd.R_new' (Kd.R_mono (ok' := fun k_ => True) ho0 (fun _ hk_ => trivial)) (Kd.R_lt (Sh.rl HO996.out))) (below_size Sh.bw))
     replace HO996 := am_ (Kd.R_elder' (Sh.rl HO996.out) (Kd.R_base ho0) hb)
     replace BK970 := Sh.ab BK970 hb
     replace BK971 := Sh.ab BK971 hb
     replace HB := Sh.hb hb
     (try clear hb)
     (try clear hb2)
     (try clear hk)
     (try clear hi)
     (try clear ho0)
     obtain ⟨Ao50, co50, eo50⟩ := Kd.R_slice HO999.out
     (first | subst eo50 | (injection eo50 with f1_ f2_ f3_; have f4_ := f1_.symm; have f5_ := f3_.symm; clear f1_ f2_ f3_; subst f4_; subst f5_))
     obtain ⟨Ao51, co51, eo51⟩ := Kd.R_slice HO996.out
     (first | subst eo51 | (injection eo51 with f1_ f2_ f3_; have f4_ := f1_.symm; have f5_ := f3_.symm; clear f1_ f2_ f3_; subst f4_; subst f5_))
     refine Sh.kN hK Sh.cs fun hHeld => ?_
     clear hK K
     refine Sh.qA 7 ?_
     refine Sh.oC 8 Try.func53 #[.agg #[.slice Ao51 t994.length co51, .slice Ao50 t997.length co50]] fun K hK => ?_
     with_reducible refine (impl_checkedLasso.calls (fun k_ => some k_ = (.slice Ao51 t994.length co51 : Value).ownBlock) (.slice Ao51 t994.length co51) t994 (fun k_ => some k_ = (.slice Ao50 t997.length co50 : Value).ownBlock) (.slice Ao50 t997.length co50) t997 t1000 t1003 t1006 w _ ?side1 ?side2 ?side3 ?side4 ?side5 A44.out).mono ?_
     (case side1 => repeat (first | (with_reducible first | exact HB.out | apply below_alloc | apply pw_below_drewN | apply below_drew1 | refine below_set ?_ GE970.out | refine below_set ?_ GE971.out) | exact HB.out))
     (case side2 => exact Kd.R_tight rfl HO996.out)
     (case side3 => exact fun k_ e_ => (HO996.out.1 k_ e_.symm).2)
     (case side4 => exact Kd.R_tight rfl HO999.out)
     (case side5 => exact fun k_ e_ => (HO999.out.1 k_ e_.symm).2)
     rintro e w52 ⟨v1001, v1004, rfl, ho0, ho1, hb, hkp⟩
     refine ⟨_, rfl, ?_⟩
     have n0_ := am_ (blk_kept (Sh.pl BK970.out) hkp (fun hs_ => Or.elim hs_ (fun e_ => (fun e_ => (Kd.R_ne HO996.out BK970.out (by decide)) e_) e_) (fun e_ => (fun e_ => (Kd.R_ne HO999.out BK970.out (by decide)) e_) e_)))
     have n1_ := am_ (blk_kept (Sh.pl BK971.out) hkp (fun hs_ => Or.elim hs_ (fun e_ => (fun e_ => (Kd.R_ne HO996.out BK971.out (by decide)) e_) e_) (fun e_ => (fun e_ => (Kd.R_ne HO999.out BK971.out (by decide)) e_) e_)))
     have n2_ := am_ (Kd.R_mono (ok' := fun k_ => some k_ ≠ (v1004 : Value).ownBlock) ho0 (fun k_ hk_ => hk_.2))
     have n3_ := am_ (Kd.R_mono (ok' := fun k_ => some k_ ≠ (v1001 : Value).ownBlock) ho1 (fun k_ hk_ => hk_.2))
     have n4_ := am_ hb
     clear BK970
     clear BK971
     clear HB
     clear HO996
     clear HO999
     have BK970 := n0_
     have BK971 := n1_
     have HO1002 := n2_
     have HO1005 := n3_
     have HB := n4_
     clear n0_ n1_ n2_ n3_ n4_
     (try clear hb)
     (try clear hkp)
     (try clear ho0)
     (try clear ho1)
     obtain ⟨Ao53, co53, eo53⟩ := Kd.R_slice HO1002.out
     (first | subst eo53 | (injection eo53 with f1_ f2_ f3_; have f4_ := f1_.symm; have f5_ := f3_.symm; clear f1_ f2_ f3_; subst f4_; subst f5_))
     obtain ⟨Ao55, co55, eo55⟩ := Kd.R_slice HO1005.out
     (first | subst eo55 | (injection eo55 with f1_ f2_ f3_; have f4_ := f1_.symm; have f5_ := f3_.symm; clear f1_ f2_ f3_; subst f4_; subst f5_))
     refine Sh.kN hK Sh.cs fun hHeld => ?_
     clear hK K
     refine Sh.qA 9 ?_; refine Sh.qA 10 ?_
     refine one_ (i := 11) (N := none) (Sh.nm 13 4095) rfl rfl (one_of HT_.out (by kernel_rfl)) (by decide) (fun K hK => ?_)
     have hs54 : w52.cell? ⟨gb971, 0, none⟩ = some (.slice none 0 0) := (blk_cell BK971.out 0).trans rfl
     have hfs54 := blk_frozen BK971.out 0
     have hns54_0 := NB970_971.out
     have hms54_0 := NB971_970.out
     have hs56 : w52.cell? ⟨gb971, 1, none⟩ = some (.slice none 0 0) := (blk_cell BK971.out 1).trans rfl
     have hfs56 := blk_frozen BK971.out 1
     have hns56_0 := NB970_971.out
     have hms56_0 := NB971_970.out
     refine skip_ (w1 := ?_) (by rfl) rfl ?_ ?_
     rotate_left
     ·go_simp
      rfl
     refine hK.out _ _ ⟨((cell_far (p := ⟨gb971, _, none⟩) NB970_971.out _).trans (((cell_far (p := ⟨gb971, _, none⟩) NB970_971.out _).trans (hHeld.1)))), ((cell_far (p := ⟨gb971, _, none⟩) NB970_971.out _).trans (((cell_far (p := ⟨gb971, _, none⟩) NB970_971.out _).trans (hHeld.2))))⟩ (fun hHeld => ?_)
     clear hK K
     refine Sh.qA 12 ?_
     refine done_ (done_of HT_.out (by kernel_rfl)) ?_
     try go_wp2
     refine bodyPost_ret (results_ct rfl _ _ gb971 37 #[.slice Ao53 t1000.length co53, .slice Ao55 t1003.length co55] (0, 0) _ rfl (by refine Sh.pl ?_; refine blk_put (cs := #[.slice Ao53 t1000.length co53, .slice none 0 0]) ?_ 1 _ rfl; refine Sh.pl ?_; refine blk_put (cs := #[.slice none 0 0, .slice none 0 0]) ?_ 0 _ rfl; refine Sh.pl ?_; exact BK971.out) Try.underlying37 rfl (by kernel_rfl)) rfl ?_
     exact ⟨_, _, by first | rfl | (simp [errW_none, errW_some] <;> rfl) | (simp [*, errW_none, errW_some] <;> rfl), Sh.rl (Kd.R_mono (Kd.R_far (p := ⟨gb971, 1, none⟩) (Kd.R_far (p := ⟨gb971, 0, none⟩) (Kd.R_types HO1002.out BK971.out (by decide)) (fun _ hk => hk.2) (.slice Ao53 t1000.length co53)) (fun _ hk => hk.2) (.slice Ao55 t1003.length co55)) (fun _ hk => hk.1)), Sh.rl (Kd.R_mono (Kd.R_far (p := ⟨gb971, 1, none⟩) (Kd.R_far (p := ⟨gb971, 0, none⟩) (Kd.R_types HO1005.out BK971.out (by decide)) (fun _ hk => hk.2) (.slice Ao53 t1000.length co53)) (fun _ hk => hk.2) (.slice Ao55 t1003.length co55)) (fun _ hk => hk.1)), Sh.bw⟩
end Go.Proofs.Ytaacldndbjmekaa.P
