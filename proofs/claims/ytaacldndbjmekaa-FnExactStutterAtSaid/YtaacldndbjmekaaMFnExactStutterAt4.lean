/- Go functions of this seat as Lean functions, and the proofs that the calls come to what these say; printed by a program of this session. No condition. -/
import Derived.Test.YtaacldndbjmekaaP0
import Derived.Test.YtaacldndbjmekaaMFnExactStutterAt1
import Derived.Test.YtaacldndbjmekaaMFnExactStutterAt2
import Derived.Test.YtaacldndbjmekaaMFnExactStutterAt3
set_option linter.unusedVariables false
set_option linter.unusedSimpArgs false
set_option maxHeartbeats 40000000
set_option maxRecDepth 100000
namespace Go.Proofs.Ytaacldndbjmekaa.P
open Go.RowKit Go.Proofs.YtaacldndbjmekaaW.PrintWords Go.Proofs.YtaacldndbjmekaaW.PrintLast Go.Proofs.YtaacldndbjmekaaW.PrintMore Go.Proofs.Ytaacldndbjmekaa.Hof
attribute [local go_sem] max2_int min2_int max_two min_two max_three min_three max_four min_four
mutual
def laws_FnExactStutterAt.j0 : Nat → Int → Bool → Bool → Bool → List Int → List Int → List Int → List Int → List Int → List Int → List Int → List Int → Option (Bool)
 | 0, _, _, _, _, _, _, _, _, _, _, _, _ => none
 | k + 1, x1, x7, x10, x44, x1008000, x1008001, x1023000, x1023001, x1030000, x1030001, x1038000, x1038001 => if x44 = true then (some false) else ((laws_toLasso.f k x1008000 x1008001).bind fun bt1039 => ((laws_eqLasso.f k x1030000 x1030001 bt1039.1 bt1039.2).bind fun t1045 => (if t1045 = true then ((laws_markLasso.f k x1030000 x1030001 1).bind fun bt1046 => (if bt1046.1 < 0 then (laws_FnExactStutterAt.j1 k x1 x7 true x1008000 x1008001 x1023000 x1023001 x1038000 x1038001) else ((laws_eqLasso.f k x1038000 x1038001 x1023000 x1023001).bind fun t1049 => (if t1049 = true then (laws_FnExactStutterAt.j1 k x1 x7 (x10 != x7) x1008000 x1008001 x1023000 x1023001 x1038000 x1038001) else (laws_FnExactStutterAt.j1 k x1 x7 true x1008000 x1008001 x1023000 x1023001 x1038000 x1038001))))) else (some false))))
def laws_FnExactStutterAt.j1 : Nat → Int → Bool → Bool → List Int → List Int → List Int → List Int → List Int → List Int → Option (Bool)
 | 0, _, _, _, _, _, _, _, _, _ => none
 | k + 1, x1, x7, x65, x1008000, x1008001, x1023000, x1023001, x1038000, x1038001 => if x65 = true then (some false) else ((laws_markLasso.f k x1038000 x1038001 1).bind fun bt1050 => ((laws_heldLasso.f k bt1050.2.1 bt1050.2.2 1).bind fun t1053 => (if t1053 < 0 then (some false) else (if t1053 = bt1050.1 then ((laws_toLasso.f k x1008000 x1008001).bind fun bt1054 => ((impl_StutterAt.f k bt1054.1 bt1054.2 x1).bind fun bt1060 => ((laws_eqLasso.f k bt1060.1 bt1060.2.1 x1023000 x1023001).bind fun t1068 => (if t1068 = true then (laws_FnExactStutterAt.j2 k bt1050.1 (bt1060.2.2 != x7) bt1050.2.1 bt1050.2.2) else (laws_FnExactStutterAt.j2 k bt1050.1 true bt1050.2.1 bt1050.2.2))))) else (some false)))))
def laws_FnExactStutterAt.j2 : Nat → Int → Bool → List Int → List Int → Option (Bool)
 | 0, _, _, _, _ => none
 | k + 1, x12, x92, x1038000, x1038001 => if x92 = true then (some false) else ((laws_heldLasso.f k x1038000 x1038001 1).bind fun t1069 => (if t1069 < 0 then (some false) else (if t1069 = x12 then (some true) else (some false))))
end
def laws_FnExactStutterAt.f (k : Nat) (l0_0 : List Int) (l0_1 : List Int) (a1 : Int) : Option (Bool) := (laws_szLasso.f l0_0 l0_1 1048576).bind fun t1008 => (if t1008 < 0 then (some true) else ((laws_toLasso.f k l0_0 l0_1).bind fun bt1009 => ((spec_StutterAt.f k bt1009.1 bt1009.2 a1).bind fun bt1015 => ((laws_toLasso.f k l0_0 l0_1).bind fun bt1023 => ((impl_StutterAt.f k bt1023.1 bt1023.2 a1).bind fun bt1030 => ((laws_eqLasso.f k bt1030.1 bt1030.2.1 bt1015.1 bt1015.2.1).bind fun t1038 => (if t1038 = true then (laws_FnExactStutterAt.j0 k a1 bt1015.2.2 bt1030.2.2 (bt1030.2.2 != bt1015.2.2) l0_0 l0_1 bt1015.1 bt1015.2.1 bt1023.1 bt1023.2 bt1030.1 bt1030.2.1) else (laws_FnExactStutterAt.j0 k a1 bt1015.2.2 bt1030.2.2 true l0_0 l0_1 bt1015.1 bt1015.2.1 bt1023.1 bt1023.2 bt1030.1 bt1030.2.1))))))))
theorem laws_FnExactStutterAt.mono_l : ∀ k, (∀ y0 y1 y2 y3 y4 y5 y6 y7 y8 y9 y10 y11, LeO (laws_FnExactStutterAt.j0 k y0 y1 y2 y3 y4 y5 y6 y7 y8 y9 y10 y11) (laws_FnExactStutterAt.j0 (k + 1) y0 y1 y2 y3 y4 y5 y6 y7 y8 y9 y10 y11)) ∧ (∀ y0 y1 y2 y3 y4 y5 y6 y7 y8, LeO (laws_FnExactStutterAt.j1 k y0 y1 y2 y3 y4 y5 y6 y7 y8) (laws_FnExactStutterAt.j1 (k + 1) y0 y1 y2 y3 y4 y5 y6 y7 y8)) ∧ (∀ y0 y1 y2 y3, LeO (laws_FnExactStutterAt.j2 k y0 y1 y2 y3) (laws_FnExactStutterAt.j2 (k + 1) y0 y1 y2 y3))
 | 0 => ⟨fun _ _ _ _ _ _ _ _ _ _ _ _ r h => by simp [laws_FnExactStutterAt.j0] at h, fun _ _ _ _ _ _ _ _ _ r h => by simp [laws_FnExactStutterAt.j1] at h, fun _ _ _ _ r h => by simp [laws_FnExactStutterAt.j2] at h⟩
 | k + 1 => by
  obtain ⟨ih0, ih1, ih2⟩ := laws_FnExactStutterAt.mono_l k
  and_intros <;> intros
  all_goals (first | unfold laws_FnExactStutterAt.j0 | unfold laws_FnExactStutterAt.j1 | unfold laws_FnExactStutterAt.j2)
  all_goals repeat' with_reducible first | apply ih0 | apply ih1 | apply ih2 | apply impl_StutterAt.mono | apply laws_eqLasso.mono | apply laws_heldLasso.mono | apply laws_markLasso.mono | apply laws_toLasso.mono | apply spec_StutterAt.mono | exact LeO.refl _ | exact LeO.none _ | apply LeO.ite | refine LeO.bind ?_ fun _ => ?_
theorem laws_FnExactStutterAt.mono : ∀ a0 a1 a2 k, LeO (laws_FnExactStutterAt.f k a0 a1 a2) (laws_FnExactStutterAt.f (k + 1) a0 a1 a2) := by
 intro a0 a1 a2 k
 obtain ⟨ih0, ih1, ih2⟩ := laws_FnExactStutterAt.mono_l k
 unfold laws_FnExactStutterAt.f
 repeat' with_reducible first | apply ih0 | apply ih1 | apply ih2 | apply impl_StutterAt.mono | apply laws_eqLasso.mono | apply laws_heldLasso.mono | apply laws_markLasso.mono | apply laws_toLasso.mono | apply spec_StutterAt.mono | exact LeO.refl _ | exact LeO.none _ | apply LeO.ite | refine LeO.bind ?_ fun _ => ?_
theorem laws_FnExactStutterAt.calls (k : Nat) (A0_0 : Option Addr) (c0_0 : Nat) (l0_0 : List Int) (A0_1 : Option Addr) (c0_1 : Nat) (l0_1 : List Int) (a1 : Int) (r : Bool) (w : World) (hr0_0 : Kd.C (Kd.int .i64) w A0_0 l0_0.length l0_0) (hc0_0 : l0_0.length ≤ c0_0) (hr0_1 : Kd.C (Kd.int .i64) w A0_1 l0_1.length l0_1) (hc0_1 : l0_1.length ≤ c0_1) (h : laws_FnExactStutterAt.f k l0_0 l0_1 a1 = some r) :
  Calls Try.prog 4 #[.agg #[.slice A0_0 l0_0.length c0_0, .slice A0_1 l0_1.length c0_1], .int .i64 a1] w fun e w' => e = .returned (.bool r) ∧ Below w.heap.size w w' := by
 have hu35 := Try.underlying35
 have hu37 := Try.underlying37
 have HR0_0 := am_ hr0_0
 have HC0_0 := am_ hc0_0
 clear hr0_0 hc0_0
 have HR0_1 := am_ hr0_1
 have HC0_1 := am_ hc0_1
 clear hr0_1 hc0_1
 have HB := am_ (Below.refl w.heap.size w)
 have H := h
 clear h
 unfold laws_FnExactStutterAt.f at H
 obtain ⟨t1008, A3, H⟩ := Sh.ba H
 by_cases c4 : t1008 < 0
 ·rw [if_pos c4] at H
  have c4b0 := decide_eq_true c4
  clear c4
  obtain rfl := Option.some.inj H
  go_enter Try.func4, Try.ntmps4
  go_wp2_with (first | ((with_reducible refine Sh.d 2 ?_); refine Sh.bz w (N := 2) (cs := #[.slice A0_0 l0_0.length c0_0, .slice A0_1 l0_1.length c0_1]) (t := 35) (h := ?_); clear HB; intro gb1007 w5 BK1007 GE1007 HB; obtain ⟨hcz6_0, hcz6_1, hfz6_0, hfz6_1⟩ := Sh.b2 BK1007.out) | ((with_reducible refine Sh.k 19 ?_); refine Sh.gB (some 18) Try.func19 #[.agg #[.slice A0_0 l0_0.length c0_0, .slice A0_1 l0_1.length c0_1], .int .i64 1048576] (laws_szLasso.calls _ _ l0_0 _ _ l0_1 1048576 t1008 _ (Sh.cB HR0_0.out) HC0_0.out (Sh.cB HR0_1.out) HC0_1.out A3.out) fun w7 hb => ?_; replace BK1007 := Sh.ab BK1007 hb; replace HB := Sh.hb hb; (try clear hb); (try clear hb2); (try clear hk); (try clear hi)))
  go_ret
  exact ⟨Sh.eR, Sh.bw⟩
 ·rw [if_neg c4] at H
  have c4b0 := decide_eq_false c4
  clear c4
  obtain ⟨⟨t1009, t1012⟩, A80, H⟩ := Sh.bd H
  have A8 := am_ A80
  clear A80
  obtain ⟨⟨t1015, t1018, t1021⟩, A90, H⟩ := Sh.bd H
  have A9 := am_ A90
  clear A90
  obtain ⟨⟨t1023, t1026⟩, A100, H⟩ := Sh.bd H
  have A10 := am_ A100
  clear A100
  obtain ⟨⟨t1030, t1033, t1036⟩, A110, H⟩ := Sh.bd H
  have A11 := am_ A110
  clear A110
  have HC12 := am_ H
  clear H
  go_enter Try.func4, Try.ntmps4
  go_upto_region 8 with (first | ((with_reducible refine Sh.d 2 ?_); refine Sh.bz w (N := 2) (cs := #[.slice A0_0 l0_0.length c0_0, .slice A0_1 l0_1.length c0_1]) (t := 35) (h := ?_); clear HB; intro gb1007 w13 BK1007 GE1007 HB; obtain ⟨hcz14_0, hcz14_1, hfz14_0, hfz14_1⟩ := Sh.b2 BK1007.out) | ((with_reducible refine Sh.k 19 ?_); refine Sh.gB (some 18) Try.func19 #[.agg #[.slice A0_0 l0_0.length c0_0, .slice A0_1 l0_1.length c0_1], .int .i64 1048576] (laws_szLasso.calls _ _ l0_0 _ _ l0_1 1048576 t1008 _ (Sh.cB HR0_0.out) HC0_0.out (Sh.cB HR0_1.out) HC0_1.out A3.out) fun w15 hb => ?_; replace BK1007 := Sh.ab BK1007 hb; replace HB := Sh.hb hb; (try clear hb); (try clear hb2); (try clear hk); (try clear hi); obtain ⟨hcz16_0, hcz16_1, hfz16_0, hfz16_1⟩ := Sh.b2 BK1007.out) | ((with_reducible refine Sh.k 21 ?_); refine Sh.gL (some 23) Try.func21 #[.agg #[.slice A0_0 l0_0.length c0_0, .slice A0_1 l0_1.length c0_1]] (h := ?_); (with_reducible refine (laws_toLasso.calls k _ _ l0_0 _ _ l0_1 t1009 t1012 _ (Sh.cB HR0_0.out) HC0_0.out (Sh.cB HR0_1.out) HC0_1.out A8.out).mono ?_); rintro e w17 ⟨v1010, v1013, rfl, ho0, ho1, hb⟩; refine ⟨_, rfl, ?_⟩; have HO1011 := am_ (Kd.R_lower ho0 (below_size Sh.bw)); have HO1014 := am_ (Kd.R_lower ho1 (below_size Sh.bw)); replace BK1007 := Sh.ab BK1007 hb; replace HB := Sh.hb hb; (try clear hb); (try clear hb2); (try clear hk); (try clear hi); (try clear ho0); (try clear ho1); obtain ⟨Ao18, co18, eo18⟩ := Kd.R_slice HO1011.out; subst eo18; obtain ⟨Ao19, co19, eo19⟩ := Kd.R_slice HO1014.out; subst eo19) | ((with_reducible refine Sh.k 20 ?_); refine Sh.gL (some 25) Try.func20 #[.agg #[.slice Ao18 t1009.length co18, .slice Ao19 t1012.length co19], .int .i64 a1] (h := ?_); (with_reducible refine (spec_StutterAt.calls k _ _ t1009 _ _ t1012 a1 t1015 t1018 t1021 _ (Sh.cR (Kd.R_reads' HO1011.out).2.2) (Kd.R_reads' HO1011.out).2.1 (Sh.cR (Kd.R_reads' HO1014.out).2.2) (Kd.R_reads' HO1014.out).2.1 A9.out).mono ?_); rintro e w20 ⟨v1016, v1019, rfl, ho0, ho1, hb⟩; refine ⟨_, rfl, ?_⟩; have HO1017 := am_ (Kd.R_lower (Kd.R_new' (Kd.R_new' ho0 (Kd.R_lt (Sh.rl HO1011.out))) (Kd.R_lt (Sh.rl HO1014.out))) (below_size Sh.bw)); have HO1020 := am_ (Kd.R_lower (Kd.R_new' (Kd.R_new' ho1 (Kd.R_lt (Sh.rl HO1011.out))) (Kd.R_lt (Sh.rl HO1014.out))) (below_size Sh.bw)); replace HO1011 := am_ (Kd.R_mono (Kd.R_told (Kd.R_told (Kd.R_old (Sh.rl HO1011.out) hb) (Kd.R_base ho0)) (Kd.R_base ho1)) (fun _ h_ => h_.1)); replace HO1014 := am_ (Kd.R_mono (Kd.R_told (Kd.R_told (Kd.R_old (Sh.rl HO1014.out) hb) (Kd.R_base ho0)) (Kd.R_base ho1)) (fun _ h_ => h_.1)); replace BK1007 := Sh.ab BK1007 hb; replace HB := Sh.hb hb; (try clear hb); (try clear hb2); (try clear hk); (try clear hi); (try clear ho0); (try clear ho1)) | ((with_reducible refine Sh.d 6 ?_); refine Sh.bx (N := 6) (cs := #[.slice none 0 0, .slice none 0 0]) (t := 37) (h := ?_); intro gb1022 hg w21 hbox hb; replace HO1011 := am_ (Kd.R_below (Sh.rl HO1011.out) hb); replace HO1014 := am_ (Kd.R_below (Sh.rl HO1014.out) hb); replace HO1017 := am_ (Kd.R_below (Sh.rl HO1017.out) hb); replace HO1020 := am_ (Kd.R_below (Sh.rl HO1020.out) hb); have BK1022 := am_ hbox; have GE1022 := Sh.ag w hg; replace HB := Sh.hb hb; have NB1007_1022 := am_ (Sh.nl hg BK1007.out); have NB1022_1007 := am_ (Sh.ng hg BK1007.out); replace BK1007 := Sh.ab BK1007 hb; clear hb hbox hg; obtain ⟨Ao22, co22, eo22⟩ := Kd.R_slice HO1017.out; subst eo22; have hnb23 := NB1022_1007.out; have hnc23 := NB1007_1022.out; obtain ⟨hcz24_0, hcz24_1, hfz24_0, hfz24_1⟩ := Sh.b2 BK1022.out; obtain ⟨Ao25, co25, eo25⟩ := Kd.R_slice HO1020.out; subst eo25; obtain ⟨hcz26_0, hcz26_1, hfz26_0, hfz26_1⟩ := Sh.b2 BK1007.out) | ((with_reducible refine Sh.k 21 ?_); refine Sh.gL (some 29) Try.func21 #[.agg #[.slice A0_0 l0_0.length c0_0, .slice A0_1 l0_1.length c0_1]] (h := ?_); (with_reducible refine (laws_toLasso.calls k _ _ l0_0 _ _ l0_1 t1023 t1026 _ (Sh.cB HR0_0.out) HC0_0.out (Sh.cB HR0_1.out) HC0_1.out A10.out).mono ?_); rintro e w27 ⟨v1024, v1027, rfl, ho0, ho1, hb⟩; refine ⟨_, rfl, ?_⟩; have n0_ := am_ (Kd.R_mono (Kd.R_told (Kd.R_told (Kd.R_old (Sh.rl (Kd.R_mono (Kd.R_far (p := ⟨gb1022, 1, none⟩) (Kd.R_far (p := ⟨gb1022, 0, none⟩) (Kd.R_types HO1011.out BK1022.out (by decide)) (fun _ hk => hk.2) (.slice Ao22 t1015.length co22)) (fun _ hk => hk.2) (.slice Ao25 t1018.length co25)) (fun _ h_ => h_.1))) hb) (Kd.R_base ho0)) (Kd.R_base ho1)) (fun _ h_ => h_.1)); have n1_ := am_ (Kd.R_mono (Kd.R_told (Kd.R_told (Kd.R_old (Sh.rl (Kd.R_mono (Kd.R_far (p := ⟨gb1022, 1, none⟩) (Kd.R_far (p := ⟨gb1022, 0, none⟩) (Kd.R_types HO1014.out BK1022.out (by decide)) (fun _ hk => hk.2) (.slice Ao22 t1015.length co22)) (fun _ hk => hk.2) (.slice Ao25 t1018.length co25)) (fun _ h_ => h_.1))) hb) (Kd.R_base ho0)) (Kd.R_base ho1)) (fun _ h_ => h_.1)); have n2_ := am_ (Kd.R_mono (Kd.R_told (Kd.R_told (Kd.R_old (Sh.rl (Kd.R_mono (Kd.R_far (p := ⟨gb1022, 1, none⟩) (Kd.R_far (p := ⟨gb1022, 0, none⟩) (Kd.R_types HO1017.out BK1022.out (by decide)) (fun _ hk => hk.2) (.slice Ao22 t1015.length co22)) (fun _ hk => hk.2) (.slice Ao25 t1018.length co25)) (fun _ h_ => h_.1))) hb) (Kd.R_base ho0)) (Kd.R_base ho1)) (fun _ h_ => h_.1)); have n3_ := am_ (Kd.R_mono (Kd.R_told (Kd.R_told (Kd.R_old (Sh.rl (Kd.R_mono (Kd.R_far (p := ⟨gb1022, 1, none⟩) (Kd.R_far (p := ⟨gb1022, 0, none⟩) (Kd.R_types HO1020.out BK1022.out (by decide)) (fun _ hk => hk.2) (.slice Ao22 t1015.length co22)) (fun _ hk => hk.2) (.slice Ao25 t1018.length co25)) (fun _ h_ => h_.1))) hb) (Kd.R_base ho0)) (Kd.R_base ho1)) (fun _ h_ => h_.1)); have n4_ := am_ (Kd.R_lower (Kd.R_new' (Kd.R_new' (Kd.R_new' (Kd.R_new' ho0 (Kd.R_lt (Sh.rl (Kd.R_mono (Kd.R_far (p := ⟨gb1022, 1, none⟩) (Kd.R_far (p := ⟨gb1022, 0, none⟩) (Kd.R_types HO1011.out BK1022.out (by decide)) (fun _ hk => hk.2) (.slice Ao22 t1015.length co22)) (fun _ hk => hk.2) (.slice Ao25 t1018.length co25)) (fun _ h_ => h_.1))))) (Kd.R_lt (Sh.rl (Kd.R_mono (Kd.R_far (p := ⟨gb1022, 1, none⟩) (Kd.R_far (p := ⟨gb1022, 0, none⟩) (Kd.R_types HO1014.out BK1022.out (by decide)) (fun _ hk => hk.2) (.slice Ao22 t1015.length co22)) (fun _ hk => hk.2) (.slice Ao25 t1018.length co25)) (fun _ h_ => h_.1))))) (Kd.R_lt (Sh.rl (Kd.R_mono (Kd.R_far (p := ⟨gb1022, 1, none⟩) (Kd.R_far (p := ⟨gb1022, 0, none⟩) (Kd.R_types HO1017.out BK1022.out (by decide)) (fun _ hk => hk.2) (.slice Ao22 t1015.length co22)) (fun _ hk => hk.2) (.slice Ao25 t1018.length co25)) (fun _ h_ => h_.1))))) (Kd.R_lt (Sh.rl (Kd.R_mono (Kd.R_far (p := ⟨gb1022, 1, none⟩) (Kd.R_far (p := ⟨gb1022, 0, none⟩) (Kd.R_types HO1020.out BK1022.out (by decide)) (fun _ hk => hk.2) (.slice Ao22 t1015.length co22)) (fun _ hk => hk.2) (.slice Ao25 t1018.length co25)) (fun _ h_ => h_.1))))) (below_size Sh.bw)); have n5_ := am_ (Kd.R_lower (Kd.R_new' (Kd.R_new' (Kd.R_new' (Kd.R_new' ho1 (Kd.R_lt (Sh.rl (Kd.R_mono (Kd.R_far (p := ⟨gb1022, 1, none⟩) (Kd.R_far (p := ⟨gb1022, 0, none⟩) (Kd.R_types HO1011.out BK1022.out (by decide)) (fun _ hk => hk.2) (.slice Ao22 t1015.length co22)) (fun _ hk => hk.2) (.slice Ao25 t1018.length co25)) (fun _ h_ => h_.1))))) (Kd.R_lt (Sh.rl (Kd.R_mono (Kd.R_far (p := ⟨gb1022, 1, none⟩) (Kd.R_far (p := ⟨gb1022, 0, none⟩) (Kd.R_types HO1014.out BK1022.out (by decide)) (fun _ hk => hk.2) (.slice Ao22 t1015.length co22)) (fun _ hk => hk.2) (.slice Ao25 t1018.length co25)) (fun _ h_ => h_.1))))) (Kd.R_lt (Sh.rl (Kd.R_mono (Kd.R_far (p := ⟨gb1022, 1, none⟩) (Kd.R_far (p := ⟨gb1022, 0, none⟩) (Kd.R_types HO1017.out BK1022.out (by decide)) (fun _ hk => hk.2) (.slice Ao22 t1015.length co22)) (fun _ hk => hk.2) (.slice Ao25 t1018.length co25)) (fun _ h_ => h_.1))))) (Kd.R_lt (Sh.rl (Kd.R_mono (Kd.R_far (p := ⟨gb1022, 1, none⟩) (Kd.R_far (p := ⟨gb1022, 0, none⟩) (Kd.R_types HO1020.out BK1022.out (by decide)) (fun _ hk => hk.2) (.slice Ao22 t1015.length co22)) (fun _ hk => hk.2) (.slice Ao25 t1018.length co25)) (fun _ h_ => h_.1))))) (below_size Sh.bw)); have n6_ := am_ (blk_below (g := gb1007) (o := .cells #[.slice A0_0 l0_0.length c0_0, .slice A0_1 l0_1.length c0_1] 35 (0, 0)) (by refine Sh.pl ?_; refine blk_far ?_ NB1007_1022.out _; refine Sh.pl ?_; refine blk_far ?_ NB1007_1022.out _; refine Sh.pl ?_; exact BK1007.out) hb); have n7_ := am_ (blk_below (g := gb1022) (o := .cells #[.slice Ao22 t1015.length co22, .slice Ao25 t1018.length co25] 37 (0, 0)) (by refine Sh.pl ?_; refine blk_put (cs := #[.slice Ao22 t1015.length co22, .slice none 0 0]) ?_ 1 _ rfl; refine Sh.pl ?_; refine blk_put (cs := #[.slice none 0 0, .slice none 0 0]) ?_ 0 _ rfl; refine Sh.pl ?_; exact BK1022.out) hb); have n8_ := am_ (below_step Sh.bw hb); clear HO1011; clear HO1014; clear HO1017; clear HO1020; clear BK1007; clear BK1022; clear HB; have HO1011 := n0_; have HO1014 := n1_; have HO1017 := n2_; have HO1020 := n3_; have HO1025 := n4_; have HO1028 := n5_; have BK1007 := n6_; have BK1022 := n7_; have HB := n8_; clear n0_ n1_ n2_ n3_ n4_ n5_ n6_ n7_ n8_; (try clear hb); (try clear hb2); (try clear hk); (try clear hi); (try clear ho0); (try clear ho1)) | ((with_reducible refine Sh.d 8 ?_); refine Sh.bx (N := 8) (cs := #[.slice none 0 0, .slice none 0 0]) (t := 37) (h := ?_); intro gb1029 hg w28 hbox hb; replace HO1011 := am_ (Kd.R_below (Sh.rl HO1011.out) hb); replace HO1014 := am_ (Kd.R_below (Sh.rl HO1014.out) hb); replace HO1017 := am_ (Kd.R_below (Sh.rl HO1017.out) hb); replace HO1020 := am_ (Kd.R_below (Sh.rl HO1020.out) hb); replace HO1025 := am_ (Kd.R_below (Sh.rl HO1025.out) hb); replace HO1028 := am_ (Kd.R_below (Sh.rl HO1028.out) hb); have BK1029 := am_ hbox; have GE1029 := Sh.ag w hg; replace HB := Sh.hb hb; have NB1007_1029 := am_ (Sh.nl hg BK1007.out); have NB1029_1007 := am_ (Sh.ng hg BK1007.out); replace BK1007 := Sh.ab BK1007 hb; have NB1022_1029 := am_ (Sh.nl hg BK1022.out); have NB1029_1022 := am_ (Sh.ng hg BK1022.out); replace BK1022 := Sh.ab BK1022 hb; clear hb hbox hg; obtain ⟨Ao29, co29, eo29⟩ := Kd.R_slice HO1025.out; subst eo29; have hnb30 := NB1029_1007.out; have hnc30 := NB1007_1029.out; have hnb31 := NB1029_1022.out; have hnc31 := NB1022_1029.out; obtain ⟨hcz32_0, hcz32_1, hfz32_0, hfz32_1⟩ := Sh.b2 BK1029.out; obtain ⟨Ao33, co33, eo33⟩ := Kd.R_slice HO1028.out; subst eo33) | ((with_reducible refine Sh.k 22 ?_); refine Sh.gL (some 33) Try.func22 #[.agg #[.slice Ao29 t1023.length co29, .slice Ao33 t1026.length co33], .int .i64 a1] (h := ?_); (with_reducible refine (impl_StutterAt.calls k _ _ t1023 _ _ t1026 a1 t1030 t1033 t1036 _ ?side1 ?side2 ?side3 ?side4 A11.out).mono ?_); (case side1 => refine (Kd.R_reads' (e := 3) (base := w.heap.size) (ok := fun k_ => ((((some k_ ≠ (.slice Ao33 t1026.length co33 : Value).ownBlock ∧ some k_ ≠ (.slice Ao18 t1009.length co18 : Value).ownBlock) ∧ some k_ ≠ (.slice Ao19 t1012.length co19 : Value).ownBlock) ∧ some k_ ≠ (.slice Ao22 t1015.length co22 : Value).ownBlock) ∧ some k_ ≠ (.slice Ao25 t1018.length co25 : Value).ownBlock)) (n := t1023.length) (c := co29) ?_).2.2; exact (Sh.rl (Kd.R_mono (Kd.R_far (p := ⟨gb1029, 1, none⟩) (Kd.R_far (p := ⟨gb1029, 0, none⟩) (Kd.R_types HO1025.out BK1029.out (by decide)) (fun _ hk => hk.2) (.slice Ao29 t1023.length co29)) (fun _ hk => hk.2) (.slice Ao33 t1026.length co33)) (fun _ h_ => h_.1)))); (case side2 => exact (Kd.R_reads' HO1025.out).2.1); (case side3 => refine (Kd.R_reads' (e := 3) (base := w.heap.size) (ok := fun k_ => ((((some k_ ≠ (.slice Ao29 t1023.length co29 : Value).ownBlock ∧ some k_ ≠ (.slice Ao18 t1009.length co18 : Value).ownBlock) ∧ some k_ ≠ (.slice Ao19 t1012.length co19 : Value).ownBlock) ∧ some k_ ≠ (.slice Ao22 t1015.length co22 : Value).ownBlock) ∧ some k_ ≠ (.slice Ao25 t1018.length co25 : Value).ownBlock)) (n := t1026.length) (c := co33) ?_).2.2; exact (Sh.rl (Kd.R_mono (Kd.R_far (p := ⟨gb1029, 1, none⟩) (Kd.R_far (p := ⟨gb1029, 0, none⟩) (Kd.R_types HO1028.out BK1029.out (by decide)) (fun _ hk => hk.2) (.slice Ao29 t1023.length co29)) (fun _ hk => hk.2) (.slice Ao33 t1026.length co33)) (fun _ h_ => h_.1)))); (case side4 => exact (Kd.R_reads' HO1028.out).2.1); rintro e w34 ⟨v1031, v1034, rfl, ho0, ho1, hb⟩; refine ⟨_, rfl, ?_⟩; have n0_ := am_ (Kd.R_mono (Kd.R_told (Kd.R_told (Kd.R_old (Sh.rl (Kd.R_mono (Kd.R_far (p := ⟨gb1029, 1, none⟩) (Kd.R_far (p := ⟨gb1029, 0, none⟩) (Kd.R_types HO1011.out BK1029.out (by decide)) (fun _ hk => hk.2) (.slice Ao29 t1023.length co29)) (fun _ hk => hk.2) (.slice Ao33 t1026.length co33)) (fun _ h_ => h_.1))) hb) (Kd.R_base ho0)) (Kd.R_base ho1)) (fun _ h_ => h_.1)); have n1_ := am_ (Kd.R_mono (Kd.R_told (Kd.R_told (Kd.R_old (Sh.rl (Kd.R_mono (Kd.R_far (p := ⟨gb1029, 1, none⟩) (Kd.R_far (p := ⟨gb1029, 0, none⟩) (Kd.R_types HO1014.out BK1029.out (by decide)) (fun _ hk => hk.2) (.slice Ao29 t1023.length co29)) (fun _ hk => hk.2) (.slice Ao33 t1026.length co33)) (fun _ h_ => h_.1))) hb) (Kd.R_base ho0)) (Kd.R_base ho1)) (fun _ h_ => h_.1)); have n2_ := am_ (Kd.R_mono (Kd.R_told (Kd.R_told (Kd.R_old (Sh.rl (Kd.R_mono (Kd.R_far (p := ⟨gb1029, 1, none⟩) (Kd.R_far (p := ⟨gb1029, 0, none⟩) (Kd.R_types HO1017.out BK1029.out (by decide)) (fun _ hk => hk.2) (.slice Ao29 t1023.length co29)) (fun _ hk => hk.2) (.slice Ao33 t1026.length co33)) (fun _ h_ => h_.1))) hb) (Kd.R_base ho0)) (Kd.R_base ho1)) (fun _ h_ => h_.1)); have n3_ := am_ (Kd.R_mono (Kd.R_told (Kd.R_told (Kd.R_old (Sh.rl (Kd.R_mono (Kd.R_far (p := ⟨gb1029, 1, none⟩) (Kd.R_far (p := ⟨gb1029, 0, none⟩) (Kd.R_types HO1020.out BK1029.out (by decide)) (fun _ hk => hk.2) (.slice Ao29 t1023.length co29)) (fun _ hk => hk.2) (.slice Ao33 t1026.length co33)) (fun _ h_ => h_.1))) hb) (Kd.R_base ho0)) (Kd.R_base ho1)) (fun _ h_ => h_.1)); have n4_ := am_ (Kd.R_mono (Kd.R_told (Kd.R_told (Kd.R_old (Sh.rl (Kd.R_mono (Kd.R_far (p := ⟨gb1029, 1, none⟩) (Kd.R_far (p := ⟨gb1029, 0, none⟩) (Kd.R_types HO1025.out BK1029.out (by decide)) (fun _ hk => hk.2) (.slice Ao29 t1023.length co29)) (fun _ hk => hk.2) (.slice Ao33 t1026.length co33)) (fun _ h_ => h_.1))) hb) (Kd.R_base ho0)) (Kd.R_base ho1)) (fun _ h_ => h_.1)); have n5_ := am_ (Kd.R_mono (Kd.R_told (Kd.R_told (Kd.R_old (Sh.rl (Kd.R_mono (Kd.R_far (p := ⟨gb1029, 1, none⟩) (Kd.R_far (p := ⟨gb1029, 0, none⟩) (Kd.R_types HO1028.out BK1029.out (by decide)) (fun _ hk => hk.2) (.slice Ao29 t1023.length co29)) (fun _ hk => hk.2) (.slice Ao33 t1026.length co33)) (fun _ h_ => h_.1))) hb) (Kd.R_base ho0)) (Kd.R_base ho1)) (fun _ h_ => h_.1)); have n6_ := am_ (Kd.R_lower (Kd.R_new' (Kd.R_new' (Kd.R_new' (Kd.R_new' (Kd.R_new' (Kd.R_new' ho0 (Kd.R_lt (Sh.rl (Kd.R_mono (Kd.R_far (p := ⟨gb1029, 1, none⟩) (Kd.R_far (p := ⟨gb1029, 0, none⟩) (Kd.R_types HO1011.out BK1029.out (by decide)) (fun _ hk => hk.2) (.slice Ao29 t1023.length co29)) (fun _ hk => hk.2) (.slice Ao33 t1026.length co33)) (fun _ h_ => h_.1))))) (Kd.R_lt (Sh.rl (Kd.R_mono (Kd.R_far (p := ⟨gb1029, 1, none⟩) (Kd.R_far (p := ⟨gb1029, 0, none⟩) (Kd.R_types HO1014.out BK1029.out (by decide)) (fun _ hk => hk.2) (.slice Ao29 t1023.length co29)) (fun _ hk => hk.2) (.slice Ao33 t1026.length co33)) (fun _ h_ => h_.1))))) (Kd.R_lt (Sh.rl (Kd.R_mono (Kd.R_far (p := ⟨gb1029, 1, none⟩) (Kd.R_far (p := ⟨gb1029, 0, none⟩) (Kd.R_types HO1017.out BK1029.out (by decide)) (fun _ hk => hk.2) (.slice Ao29 t1023.length co29)) (fun _ hk => hk.2) (.slice Ao33 t1026.length co33)) (fun _ h_ => h_.1))))) (Kd.R_lt (Sh.rl (Kd.R_mono (Kd.R_far (p := ⟨gb1029, 1, none⟩) (Kd.R_far (p := ⟨gb1029, 0, none⟩) (Kd.R_types HO1020.out BK1029.out (by decide)) (fun _ hk => hk.2) (.slice Ao29 t1023.length co29)) (fun _ hk => hk.2) (.slice Ao33 t1026.length co33)) (fun _ h_ => h_.1))))) (Kd.R_lt (Sh.rl (Kd.R_mono (Kd.R_far (p := ⟨gb1029, 1, none⟩) (Kd.R_far (p := ⟨gb1029, 0, none⟩) (Kd.R_types HO1025.out BK1029.out (by decide)) (fun _ hk => hk.2) (.slice Ao29 t1023.length co29)) (fun _ hk => hk.2) (.slice Ao33 t1026.length co33)) (fun _ h_ => h_.1))))) (Kd.R_lt (Sh.rl (Kd.R_mono (Kd.R_far (p := ⟨gb1029, 1, none⟩) (Kd.R_far (p := ⟨gb1029, 0, none⟩) (Kd.R_types HO1028.out BK1029.out (by decide)) (fun _ hk => hk.2) (.slice Ao29 t1023.length co29)) (fun _ hk => hk.2) (.slice Ao33 t1026.length co33)) (fun _ h_ => h_.1))))) (below_size Sh.bw)); have n7_ := am_ (Kd.R_lower (Kd.R_new' (Kd.R_new' (Kd.R_new' (Kd.R_new' (Kd.R_new' (Kd.R_new' ho1 (Kd.R_lt (Sh.rl (Kd.R_mono (Kd.R_far (p := ⟨gb1029, 1, none⟩) (Kd.R_far (p := ⟨gb1029, 0, none⟩) (Kd.R_types HO1011.out BK1029.out (by decide)) (fun _ hk => hk.2) (.slice Ao29 t1023.length co29)) (fun _ hk => hk.2) (.slice Ao33 t1026.length co33)) (fun _ h_ => h_.1))))) (Kd.R_lt (Sh.rl (Kd.R_mono (Kd.R_far (p := ⟨gb1029, 1, none⟩) (Kd.R_far (p := ⟨gb1029, 0, none⟩) (Kd.R_types HO1014.out BK1029.out (by decide)) (fun _ hk => hk.2) (.slice Ao29 t1023.length co29)) (fun _ hk => hk.2) (.slice Ao33 t1026.length co33)) (fun _ h_ => h_.1))))) (Kd.R_lt (Sh.rl (Kd.R_mono (Kd.R_far (p := ⟨gb1029, 1, none⟩) (Kd.R_far (p := ⟨gb1029, 0, none⟩) (Kd.R_types HO1017.out BK1029.out (by decide)) (fun _ hk => hk.2) (.slice Ao29 t1023.length co29)) (fun _ hk => hk.2) (.slice Ao33 t1026.length co33)) (fun _ h_ => h_.1))))) (Kd.R_lt (Sh.rl (Kd.R_mono (Kd.R_far (p := ⟨gb1029, 1, none⟩) (Kd.R_far (p := ⟨gb1029, 0, none⟩) (Kd.R_types HO1020.out BK1029.out (by decide)) (fun _ hk => hk.2) (.slice Ao29 t1023.length co29)) (fun _ hk => hk.2) (.slice Ao33 t1026.length co33)) (fun _ h_ => h_.1))))) (Kd.R_lt (Sh.rl (Kd.R_mono (Kd.R_far (p := ⟨gb1029, 1, none⟩) (Kd.R_far (p := ⟨gb1029, 0, none⟩) (Kd.R_types HO1025.out BK1029.out (by decide)) (fun _ hk => hk.2) (.slice Ao29 t1023.length co29)) (fun _ hk => hk.2) (.slice Ao33 t1026.length co33)) (fun _ h_ => h_.1))))) (Kd.R_lt (Sh.rl (Kd.R_mono (Kd.R_far (p := ⟨gb1029, 1, none⟩) (Kd.R_far (p := ⟨gb1029, 0, none⟩) (Kd.R_types HO1028.out BK1029.out (by decide)) (fun _ hk => hk.2) (.slice Ao29 t1023.length co29)) (fun _ hk => hk.2) (.slice Ao33 t1026.length co33)) (fun _ h_ => h_.1))))) (below_size Sh.bw)); have n8_ := am_ (blk_below (g := gb1007) (o := .cells #[.slice A0_0 l0_0.length c0_0, .slice A0_1 l0_1.length c0_1] 35 (0, 0)) (by refine Sh.pl ?_; refine blk_far ?_ NB1007_1029.out _; refine Sh.pl ?_; refine blk_far ?_ NB1007_1029.out _; refine Sh.pl ?_; exact BK1007.out) hb); have n9_ := am_ (blk_below (g := gb1022) (o := .cells #[.slice Ao22 t1015.length co22, .slice Ao25 t1018.length co25] 37 (0, 0)) (by refine Sh.pl ?_; refine blk_far ?_ NB1022_1029.out _; refine Sh.pl ?_; refine blk_far ?_ NB1022_1029.out _; refine Sh.pl ?_; exact BK1022.out) hb); have n10_ := am_ (blk_below (g := gb1029) (o := .cells #[.slice Ao29 t1023.length co29, .slice Ao33 t1026.length co33] 37 (0, 0)) (by refine Sh.pl ?_; refine blk_put (cs := #[.slice Ao29 t1023.length co29, .slice none 0 0]) ?_ 1 _ rfl; refine Sh.pl ?_; refine blk_put (cs := #[.slice none 0 0, .slice none 0 0]) ?_ 0 _ rfl; refine Sh.pl ?_; exact BK1029.out) hb); have n11_ := am_ (below_step Sh.bw hb); clear HO1011; clear HO1014; clear HO1017; clear HO1020; clear HO1025; clear HO1028; clear BK1007; clear BK1022; clear BK1029; clear HB; have HO1011 := n0_; have HO1014 := n1_; have HO1017 := n2_; have HO1020 := n3_; have HO1025 := n4_; have HO1028 := n5_; have HO1032 := n6_; have HO1035 := n7_; have BK1007 := n8_; have BK1022 := n9_; have BK1029 := n10_; have HB := n11_; clear n0_ n1_ n2_ n3_ n4_ n5_ n6_ n7_ n8_ n9_ n10_ n11_; (try clear hb); (try clear hb2); (try clear hk); (try clear hi); (try clear ho0); (try clear ho1)) | ((with_reducible refine Sh.d 9 ?_); refine Sh.bx (N := 9) (cs := #[.slice none 0 0, .slice none 0 0]) (t := 37) (h := ?_); intro gb1037 hg w35 hbox hb; replace HO1011 := am_ (Kd.R_below (Sh.rl HO1011.out) hb); replace HO1014 := am_ (Kd.R_below (Sh.rl HO1014.out) hb); replace HO1017 := am_ (Kd.R_below (Sh.rl HO1017.out) hb); replace HO1020 := am_ (Kd.R_below (Sh.rl HO1020.out) hb); replace HO1025 := am_ (Kd.R_below (Sh.rl HO1025.out) hb); replace HO1028 := am_ (Kd.R_below (Sh.rl HO1028.out) hb); replace HO1032 := am_ (Kd.R_below (Sh.rl HO1032.out) hb); replace HO1035 := am_ (Kd.R_below (Sh.rl HO1035.out) hb); have BK1037 := am_ hbox; have GE1037 := Sh.ag w hg; replace HB := Sh.hb hb; have NB1007_1037 := am_ (Sh.nl hg BK1007.out); have NB1037_1007 := am_ (Sh.ng hg BK1007.out); replace BK1007 := Sh.ab BK1007 hb; have NB1022_1037 := am_ (Sh.nl hg BK1022.out); have NB1037_1022 := am_ (Sh.ng hg BK1022.out); replace BK1022 := Sh.ab BK1022 hb; have NB1029_1037 := am_ (Sh.nl hg BK1029.out); have NB1037_1029 := am_ (Sh.ng hg BK1029.out); replace BK1029 := Sh.ab BK1029 hb; clear hb hbox hg; obtain ⟨Ao36, co36, eo36⟩ := Kd.R_slice HO1032.out; subst eo36; have hnb37 := NB1037_1007.out; have hnc37 := NB1007_1037.out; have hnb38 := NB1037_1022.out; have hnc38 := NB1022_1037.out; have hnb39 := NB1037_1029.out; have hnc39 := NB1029_1037.out; obtain ⟨hcz40_0, hcz40_1, hfz40_0, hfz40_1⟩ := Sh.b2 BK1037.out; obtain ⟨Ao41, co41, eo41⟩ := Kd.R_slice HO1035.out; subst eo41))
  (try simp only [Act.put, List.setIfInBounds_toArray, List.set_cons_zero, List.set_cons_succ])
  go_cut [44] (fun v44 wc => ∃ (kq : Nat) (x44_11 : Bool), v44 = .bool x44_11 ∧ Aside0 (laws_FnExactStutterAt.j0 kq a1 t1021 t1036 x44_11 l0_0 l0_1 t1015 t1018 t1023 t1026 t1030 t1033 = some r) ∧ Aside0 (kq ≤ k) ∧ Aside0 (Kd.R (Kd.int .i64) 3 wc w.heap.size (fun k_ => some k_ ≠ ((.slice Ao25 t1018.length co25) : Value).ownBlock ∧ some k_ ≠ ((.slice Ao29 t1023.length co29) : Value).ownBlock ∧ some k_ ≠ ((.slice Ao33 t1026.length co33) : Value).ownBlock ∧ some k_ ≠ ((.slice Ao36 t1030.length co36) : Value).ownBlock ∧ some k_ ≠ ((.slice Ao41 t1033.length co41) : Value).ownBlock) (.slice Ao22 t1015.length co22) t1015) ∧ Aside0 (Kd.R (Kd.int .i64) 3 wc w.heap.size (fun k_ => some k_ ≠ ((.slice Ao22 t1015.length co22) : Value).ownBlock ∧ some k_ ≠ ((.slice Ao29 t1023.length co29) : Value).ownBlock ∧ some k_ ≠ ((.slice Ao33 t1026.length co33) : Value).ownBlock ∧ some k_ ≠ ((.slice Ao36 t1030.length co36) : Value).ownBlock ∧ some k_ ≠ ((.slice Ao41 t1033.length co41) : Value).ownBlock) (.slice Ao25 t1018.length co25) t1018) ∧ Aside0 (Kd.R (Kd.int .i64) 3 wc w.heap.size (fun k_ => some k_ ≠ ((.slice Ao22 t1015.length co22) : Value).ownBlock ∧ some k_ ≠ ((.slice Ao25 t1018.length co25) : Value).ownBlock ∧ some k_ ≠ ((.slice Ao33 t1026.length co33) : Value).ownBlock ∧ some k_ ≠ ((.slice Ao36 t1030.length co36) : Value).ownBlock ∧ some k_ ≠ ((.slice Ao41 t1033.length co41) : Value).ownBlock) (.slice Ao29 t1023.length co29) t1023) ∧ Aside0 (Kd.R (Kd.int .i64) 3 wc w.heap.size (fun k_ => some k_ ≠ ((.slice Ao22 t1015.length co22) : Value).ownBlock ∧ some k_ ≠ ((.slice Ao25 t1018.length co25) : Value).ownBlock ∧ some k_ ≠ ((.slice Ao29 t1023.length co29) : Value).ownBlock ∧ some k_ ≠ ((.slice Ao36 t1030.length co36) : Value).ownBlock ∧ some k_ ≠ ((.slice Ao41 t1033.length co41) : Value).ownBlock) (.slice Ao33 t1026.length co33) t1026) ∧ Aside0 (Kd.R (Kd.int .i64) 3 wc w.heap.size (fun k_ => some k_ ≠ ((.slice Ao22 t1015.length co22) : Value).ownBlock ∧ some k_ ≠ ((.slice Ao25 t1018.length co25) : Value).ownBlock ∧ some k_ ≠ ((.slice Ao29 t1023.length co29) : Value).ownBlock ∧ some k_ ≠ ((.slice Ao33 t1026.length co33) : Value).ownBlock ∧ some k_ ≠ ((.slice Ao41 t1033.length co41) : Value).ownBlock) (.slice Ao36 t1030.length co36) t1030) ∧ Aside0 (Kd.R (Kd.int .i64) 3 wc w.heap.size (fun k_ => some k_ ≠ ((.slice Ao22 t1015.length co22) : Value).ownBlock ∧ some k_ ≠ ((.slice Ao25 t1018.length co25) : Value).ownBlock ∧ some k_ ≠ ((.slice Ao29 t1023.length co29) : Value).ownBlock ∧ some k_ ≠ ((.slice Ao33 t1026.length co33) : Value).ownBlock ∧ some k_ ≠ ((.slice Ao36 t1030.length co36) : Value).ownBlock) (.slice Ao41 t1033.length co41) t1033) ∧ Aside0 (wc.heap[gb1007]? = some (.cells #[(.slice A0_0 l0_0.length c0_0), (.slice A0_1 l0_1.length c0_1)] 35 (0, 0))) ∧ Aside0 (wc.heap[gb1022]? = some (.cells #[(.slice Ao22 t1015.length co22), (.slice Ao25 t1018.length co25)] 37 (0, 0))) ∧ Aside0 (wc.heap[gb1029]? = some (.cells #[(.slice Ao29 t1023.length co29), (.slice Ao33 t1026.length co33)] 37 (0, 0))) ∧ Aside0 (wc.heap[gb1037]? = some (.cells #[(.slice Ao36 t1030.length co36), (.slice Ao41 t1033.length co41)] 37 (0, 0))) ∧ Aside0 (Below w.heap.size w wc))
  case first =>
   have H := HC12.out
   clear HC12
   obtain ⟨t1038, A42, H⟩ := Sh.ba H
   by_cases c43 : t1038 = true
   ·subst c43
    rw [if_pos rfl] at H
    have H' := am_ H
    clear H
    have hnb44 := NB1037_1007.out
    have hnc44 := NB1007_1037.out
    have hnb45 := NB1037_1022.out
    have hnc45 := NB1022_1037.out
    have hnb46 := NB1037_1029.out
    have hnc46 := NB1029_1037.out
    have hcz47_0 := Sh.bc BK1037.out 0
    have hcz47_1 := Sh.bc BK1037.out 1
    have hfz47_0 := blk_frozen BK1037.out 0
    have hfz47_1 := blk_frozen BK1037.out 1
    have hnb48 := NB1022_1007.out
    have hnc48 := NB1007_1022.out
    have hnb49 := NB1022_1029.out
    have hnc49 := NB1029_1022.out
    have hcz50_0 := Sh.bc BK1022.out 0
    have hcz50_1 := Sh.bc BK1022.out 1
    have hfz50_0 := blk_frozen BK1022.out 0
    have hfz50_1 := blk_frozen BK1022.out 1
    go_wp2_with (first | ((with_reducible refine Sh.k 23 ?_); refine Sh.gL (some 38) Try.func23 #[.agg #[.slice Ao36 t1030.length co36, .slice Ao41 t1033.length co41], .agg #[.slice Ao22 t1015.length co22, .slice Ao25 t1018.length co25]] (h := ?_); (with_reducible refine (laws_eqLasso.calls k _ _ t1030 _ _ t1033 _ _ t1015 _ _ t1018 true _ ?side1 ?side2 ?side3 ?side4 ?side5 ?side6 ?side7 ?side8 A42.out).mono ?_); (case side1 => refine (Kd.R_reads' (e := 3) (base := w.heap.size) (ok := fun k_ => ((((((some k_ ≠ (.slice Ao41 t1033.length co41 : Value).ownBlock ∧ some k_ ≠ (.slice Ao18 t1009.length co18 : Value).ownBlock) ∧ some k_ ≠ (.slice Ao19 t1012.length co19 : Value).ownBlock) ∧ some k_ ≠ (.slice Ao22 t1015.length co22 : Value).ownBlock) ∧ some k_ ≠ (.slice Ao25 t1018.length co25 : Value).ownBlock) ∧ some k_ ≠ (.slice Ao29 t1023.length co29 : Value).ownBlock) ∧ some k_ ≠ (.slice Ao33 t1026.length co33 : Value).ownBlock)) (n := t1030.length) (c := co36) ?_).2.2; exact (Sh.rl (Kd.R_mono (Kd.R_far (p := ⟨gb1037, 1, none⟩) (Kd.R_far (p := ⟨gb1037, 0, none⟩) (Kd.R_types HO1032.out BK1037.out (by decide)) (fun _ hk => hk.2) (.slice Ao36 t1030.length co36)) (fun _ hk => hk.2) (.slice Ao41 t1033.length co41)) (fun _ h_ => h_.1)))); (case side2 => exact (Kd.R_reads' HO1032.out).2.1); (case side3 => refine (Kd.R_reads' (e := 3) (base := w.heap.size) (ok := fun k_ => ((((((some k_ ≠ (.slice Ao36 t1030.length co36 : Value).ownBlock ∧ some k_ ≠ (.slice Ao18 t1009.length co18 : Value).ownBlock) ∧ some k_ ≠ (.slice Ao19 t1012.length co19 : Value).ownBlock) ∧ some k_ ≠ (.slice Ao22 t1015.length co22 : Value).ownBlock) ∧ some k_ ≠ (.slice Ao25 t1018.length co25 : Value).ownBlock) ∧ some k_ ≠ (.slice Ao29 t1023.length co29 : Value).ownBlock) ∧ some k_ ≠ (.slice Ao33 t1026.length co33 : Value).ownBlock)) (n := t1033.length) (c := co41) ?_).2.2; exact (Sh.rl (Kd.R_mono (Kd.R_far (p := ⟨gb1037, 1, none⟩) (Kd.R_far (p := ⟨gb1037, 0, none⟩) (Kd.R_types HO1035.out BK1037.out (by decide)) (fun _ hk => hk.2) (.slice Ao36 t1030.length co36)) (fun _ hk => hk.2) (.slice Ao41 t1033.length co41)) (fun _ h_ => h_.1)))); (case side4 => exact (Kd.R_reads' HO1035.out).2.1); (case side5 => refine (Kd.R_reads' (e := 3) (base := w.heap.size) (ok := fun k_ => ((((((some k_ ≠ (.slice Ao25 t1018.length co25 : Value).ownBlock ∧ some k_ ≠ (.slice Ao18 t1009.length co18 : Value).ownBlock) ∧ some k_ ≠ (.slice Ao19 t1012.length co19 : Value).ownBlock) ∧ some k_ ≠ (.slice Ao29 t1023.length co29 : Value).ownBlock) ∧ some k_ ≠ (.slice Ao33 t1026.length co33 : Value).ownBlock) ∧ some k_ ≠ (.slice Ao36 t1030.length co36 : Value).ownBlock) ∧ some k_ ≠ (.slice Ao41 t1033.length co41 : Value).ownBlock)) (n := t1015.length) (c := co22) ?_).2.2; exact (Sh.rl (Kd.R_mono (Kd.R_far (p := ⟨gb1037, 1, none⟩) (Kd.R_far (p := ⟨gb1037, 0, none⟩) (Kd.R_types HO1017.out BK1037.out (by decide)) (fun _ hk => hk.2) (.slice Ao36 t1030.length co36)) (fun _ hk => hk.2) (.slice Ao41 t1033.length co41)) (fun _ h_ => h_.1)))); (case side6 => exact (Kd.R_reads' HO1017.out).2.1); (case side7 => refine (Kd.R_reads' (e := 3) (base := w.heap.size) (ok := fun k_ => ((((((some k_ ≠ (.slice Ao22 t1015.length co22 : Value).ownBlock ∧ some k_ ≠ (.slice Ao18 t1009.length co18 : Value).ownBlock) ∧ some k_ ≠ (.slice Ao19 t1012.length co19 : Value).ownBlock) ∧ some k_ ≠ (.slice Ao29 t1023.length co29 : Value).ownBlock) ∧ some k_ ≠ (.slice Ao33 t1026.length co33 : Value).ownBlock) ∧ some k_ ≠ (.slice Ao36 t1030.length co36 : Value).ownBlock) ∧ some k_ ≠ (.slice Ao41 t1033.length co41 : Value).ownBlock)) (n := t1018.length) (c := co25) ?_).2.2; exact (Sh.rl (Kd.R_mono (Kd.R_far (p := ⟨gb1037, 1, none⟩) (Kd.R_far (p := ⟨gb1037, 0, none⟩) (Kd.R_types HO1020.out BK1037.out (by decide)) (fun _ hk => hk.2) (.slice Ao36 t1030.length co36)) (fun _ hk => hk.2) (.slice Ao41 t1033.length co41)) (fun _ h_ => h_.1)))); (case side8 => exact (Kd.R_reads' HO1020.out).2.1); rintro e w51 ⟨rfl, hb⟩; refine ⟨_, rfl, ?_⟩; replace HO1011 := am_ (Kd.R_below (Sh.rl (Kd.R_mono (Kd.R_far (p := ⟨gb1037, 1, none⟩) (Kd.R_far (p := ⟨gb1037, 0, none⟩) (Kd.R_types HO1011.out BK1037.out (by decide)) (fun _ hk => hk.2) (.slice Ao36 t1030.length co36)) (fun _ hk => hk.2) (.slice Ao41 t1033.length co41)) (fun _ h_ => h_.1))) hb); replace HO1014 := am_ (Kd.R_below (Sh.rl (Kd.R_mono (Kd.R_far (p := ⟨gb1037, 1, none⟩) (Kd.R_far (p := ⟨gb1037, 0, none⟩) (Kd.R_types HO1014.out BK1037.out (by decide)) (fun _ hk => hk.2) (.slice Ao36 t1030.length co36)) (fun _ hk => hk.2) (.slice Ao41 t1033.length co41)) (fun _ h_ => h_.1))) hb); replace HO1017 := am_ (Kd.R_below (Sh.rl (Kd.R_mono (Kd.R_far (p := ⟨gb1037, 1, none⟩) (Kd.R_far (p := ⟨gb1037, 0, none⟩) (Kd.R_types HO1017.out BK1037.out (by decide)) (fun _ hk => hk.2) (.slice Ao36 t1030.length co36)) (fun _ hk => hk.2) (.slice Ao41 t1033.length co41)) (fun _ h_ => h_.1))) hb); replace HO1020 := am_ (Kd.R_below (Sh.rl (Kd.R_mono (Kd.R_far (p := ⟨gb1037, 1, none⟩) (Kd.R_far (p := ⟨gb1037, 0, none⟩) (Kd.R_types HO1020.out BK1037.out (by decide)) (fun _ hk => hk.2) (.slice Ao36 t1030.length co36)) (fun _ hk => hk.2) (.slice Ao41 t1033.length co41)) (fun _ h_ => h_.1))) hb); replace HO1025 := am_ (Kd.R_below (Sh.rl (Kd.R_mono (Kd.R_far (p := ⟨gb1037, 1, none⟩) (Kd.R_far (p := ⟨gb1037, 0, none⟩) (Kd.R_types HO1025.out BK1037.out (by decide)) (fun _ hk => hk.2) (.slice Ao36 t1030.length co36)) (fun _ hk => hk.2) (.slice Ao41 t1033.length co41)) (fun _ h_ => h_.1))) hb); replace HO1028 := am_ (Kd.R_below (Sh.rl (Kd.R_mono (Kd.R_far (p := ⟨gb1037, 1, none⟩) (Kd.R_far (p := ⟨gb1037, 0, none⟩) (Kd.R_types HO1028.out BK1037.out (by decide)) (fun _ hk => hk.2) (.slice Ao36 t1030.length co36)) (fun _ hk => hk.2) (.slice Ao41 t1033.length co41)) (fun _ h_ => h_.1))) hb); replace HO1032 := am_ (Kd.R_below (Sh.rl (Kd.R_mono (Kd.R_far (p := ⟨gb1037, 1, none⟩) (Kd.R_far (p := ⟨gb1037, 0, none⟩) (Kd.R_types HO1032.out BK1037.out (by decide)) (fun _ hk => hk.2) (.slice Ao36 t1030.length co36)) (fun _ hk => hk.2) (.slice Ao41 t1033.length co41)) (fun _ h_ => h_.1))) hb); replace HO1035 := am_ (Kd.R_below (Sh.rl (Kd.R_mono (Kd.R_far (p := ⟨gb1037, 1, none⟩) (Kd.R_far (p := ⟨gb1037, 0, none⟩) (Kd.R_types HO1035.out BK1037.out (by decide)) (fun _ hk => hk.2) (.slice Ao36 t1030.length co36)) (fun _ hk => hk.2) (.slice Ao41 t1033.length co41)) (fun _ h_ => h_.1))) hb); replace BK1007 := am_ (blk_below (g := gb1007) (o := .cells #[.slice A0_0 l0_0.length c0_0, .slice A0_1 l0_1.length c0_1] 35 (0, 0)) (by refine Sh.pl ?_; refine blk_far ?_ NB1007_1037.out _; refine Sh.pl ?_; refine blk_far ?_ NB1007_1037.out _; refine Sh.pl ?_; exact BK1007.out) hb); replace BK1022 := am_ (blk_below (g := gb1022) (o := .cells #[.slice Ao22 t1015.length co22, .slice Ao25 t1018.length co25] 37 (0, 0)) (by refine Sh.pl ?_; refine blk_far ?_ NB1022_1037.out _; refine Sh.pl ?_; refine blk_far ?_ NB1022_1037.out _; refine Sh.pl ?_; exact BK1022.out) hb); replace BK1029 := am_ (blk_below (g := gb1029) (o := .cells #[.slice Ao29 t1023.length co29, .slice Ao33 t1026.length co33] 37 (0, 0)) (by refine Sh.pl ?_; refine blk_far ?_ NB1029_1037.out _; refine Sh.pl ?_; refine blk_far ?_ NB1029_1037.out _; refine Sh.pl ?_; exact BK1029.out) hb); replace BK1037 := am_ (blk_below (g := gb1037) (o := .cells #[.slice Ao36 t1030.length co36, .slice Ao41 t1033.length co41] 37 (0, 0)) (by refine Sh.pl ?_; refine blk_put (cs := #[.slice Ao36 t1030.length co36, .slice none 0 0]) ?_ 1 _ rfl; refine Sh.pl ?_; refine blk_put (cs := #[.slice none 0 0, .slice none 0 0]) ?_ 0 _ rfl; refine Sh.pl ?_; exact BK1037.out) hb); replace HB := Sh.hb hb; (try clear hb); (try clear hb2); (try clear hk); (try clear hi)))
    go_meet
    case rel => exact ⟨_, ((t1036 != t1021)), (Sh.es), H', ⟨Sh.om⟩, ⟨Sh.rl (Kd.R_mono HO1017.out (fun _ h => ⟨h.1.1.1.1.1.1, h.1.1.1.2, h.1.1.2, h.1.2, h.2⟩))⟩, ⟨Sh.rl (Kd.R_mono HO1020.out (fun _ h => ⟨h.1.1.1.1.1.1, h.1.1.1.2, h.1.1.2, h.1.2, h.2⟩))⟩, ⟨Sh.rl (Kd.R_mono HO1025.out (fun _ h => ⟨h.1.1.1.2, h.1.1.2, h.1.1.1.1.1.1, h.1.2, h.2⟩))⟩, ⟨Sh.rl (Kd.R_mono HO1028.out (fun _ h => ⟨h.1.1.1.2, h.1.1.2, h.1.1.1.1.1.1, h.1.2, h.2⟩))⟩, ⟨Sh.rl (Kd.R_mono HO1032.out (fun _ h => ⟨h.1.1.1.2, h.1.1.2, h.1.2, h.2, h.1.1.1.1.1.1⟩))⟩, ⟨Sh.rl (Kd.R_mono HO1035.out (fun _ h => ⟨h.1.1.1.2, h.1.1.2, h.1.2, h.2, h.1.1.1.1.1.1⟩))⟩, ⟨by refine Sh.pl ?_; exact BK1007.out⟩, ⟨by refine Sh.pl ?_; exact BK1022.out⟩, ⟨by refine Sh.pl ?_; exact BK1029.out⟩, ⟨by refine Sh.pl ?_; exact BK1037.out⟩, ⟨Sh.bw⟩⟩
   ·replace c43 := Bool.eq_false_iff.mpr c43
    subst c43
    rw [Sh.nf] at H
    have H' := am_ H
    clear H
    have hnb52 := NB1037_1007.out
    have hnc52 := NB1007_1037.out
    have hnb53 := NB1037_1022.out
    have hnc53 := NB1022_1037.out
    have hnb54 := NB1037_1029.out
    have hnc54 := NB1029_1037.out
    have hcz55_0 := Sh.bc BK1037.out 0
    have hcz55_1 := Sh.bc BK1037.out 1
    have hfz55_0 := blk_frozen BK1037.out 0
    have hfz55_1 := blk_frozen BK1037.out 1
    have hnb56 := NB1022_1007.out
    have hnc56 := NB1007_1022.out
    have hnb57 := NB1022_1029.out
    have hnc57 := NB1029_1022.out
    have hcz58_0 := Sh.bc BK1022.out 0
    have hcz58_1 := Sh.bc BK1022.out 1
    have hfz58_0 := blk_frozen BK1022.out 0
    have hfz58_1 := blk_frozen BK1022.out 1
    go_wp2_with (first | ((with_reducible refine Sh.k 23 ?_); refine Sh.gL (some 38) Try.func23 #[.agg #[.slice Ao36 t1030.length co36, .slice Ao41 t1033.length co41], .agg #[.slice Ao22 t1015.length co22, .slice Ao25 t1018.length co25]] (h := ?_); (with_reducible refine (laws_eqLasso.calls k _ _ t1030 _ _ t1033 _ _ t1015 _ _ t1018 false _ ?side1 ?side2 ?side3 ?side4 ?side5 ?side6 ?side7 ?side8 A42.out).mono ?_); (case side1 => refine (Kd.R_reads' (e := 3) (base := w.heap.size) (ok := fun k_ => ((((((some k_ ≠ (.slice Ao41 t1033.length co41 : Value).ownBlock ∧ some k_ ≠ (.slice Ao18 t1009.length co18 : Value).ownBlock) ∧ some k_ ≠ (.slice Ao19 t1012.length co19 : Value).ownBlock) ∧ some k_ ≠ (.slice Ao22 t1015.length co22 : Value).ownBlock) ∧ some k_ ≠ (.slice Ao25 t1018.length co25 : Value).ownBlock) ∧ some k_ ≠ (.slice Ao29 t1023.length co29 : Value).ownBlock) ∧ some k_ ≠ (.slice Ao33 t1026.length co33 : Value).ownBlock)) (n := t1030.length) (c := co36) ?_).2.2; exact (Sh.rl (Kd.R_mono (Kd.R_far (p := ⟨gb1037, 1, none⟩) (Kd.R_far (p := ⟨gb1037, 0, none⟩) (Kd.R_types HO1032.out BK1037.out (by decide)) (fun _ hk => hk.2) (.slice Ao36 t1030.length co36)) (fun _ hk => hk.2) (.slice Ao41 t1033.length co41)) (fun _ h_ => h_.1)))); (case side2 => exact (Kd.R_reads' HO1032.out).2.1); (case side3 => refine (Kd.R_reads' (e := 3) (base := w.heap.size) (ok := fun k_ => ((((((some k_ ≠ (.slice Ao36 t1030.length co36 : Value).ownBlock ∧ some k_ ≠ (.slice Ao18 t1009.length co18 : Value).ownBlock) ∧ some k_ ≠ (.slice Ao19 t1012.length co19 : Value).ownBlock) ∧ some k_ ≠ (.slice Ao22 t1015.length co22 : Value).ownBlock) ∧ some k_ ≠ (.slice Ao25 t1018.length co25 : Value).ownBlock) ∧ some k_ ≠ (.slice Ao29 t1023.length co29 : Value).ownBlock) ∧ some k_ ≠ (.slice Ao33 t1026.length co33 : Value).ownBlock)) (n := t1033.length) (c := co41) ?_).2.2; exact (Sh.rl (Kd.R_mono (Kd.R_far (p := ⟨gb1037, 1, none⟩) (Kd.R_far (p := ⟨gb1037, 0, none⟩) (Kd.R_types HO1035.out BK1037.out (by decide)) (fun _ hk => hk.2) (.slice Ao36 t1030.length co36)) (fun _ hk => hk.2) (.slice Ao41 t1033.length co41)) (fun _ h_ => h_.1)))); (case side4 => exact (Kd.R_reads' HO1035.out).2.1); (case side5 => refine (Kd.R_reads' (e := 3) (base := w.heap.size) (ok := fun k_ => ((((((some k_ ≠ (.slice Ao25 t1018.length co25 : Value).ownBlock ∧ some k_ ≠ (.slice Ao18 t1009.length co18 : Value).ownBlock) ∧ some k_ ≠ (.slice Ao19 t1012.length co19 : Value).ownBlock) ∧ some k_ ≠ (.slice Ao29 t1023.length co29 : Value).ownBlock) ∧ some k_ ≠ (.slice Ao33 t1026.length co33 : Value).ownBlock) ∧ some k_ ≠ (.slice Ao36 t1030.length co36 : Value).ownBlock) ∧ some k_ ≠ (.slice Ao41 t1033.length co41 : Value).ownBlock)) (n := t1015.length) (c := co22) ?_).2.2; exact (Sh.rl (Kd.R_mono (Kd.R_far (p := ⟨gb1037, 1, none⟩) (Kd.R_far (p := ⟨gb1037, 0, none⟩) (Kd.R_types HO1017.out BK1037.out (by decide)) (fun _ hk => hk.2) (.slice Ao36 t1030.length co36)) (fun _ hk => hk.2) (.slice Ao41 t1033.length co41)) (fun _ h_ => h_.1)))); (case side6 => exact (Kd.R_reads' HO1017.out).2.1); (case side7 => refine (Kd.R_reads' (e := 3) (base := w.heap.size) (ok := fun k_ => ((((((some k_ ≠ (.slice Ao22 t1015.length co22 : Value).ownBlock ∧ some k_ ≠ (.slice Ao18 t1009.length co18 : Value).ownBlock) ∧ some k_ ≠ (.slice Ao19 t1012.length co19 : Value).ownBlock) ∧ some k_ ≠ (.slice Ao29 t1023.length co29 : Value).ownBlock) ∧ some k_ ≠ (.slice Ao33 t1026.length co33 : Value).ownBlock) ∧ some k_ ≠ (.slice Ao36 t1030.length co36 : Value).ownBlock) ∧ some k_ ≠ (.slice Ao41 t1033.length co41 : Value).ownBlock)) (n := t1018.length) (c := co25) ?_).2.2; exact (Sh.rl (Kd.R_mono (Kd.R_far (p := ⟨gb1037, 1, none⟩) (Kd.R_far (p := ⟨gb1037, 0, none⟩) (Kd.R_types HO1020.out BK1037.out (by decide)) (fun _ hk => hk.2) (.slice Ao36 t1030.length co36)) (fun _ hk => hk.2) (.slice Ao41 t1033.length co41)) (fun _ h_ => h_.1)))); (case side8 => exact (Kd.R_reads' HO1020.out).2.1); rintro e w59 ⟨rfl, hb⟩; refine ⟨_, rfl, ?_⟩; replace HO1011 := am_ (Kd.R_below (Sh.rl (Kd.R_mono (Kd.R_far (p := ⟨gb1037, 1, none⟩) (Kd.R_far (p := ⟨gb1037, 0, none⟩) (Kd.R_types HO1011.out BK1037.out (by decide)) (fun _ hk => hk.2) (.slice Ao36 t1030.length co36)) (fun _ hk => hk.2) (.slice Ao41 t1033.length co41)) (fun _ h_ => h_.1))) hb); replace HO1014 := am_ (Kd.R_below (Sh.rl (Kd.R_mono (Kd.R_far (p := ⟨gb1037, 1, none⟩) (Kd.R_far (p := ⟨gb1037, 0, none⟩) (Kd.R_types HO1014.out BK1037.out (by decide)) (fun _ hk => hk.2) (.slice Ao36 t1030.length co36)) (fun _ hk => hk.2) (.slice Ao41 t1033.length co41)) (fun _ h_ => h_.1))) hb); replace HO1017 := am_ (Kd.R_below (Sh.rl (Kd.R_mono (Kd.R_far (p := ⟨gb1037, 1, none⟩) (Kd.R_far (p := ⟨gb1037, 0, none⟩) (Kd.R_types HO1017.out BK1037.out (by decide)) (fun _ hk => hk.2) (.slice Ao36 t1030.length co36)) (fun _ hk => hk.2) (.slice Ao41 t1033.length co41)) (fun _ h_ => h_.1))) hb); replace HO1020 := am_ (Kd.R_below (Sh.rl (Kd.R_mono (Kd.R_far (p := ⟨gb1037, 1, none⟩) (Kd.R_far (p := ⟨gb1037, 0, none⟩) (Kd.R_types HO1020.out BK1037.out (by decide)) (fun _ hk => hk.2) (.slice Ao36 t1030.length co36)) (fun _ hk => hk.2) (.slice Ao41 t1033.length co41)) (fun _ h_ => h_.1))) hb); replace HO1025 := am_ (Kd.R_below (Sh.rl (Kd.R_mono (Kd.R_far (p := ⟨gb1037, 1, none⟩) (Kd.R_far (p := ⟨gb1037, 0, none⟩) (Kd.R_types HO1025.out BK1037.out (by decide)) (fun _ hk => hk.2) (.slice Ao36 t1030.length co36)) (fun _ hk => hk.2) (.slice Ao41 t1033.length co41)) (fun _ h_ => h_.1))) hb); replace HO1028 := am_ (Kd.R_below (Sh.rl (Kd.R_mono (Kd.R_far (p := ⟨gb1037, 1, none⟩) (Kd.R_far (p := ⟨gb1037, 0, none⟩) (Kd.R_types HO1028.out BK1037.out (by decide)) (fun _ hk => hk.2) (.slice Ao36 t1030.length co36)) (fun _ hk => hk.2) (.slice Ao41 t1033.length co41)) (fun _ h_ => h_.1))) hb); replace HO1032 := am_ (Kd.R_below (Sh.rl (Kd.R_mono (Kd.R_far (p := ⟨gb1037, 1, none⟩) (Kd.R_far (p := ⟨gb1037, 0, none⟩) (Kd.R_types HO1032.out BK1037.out (by decide)) (fun _ hk => hk.2) (.slice Ao36 t1030.length co36)) (fun _ hk => hk.2) (.slice Ao41 t1033.length co41)) (fun _ h_ => h_.1))) hb); replace HO1035 := am_ (Kd.R_below (Sh.rl (Kd.R_mono (Kd.R_far (p := ⟨gb1037, 1, none⟩) (Kd.R_far (p := ⟨gb1037, 0, none⟩) (Kd.R_types HO1035.out BK1037.out (by decide)) (fun _ hk => hk.2) (.slice Ao36 t1030.length co36)) (fun _ hk => hk.2) (.slice Ao41 t1033.length co41)) (fun _ h_ => h_.1))) hb); replace BK1007 := am_ (blk_below (g := gb1007) (o := .cells #[.slice A0_0 l0_0.length c0_0, .slice A0_1 l0_1.length c0_1] 35 (0, 0)) (by refine Sh.pl ?_; refine blk_far ?_ NB1007_1037.out _; refine Sh.pl ?_; refine blk_far ?_ NB1007_1037.out _; refine Sh.pl ?_; exact BK1007.out) hb); replace BK1022 := am_ (blk_below (g := gb1022) (o := .cells #[.slice Ao22 t1015.length co22, .slice Ao25 t1018.length co25] 37 (0, 0)) (by refine Sh.pl ?_; refine blk_far ?_ NB1022_1037.out _; refine Sh.pl ?_; refine blk_far ?_ NB1022_1037.out _; refine Sh.pl ?_; exact BK1022.out) hb); replace BK1029 := am_ (blk_below (g := gb1029) (o := .cells #[.slice Ao29 t1023.length co29, .slice Ao33 t1026.length co33] 37 (0, 0)) (by refine Sh.pl ?_; refine blk_far ?_ NB1029_1037.out _; refine Sh.pl ?_; refine blk_far ?_ NB1029_1037.out _; refine Sh.pl ?_; exact BK1029.out) hb); replace BK1037 := am_ (blk_below (g := gb1037) (o := .cells #[.slice Ao36 t1030.length co36, .slice Ao41 t1033.length co41] 37 (0, 0)) (by refine Sh.pl ?_; refine blk_put (cs := #[.slice Ao36 t1030.length co36, .slice none 0 0]) ?_ 1 _ rfl; refine Sh.pl ?_; refine blk_put (cs := #[.slice none 0 0, .slice none 0 0]) ?_ 0 _ rfl; refine Sh.pl ?_; exact BK1037.out) hb); replace HB := Sh.hb hb; (try clear hb); (try clear hb2); (try clear hk); (try clear hi)))
    go_meet
    case rel => exact ⟨_, (true), (Sh.es), H', ⟨Sh.om⟩, ⟨Sh.rl (Kd.R_mono HO1017.out (fun _ h => ⟨h.1.1.1.1.1.1, h.1.1.1.2, h.1.1.2, h.1.2, h.2⟩))⟩, ⟨Sh.rl (Kd.R_mono HO1020.out (fun _ h => ⟨h.1.1.1.1.1.1, h.1.1.1.2, h.1.1.2, h.1.2, h.2⟩))⟩, ⟨Sh.rl (Kd.R_mono HO1025.out (fun _ h => ⟨h.1.1.1.2, h.1.1.2, h.1.1.1.1.1.1, h.1.2, h.2⟩))⟩, ⟨Sh.rl (Kd.R_mono HO1028.out (fun _ h => ⟨h.1.1.1.2, h.1.1.2, h.1.1.1.1.1.1, h.1.2, h.2⟩))⟩, ⟨Sh.rl (Kd.R_mono HO1032.out (fun _ h => ⟨h.1.1.1.2, h.1.1.2, h.1.2, h.2, h.1.1.1.1.1.1⟩))⟩, ⟨Sh.rl (Kd.R_mono HO1035.out (fun _ h => ⟨h.1.1.1.2, h.1.1.2, h.1.2, h.2, h.1.1.1.1.1.1⟩))⟩, ⟨by refine Sh.pl ?_; exact BK1007.out⟩, ⟨by refine Sh.pl ?_; exact BK1022.out⟩, ⟨by refine Sh.pl ?_; exact BK1029.out⟩, ⟨by refine Sh.pl ?_; exact BK1037.out⟩, ⟨Sh.bw⟩⟩
  case rest =>
   clear HC12
   try clear hcz14_0
   try clear hcz14_1
   try clear hcz16_0
   try clear hcz16_1
   try clear hcz24_0
   try clear hcz24_1
   try clear hcz26_0
   try clear hcz26_1
   try clear hcz32_0
   try clear hcz32_1
   try clear hcz40_0
   try clear hcz40_1
   try clear hcz47_0
   try clear hcz47_1
   try clear hcz50_0
   try clear hcz50_1
   try clear hcz55_0
   try clear hcz55_1
   try clear hcz58_0
   try clear hcz58_1
   try clear hcz6_0
   try clear hcz6_1
   try clear hfz14_0
   try clear hfz14_1
   try clear hfz16_0
   try clear hfz16_1
   try clear hfz24_0
   try clear hfz24_1
   try clear hfz26_0
   try clear hfz26_1
   try clear hfz32_0
   try clear hfz32_1
   try clear hfz40_0
   try clear hfz40_1
   try clear hfz47_0
   try clear hfz47_1
   try clear hfz50_0
   try clear hfz50_1
   try clear hfz55_0
   try clear hfz55_1
   try clear hfz58_0
   try clear hfz58_1
   try clear hfz6_0
   try clear hfz6_1
   obtain ⟨kq, x44_11, rfl, HA, HJ11, HO_1023000, HO_1023001, HO_1030000, HO_1030001, HO_1038000, HO_1038001, BK1007, BK1022, BK1029, BK1037, HB⟩ := hcut
   cases kq with
   | zero => exact absurd HA.out (by simp [laws_FnExactStutterAt.j0])
   | succ kj11 =>
    have H := HA.out
    clear HA
    simp only [laws_FnExactStutterAt.j0] at H
    by_cases c60 : x44_11 = true
    ·subst c60
     rw [if_pos rfl] at H
     obtain rfl := Option.some.inj H
     go_wp2
     go_ret
     exact ⟨Sh.eR, Sh.bw⟩
    ·replace c60 := Bool.eq_false_iff.mpr c60
     subst c60
     rw [Sh.nf] at H
     obtain ⟨⟨t1039, t1042⟩, A610, H⟩ := Sh.bd H
     have A61 := am_ A610
     clear A610
     obtain ⟨t1045, A62, H⟩ := Sh.ba H
     by_cases c63 : t1045 = true
     ·subst c63
      rw [if_pos rfl] at H
      obtain ⟨⟨t1046, t1047, t1048⟩, A640, H⟩ := Sh.bd H
      have A64 := am_ A640
      clear A640
      have HC65 := am_ H
      clear H
      try go_wp2
      replace HO_1023000 := am_ (Kd.R_drew HO_1023000.out)
      replace HO_1023001 := am_ (Kd.R_drew HO_1023001.out)
      replace HO_1030000 := am_ (Kd.R_drew HO_1030000.out)
      replace HO_1030001 := am_ (Kd.R_drew HO_1030001.out)
      replace HO_1038000 := am_ (Kd.R_drew HO_1038000.out)
      replace HO_1038001 := am_ (Kd.R_drew HO_1038001.out)
      replace BK1007 := am_ (blk_drew BK1007.out)
      replace BK1022 := am_ (blk_drew BK1022.out)
      replace BK1029 := am_ (blk_drew BK1029.out)
      replace BK1037 := am_ (blk_drew BK1037.out)
      replace HB := am_ (below_drew1 HB.out)
      refine start_ (n := 5) (S := fun w' => w'.cell? ⟨gb1029, 0, none⟩ = some (.slice Ao29 t1023.length co29) ∧ w'.cell? ⟨gb1029, 1, none⟩ = some (.slice Ao33 t1026.length co33) ∧ w'.cell? ⟨gb1007, 0, none⟩ = some (.slice A0_0 l0_0.length c0_0) ∧ w'.cell? ⟨gb1007, 1, none⟩ = some (.slice A0_1 l0_1.length c0_1)) (ds := []) (Sh.nm 5 0) (by kernel_rfl) rfl rfl Sh.cs (fun hHeld => ?_)
      generalize wc.drew = w66 at HO_1023000 HO_1023001 HO_1030000 HO_1030001 HO_1038000 HO_1038001 BK1007 BK1022 BK1029 BK1037 HB hHeld ⊢
      refine Sh.tA 0 45 (Sh.nm 5 1) (by kernel_rfl) hHeld ?_ (hy := by rintro w' ⟨s0, s1, s2, s3⟩; go_simp; with_reducible rfl)
      refine Sh.tA 1 46 (Sh.nm 5 3) (by kernel_rfl) hHeld ?_ (hy := by rintro w' ⟨s0, s1, s2, s3⟩; go_simp; with_reducible rfl)
      refine one_ (i := 2) (N := some 47) (Sh.nm 5 7) rfl rfl (by kernel_rfl) (by decide) (fun K hK => ?_)
      refine goes_ Try.func21 (by kernel_rfl) rfl #[.agg #[.slice A0_0 l0_0.length c0_0, .slice A0_1 l0_1.length c0_1]] (by rfl) rfl rfl (by (try simp only [List.map_toArray, List.map_cons, List.map_nil]); first | done | rfl | (simp only [List.length_drop, List.length_take]; rfl)) ?_
      with_reducible refine (laws_toLasso.calls kj11 _ _ l0_0 _ _ l0_1 t1039 t1042 _ (Sh.cB HR0_0.out) HC0_0.out (Sh.cB HR0_1.out) HC0_1.out A61.out).mono ?_
      rintro e w67 ⟨v1040, v1043, rfl, ho0, ho1, hb⟩
      refine ⟨_, rfl, ?_⟩
      have HO1041 := am_ (Kd.R_lower (Kd.R_new' (Kd.R_new' (Kd.R_new' (Kd.R_new' (Kd.R_new' (Kd.R_new' ho0 (Kd.R_lt (Sh.rl HO_1023000.out))) (Kd.R_lt (Sh.rl HO_1023001.out))) (Kd.R_lt (Sh.rl HO_1030000.out))) (Kd.R_lt (Sh.rl HO_1030001.out))) (Kd.R_lt (Sh.rl HO_1038000.out))) (Kd.R_lt (Sh.rl HO_1038001.out))) (below_size Sh.bw))
      have HO1044 := am_ (Kd.R_lower (Kd.R_new' (Kd.R_new' (Kd.R_new' (Kd.R_new' (Kd.R_new' (Kd.R_new' ho1 (Kd.R_lt (Sh.rl HO_1023000.out))) (Kd.R_lt (Sh.rl HO_1023001.out))) (Kd.R_lt (Sh.rl HO_1030000.out))) (Kd.R_lt (Sh.rl HO_1030001.out))) (Kd.R_lt (Sh.rl HO_1038000.out))) (Kd.R_lt (Sh.rl HO_1038001.out))) (below_size Sh.bw))
      replace HO_1023000 := am_ (Kd.R_mono (Kd.R_told (Kd.R_told (Kd.R_old (Sh.rl HO_1023000.out) hb) (Kd.R_base ho0)) (Kd.R_base ho1)) (fun _ h_ => h_.1))
      replace HO_1023001 := am_ (Kd.R_mono (Kd.R_told (Kd.R_told (Kd.R_old (Sh.rl HO_1023001.out) hb) (Kd.R_base ho0)) (Kd.R_base ho1)) (fun _ h_ => h_.1))
      replace HO_1030000 := am_ (Kd.R_mono (Kd.R_told (Kd.R_told (Kd.R_old (Sh.rl HO_1030000.out) hb) (Kd.R_base ho0)) (Kd.R_base ho1)) (fun _ h_ => h_.1))
      replace HO_1030001 := am_ (Kd.R_mono (Kd.R_told (Kd.R_told (Kd.R_old (Sh.rl HO_1030001.out) hb) (Kd.R_base ho0)) (Kd.R_base ho1)) (fun _ h_ => h_.1))
      replace HO_1038000 := am_ (Kd.R_mono (Kd.R_told (Kd.R_told (Kd.R_old (Sh.rl HO_1038000.out) hb) (Kd.R_base ho0)) (Kd.R_base ho1)) (fun _ h_ => h_.1))
      replace HO_1038001 := am_ (Kd.R_mono (Kd.R_told (Kd.R_told (Kd.R_old (Sh.rl HO_1038001.out) hb) (Kd.R_base ho0)) (Kd.R_base ho1)) (fun _ h_ => h_.1))
      replace BK1007 := Sh.ab BK1007 hb
      replace BK1022 := Sh.ab BK1022 hb
      replace BK1029 := Sh.ab BK1029 hb
      replace BK1037 := Sh.ab BK1037 hb
      replace HB := Sh.hb hb
      (try clear hb)
      (try clear hb2)
      (try clear hk)
      (try clear hi)
      (try clear ho0)
      (try clear ho1)
      obtain ⟨Ao68, co68, eo68⟩ := Kd.R_slice HO1041.out
      (first | subst eo68 | (injection eo68 with f1_ f2_ f3_; have f4_ := f1_.symm; have f5_ := f3_.symm; clear f1_ f2_ f3_; subst f4_; subst f5_))
      obtain ⟨Ao69, co69, eo69⟩ := Kd.R_slice HO1044.out
      (first | subst eo69 | (injection eo69 with f1_ f2_ f3_; have f4_ := f1_.symm; have f5_ := f3_.symm; clear f1_ f2_ f3_; subst f4_; subst f5_))
      refine Sh.kN hK Sh.cs fun hHeld => ?_
      clear hK K
      refine one_ (i := 3) (N := some 48) (Sh.nm 5 15) rfl rfl (by kernel_rfl) (by decide) (fun K hK => ?_)
      refine goes_ Try.func23 (by kernel_rfl) rfl #[.agg #[.slice Ao29 t1023.length co29, .slice Ao33 t1026.length co33], .agg #[.slice Ao68 t1039.length co68, .slice Ao69 t1042.length co69]] (by rfl) rfl rfl (by (try simp only [List.map_toArray, List.map_cons, List.map_nil]); first | done | rfl | (simp only [List.length_drop, List.length_take]; rfl)) ?_
      with_reducible refine (laws_eqLasso.calls kj11 _ _ t1023 _ _ t1026 _ _ t1039 _ _ t1042 true _ (Sh.cR (Kd.R_reads' HO_1030000.out).2.2) (Kd.R_reads' HO_1030000.out).2.1 (Sh.cR (Kd.R_reads' HO_1030001.out).2.2) (Kd.R_reads' HO_1030001.out).2.1 (Sh.cR (Kd.R_reads' HO1041.out).2.2) (Kd.R_reads' HO1041.out).2.1 (Sh.cR (Kd.R_reads' HO1044.out).2.2) (Kd.R_reads' HO1044.out).2.1 A62.out).mono ?_
      rintro e w70 ⟨rfl, hb⟩
      refine ⟨_, rfl, ?_⟩
      replace HO_1023000 := am_ (Kd.R_below (Sh.rl HO_1023000.out) hb)
      replace HO_1023001 := am_ (Kd.R_below (Sh.rl HO_1023001.out) hb)
      replace HO_1030000 := am_ (Kd.R_below (Sh.rl HO_1030000.out) hb)
      replace HO_1030001 := am_ (Kd.R_below (Sh.rl HO_1030001.out) hb)
      replace HO_1038000 := am_ (Kd.R_below (Sh.rl HO_1038000.out) hb)
      replace HO_1038001 := am_ (Kd.R_below (Sh.rl HO_1038001.out) hb)
      replace HO1041 := am_ (Kd.R_below (Sh.rl HO1041.out) hb)
      replace HO1044 := am_ (Kd.R_below (Sh.rl HO1044.out) hb)
      replace BK1007 := Sh.ab BK1007 hb
      replace BK1022 := Sh.ab BK1022 hb
      replace BK1029 := Sh.ab BK1029 hb
      replace BK1037 := Sh.ab BK1037 hb
      replace HB := Sh.hb hb
      (try clear hb)
      (try clear hb2)
      (try clear hk)
      (try clear hi)
      refine Sh.kN hK Sh.cs fun hHeld => ?_
      clear hK K
      refine Sh.pA 4 49 (Sh.nm 5 31) (by kernel_rfl) ?_
      refine done_ (by kernel_rfl) ?_
      have hnb71 := NB1029_1007.out
      have hnc71 := NB1007_1029.out
      have hnb72 := NB1029_1022.out
      have hnc72 := NB1022_1029.out
      have hnb73 := NB1029_1037.out
      have hnc73 := NB1037_1029.out
      have hcz74_0 := Sh.bc BK1029.out 0
      have hcz74_1 := Sh.bc BK1029.out 1
      have hfz74_0 := blk_frozen BK1029.out 0
      have hfz74_1 := blk_frozen BK1029.out 1
      go_upto_region 14 with (first | ((with_reducible refine Sh.k 24 ?_); refine Sh.gL (some 52) Try.func24 #[.agg #[.slice Ao29 t1023.length co29, .slice Ao33 t1026.length co33], .int .i64 1] (h := ?_); (with_reducible refine (laws_markLasso.calls kj11 (fun k_ => some k_ = (.slice Ao29 t1023.length co29 : Value).ownBlock) (.slice Ao29 t1023.length co29) t1023 (fun k_ => some k_ = (.slice Ao33 t1026.length co33 : Value).ownBlock) (.slice Ao33 t1026.length co33) t1026 1 t1046 t1047 t1048 w _ ?side1 ?side2 ?side3 ?side4 ?side5 A64.out).mono ?_); (case side1 => repeat (first | (with_reducible first | exact HB.out | apply below_alloc | apply pw_below_drewN | apply below_drew1 | refine below_set ?_ GE1007.out | refine below_set ?_ GE1022.out | refine below_set ?_ GE1029.out | refine below_set ?_ GE1037.out) | exact HB.out)); (case side2 => exact Kd.R_tight rfl HO_1030000.out); (case side3 => exact fun k_ e_ => (HO_1030000.out.1 k_ e_.symm).1.1.2.2.1); (case side4 => exact Kd.R_tight rfl HO_1030001.out); (case side5 => exact fun k_ e_ => (HO_1030001.out.1 k_ e_.symm).1.1.2.2.1); rintro e w75 ⟨rfl, hy0, hy1, hb, hkp⟩; refine ⟨_, rfl, ?_⟩; replace HO_1023000 := am_ (Kd.R_mono (ok' := fun k_ => some k_ ≠ (.slice Ao25 t1018.length co25 : Value).ownBlock ∧ some k_ ≠ (.slice Ao29 t1023.length co29 : Value).ownBlock ∧ some k_ ≠ (.slice Ao33 t1026.length co33 : Value).ownBlock ∧ some k_ ≠ (.slice Ao36 t1030.length co36 : Value).ownBlock ∧ some k_ ≠ (.slice Ao41 t1033.length co41 : Value).ownBlock ∧ some k_ ≠ (.slice Ao68 t1039.length co68 : Value).ownBlock ∧ some k_ ≠ (.slice Ao69 t1042.length co69 : Value).ownBlock) (Kd.R_keptB (HO_1023000.out) hkp (fun k_ hk_ hs_ => Or.elim hs_ (fun e_ => (hk_.1.1.2.1) e_) (fun e_ => (hk_.1.1.2.2.1) e_))) (fun k_ h => ⟨h.1.1.1.1, h.1.1.1.2.1, h.1.1.1.2.2.1, h.1.1.1.2.2.2.1, h.1.1.1.2.2.2.2, h.1.1.2, h.1.2⟩)); replace HO_1023001 := am_ (Kd.R_mono (ok' := fun k_ => some k_ ≠ (.slice Ao22 t1015.length co22 : Value).ownBlock ∧ some k_ ≠ (.slice Ao29 t1023.length co29 : Value).ownBlock ∧ some k_ ≠ (.slice Ao33 t1026.length co33 : Value).ownBlock ∧ some k_ ≠ (.slice Ao36 t1030.length co36 : Value).ownBlock ∧ some k_ ≠ (.slice Ao41 t1033.length co41 : Value).ownBlock ∧ some k_ ≠ (.slice Ao68 t1039.length co68 : Value).ownBlock ∧ some k_ ≠ (.slice Ao69 t1042.length co69 : Value).ownBlock) (Kd.R_keptB (HO_1023001.out) hkp (fun k_ hk_ hs_ => Or.elim hs_ (fun e_ => (hk_.1.1.2.1) e_) (fun e_ => (hk_.1.1.2.2.1) e_))) (fun k_ h => ⟨h.1.1.1.1, h.1.1.1.2.1, h.1.1.1.2.2.1, h.1.1.1.2.2.2.1, h.1.1.1.2.2.2.2, h.1.1.2, h.1.2⟩)); replace HO_1038000 := am_ (Kd.R_mono (ok' := fun k_ => some k_ ≠ (.slice Ao22 t1015.length co22 : Value).ownBlock ∧ some k_ ≠ (.slice Ao25 t1018.length co25 : Value).ownBlock ∧ some k_ ≠ (.slice Ao29 t1023.length co29 : Value).ownBlock ∧ some k_ ≠ (.slice Ao33 t1026.length co33 : Value).ownBlock ∧ some k_ ≠ (.slice Ao41 t1033.length co41 : Value).ownBlock ∧ some k_ ≠ (.slice Ao68 t1039.length co68 : Value).ownBlock ∧ some k_ ≠ (.slice Ao69 t1042.length co69 : Value).ownBlock) (Kd.R_keptB (HO_1038000.out) hkp (fun k_ hk_ hs_ => Or.elim hs_ (fun e_ => (hk_.1.1.2.2.1) e_) (fun e_ => (hk_.1.1.2.2.2.1) e_))) (fun k_ h => ⟨h.1.1.1.1, h.1.1.1.2.1, h.1.1.1.2.2.1, h.1.1.1.2.2.2.1, h.1.1.1.2.2.2.2, h.1.1.2, h.1.2⟩)); replace HO_1038001 := am_ (Kd.R_mono (ok' := fun k_ => some k_ ≠ (.slice Ao22 t1015.length co22 : Value).ownBlock ∧ some k_ ≠ (.slice Ao25 t1018.length co25 : Value).ownBlock ∧ some k_ ≠ (.slice Ao29 t1023.length co29 : Value).ownBlock ∧ some k_ ≠ (.slice Ao33 t1026.length co33 : Value).ownBlock ∧ some k_ ≠ (.slice Ao36 t1030.length co36 : Value).ownBlock ∧ some k_ ≠ (.slice Ao68 t1039.length co68 : Value).ownBlock ∧ some k_ ≠ (.slice Ao69 t1042.length co69 : Value).ownBlock) (Kd.R_keptB (HO_1038001.out) hkp (fun k_ hk_ hs_ => Or.elim hs_ (fun e_ => (hk_.1.1.2.2.1) e_) (fun e_ => (hk_.1.1.2.2.2.1) e_))) (fun k_ h => ⟨h.1.1.1.1, h.1.1.1.2.1, h.1.1.1.2.2.1, h.1.1.1.2.2.2.1, h.1.1.1.2.2.2.2, h.1.1.2, h.1.2⟩)); replace BK1007 := am_ (blk_kept (Sh.pl BK1007.out) hkp (fun hs_ => Or.elim hs_ (fun e_ => (fun e_ => (Kd.R_ne HO_1030000.out BK1007.out (by decide)) e_) e_) (fun e_ => (fun e_ => (Kd.R_ne HO_1030001.out BK1007.out (by decide)) e_) e_))); replace BK1022 := am_ (blk_kept (Sh.pl BK1022.out) hkp (fun hs_ => Or.elim hs_ (fun e_ => (fun e_ => (Kd.R_ne HO_1030000.out BK1022.out (by decide)) e_) e_) (fun e_ => (fun e_ => (Kd.R_ne HO_1030001.out BK1022.out (by decide)) e_) e_))); replace BK1029 := am_ (blk_kept (Sh.pl BK1029.out) hkp (fun hs_ => Or.elim hs_ (fun e_ => (fun e_ => (Kd.R_ne HO_1030000.out BK1029.out (by decide)) e_) e_) (fun e_ => (fun e_ => (Kd.R_ne HO_1030001.out BK1029.out (by decide)) e_) e_))); replace BK1037 := am_ (blk_kept (Sh.pl BK1037.out) hkp (fun hs_ => Or.elim hs_ (fun e_ => (fun e_ => (Kd.R_ne HO_1030000.out BK1037.out (by decide)) e_) e_) (fun e_ => (fun e_ => (Kd.R_ne HO_1030001.out BK1037.out (by decide)) e_) e_))); replace HO_1030000 := am_ (Kd.R_reok rfl hy0 (fun k_ e_ => HO_1030000.out.1 k_ e_)); replace HO_1030001 := am_ (Kd.R_reok rfl hy1 (fun k_ e_ => HO_1030001.out.1 k_ e_)); replace HO1041 := am_ (Kd.R_mono (ok' := fun k_ => some k_ ≠ (.slice Ao22 t1015.length co22 : Value).ownBlock ∧ some k_ ≠ (.slice Ao25 t1018.length co25 : Value).ownBlock ∧ some k_ ≠ (.slice Ao29 t1023.length co29 : Value).ownBlock ∧ some k_ ≠ (.slice Ao33 t1026.length co33 : Value).ownBlock ∧ some k_ ≠ (.slice Ao36 t1030.length co36 : Value).ownBlock ∧ some k_ ≠ (.slice Ao41 t1033.length co41 : Value).ownBlock ∧ some k_ ≠ (.slice Ao69 t1042.length co69 : Value).ownBlock) (Kd.R_keptB (HO1041.out) hkp (fun k_ hk_ hs_ => Or.elim hs_ (fun e_ => (hk_.1.1.1.2) e_) (fun e_ => (hk_.1.1.2) e_))) (fun k_ h => ⟨h.1.1.1.1.1.1.2, h.1.1.1.1.1.2, h.1.1.1.1.2, h.1.1.1.2, h.1.1.2, h.1.2, h.1.1.1.1.1.1.1⟩)); replace HO1044 := am_ (Kd.R_mono (ok' := fun k_ => some k_ ≠ (.slice Ao22 t1015.length co22 : Value).ownBlock ∧ some k_ ≠ (.slice Ao25 t1018.length co25 : Value).ownBlock ∧ some k_ ≠ (.slice Ao29 t1023.length co29 : Value).ownBlock ∧ some k_ ≠ (.slice Ao33 t1026.length co33 : Value).ownBlock ∧ some k_ ≠ (.slice Ao36 t1030.length co36 : Value).ownBlock ∧ some k_ ≠ (.slice Ao41 t1033.length co41 : Value).ownBlock ∧ some k_ ≠ (.slice Ao68 t1039.length co68 : Value).ownBlock) (Kd.R_keptB (HO1044.out) hkp (fun k_ hk_ hs_ => Or.elim hs_ (fun e_ => (hk_.1.1.1.2) e_) (fun e_ => (hk_.1.1.2) e_))) (fun k_ h => ⟨h.1.1.1.1.1.1.2, h.1.1.1.1.1.2, h.1.1.1.1.2, h.1.1.1.2, h.1.1.2, h.1.2, h.1.1.1.1.1.1.1⟩)); replace HB := am_ hb; (try clear hb); (try clear hkp); (try clear hy0); (try clear hy1)))
      (try simp only [Act.put, List.setIfInBounds_toArray, List.set_cons_zero, List.set_cons_succ])
      go_cut [65] (fun v65 wc => ∃ (kq : Nat) (x65_64 : Bool), v65 = .bool x65_64 ∧ Aside0 (laws_FnExactStutterAt.j1 kq a1 t1021 x65_64 l0_0 l0_1 t1015 t1018 t1030 t1033 = some r) ∧ Aside0 (kq ≤ kj11) ∧ Aside0 (Kd.R (Kd.int .i64) 3 wc w.heap.size (fun k_ => some k_ ≠ ((.slice Ao25 t1018.length co25) : Value).ownBlock ∧ some k_ ≠ ((.slice Ao29 t1023.length co29) : Value).ownBlock ∧ some k_ ≠ ((.slice Ao33 t1026.length co33) : Value).ownBlock ∧ some k_ ≠ ((.slice Ao36 t1030.length co36) : Value).ownBlock ∧ some k_ ≠ ((.slice Ao41 t1033.length co41) : Value).ownBlock) (.slice Ao22 t1015.length co22) t1015) ∧ Aside0 (Kd.R (Kd.int .i64) 3 wc w.heap.size (fun k_ => some k_ ≠ ((.slice Ao22 t1015.length co22) : Value).ownBlock ∧ some k_ ≠ ((.slice Ao29 t1023.length co29) : Value).ownBlock ∧ some k_ ≠ ((.slice Ao33 t1026.length co33) : Value).ownBlock ∧ some k_ ≠ ((.slice Ao36 t1030.length co36) : Value).ownBlock ∧ some k_ ≠ ((.slice Ao41 t1033.length co41) : Value).ownBlock) (.slice Ao25 t1018.length co25) t1018) ∧ Aside0 (Kd.R (Kd.int .i64) 3 wc w.heap.size (fun k_ => some k_ ≠ ((.slice Ao22 t1015.length co22) : Value).ownBlock ∧ some k_ ≠ ((.slice Ao25 t1018.length co25) : Value).ownBlock ∧ some k_ ≠ ((.slice Ao33 t1026.length co33) : Value).ownBlock ∧ some k_ ≠ ((.slice Ao36 t1030.length co36) : Value).ownBlock ∧ some k_ ≠ ((.slice Ao41 t1033.length co41) : Value).ownBlock) (.slice Ao29 t1023.length co29) t1047) ∧ Aside0 (Kd.R (Kd.int .i64) 3 wc w.heap.size (fun k_ => some k_ ≠ ((.slice Ao22 t1015.length co22) : Value).ownBlock ∧ some k_ ≠ ((.slice Ao25 t1018.length co25) : Value).ownBlock ∧ some k_ ≠ ((.slice Ao29 t1023.length co29) : Value).ownBlock ∧ some k_ ≠ ((.slice Ao36 t1030.length co36) : Value).ownBlock ∧ some k_ ≠ ((.slice Ao41 t1033.length co41) : Value).ownBlock) (.slice Ao33 t1026.length co33) t1048) ∧ Aside0 (Kd.R (Kd.int .i64) 3 wc w.heap.size (fun k_ => some k_ ≠ ((.slice Ao22 t1015.length co22) : Value).ownBlock ∧ some k_ ≠ ((.slice Ao25 t1018.length co25) : Value).ownBlock ∧ some k_ ≠ ((.slice Ao29 t1023.length co29) : Value).ownBlock ∧ some k_ ≠ ((.slice Ao33 t1026.length co33) : Value).ownBlock ∧ some k_ ≠ ((.slice Ao41 t1033.length co41) : Value).ownBlock) (.slice Ao36 t1030.length co36) t1030) ∧ Aside0 (Kd.R (Kd.int .i64) 3 wc w.heap.size (fun k_ => some k_ ≠ ((.slice Ao22 t1015.length co22) : Value).ownBlock ∧ some k_ ≠ ((.slice Ao25 t1018.length co25) : Value).ownBlock ∧ some k_ ≠ ((.slice Ao29 t1023.length co29) : Value).ownBlock ∧ some k_ ≠ ((.slice Ao33 t1026.length co33) : Value).ownBlock ∧ some k_ ≠ ((.slice Ao36 t1030.length co36) : Value).ownBlock) (.slice Ao41 t1033.length co41) t1033) ∧ Aside0 (wc.heap[gb1007]? = some (.cells #[(.slice A0_0 l0_0.length c0_0), (.slice A0_1 l0_1.length c0_1)] 35 (0, 0))) ∧ Aside0 (wc.heap[gb1022]? = some (.cells #[(.slice Ao22 t1015.length co22), (.slice Ao25 t1018.length co25)] 37 (0, 0))) ∧ Aside0 (wc.heap[gb1029]? = some (.cells #[(.slice Ao29 t1023.length co29), (.slice Ao33 t1026.length co33)] 37 (0, 0))) ∧ Aside0 (wc.heap[gb1037]? = some (.cells #[(.slice Ao36 t1030.length co36), (.slice Ao41 t1033.length co41)] 37 (0, 0))) ∧ Aside0 (Below w.heap.size w wc))
      case first =>
       have H := HC65.out
       clear HC65
       by_cases c76 : t1046 < 0
       ·rw [if_pos c76] at H
        have c76b0 := decide_eq_true c76
        clear c76
        first | rw [c76b0] | (simp only [i64_w, i32_w]; rw [c76b0]) | skip
        have H' := am_ H
        clear H
        go_wp2
        go_meet
        case rel => exact ⟨_, (true), (Sh.es), H', ⟨by have := HJ11.out; first | omega | exact Nat.le_refl _⟩, ⟨Sh.rl (Kd.R_mono HO_1023000.out (fun _ h => ⟨h.1, h.2.1, h.2.2.1, h.2.2.2.1, h.2.2.2.2.1⟩))⟩, ⟨Sh.rl (Kd.R_mono HO_1023001.out (fun _ h => ⟨h.1, h.2.1, h.2.2.1, h.2.2.2.1, h.2.2.2.2.1⟩))⟩, ⟨Sh.rl (Kd.R_mono HO_1030000.out (fun _ h => ⟨h.1.1.1, h.1.1.2.1, h.1.1.2.2.1, h.1.1.2.2.2.1, h.1.1.2.2.2.2⟩))⟩, ⟨Sh.rl (Kd.R_mono HO_1030001.out (fun _ h => ⟨h.1.1.1, h.1.1.2.1, h.1.1.2.2.1, h.1.1.2.2.2.1, h.1.1.2.2.2.2⟩))⟩, ⟨Sh.rl (Kd.R_mono HO_1038000.out (fun _ h => ⟨h.1, h.2.1, h.2.2.1, h.2.2.2.1, h.2.2.2.2.1⟩))⟩, ⟨Sh.rl (Kd.R_mono HO_1038001.out (fun _ h => ⟨h.1, h.2.1, h.2.2.1, h.2.2.2.1, h.2.2.2.2.1⟩))⟩, ⟨by refine Sh.pl ?_; exact BK1007.out⟩, ⟨by refine Sh.pl ?_; exact BK1022.out⟩, ⟨by refine Sh.pl ?_; exact BK1029.out⟩, ⟨by refine Sh.pl ?_; exact BK1037.out⟩, ⟨Sh.bw⟩⟩
       ·rw [if_neg c76] at H
        have c76b0 := decide_eq_false c76
        clear c76
        first | rw [c76b0] | (simp only [i64_w, i32_w]; rw [c76b0]) | skip
        obtain ⟨t1049, A77, H⟩ := Sh.ba H
        by_cases c78 : t1049 = true
        ·subst c78
         rw [if_pos rfl] at H
         have H' := am_ H
         clear H
         have hnb79 := NB1037_1007.out
         have hnc79 := NB1007_1037.out
         have hnb80 := NB1037_1022.out
         have hnc80 := NB1022_1037.out
         have hnb81 := NB1037_1029.out
         have hnc81 := NB1029_1037.out
         have hcz82_0 := Sh.bc BK1037.out 0
         have hcz82_1 := Sh.bc BK1037.out 1
         have hfz82_0 := blk_frozen BK1037.out 0
         have hfz82_1 := blk_frozen BK1037.out 1
         have hnb83 := NB1022_1007.out
         have hnc83 := NB1007_1022.out
         have hnb84 := NB1022_1029.out
         have hnc84 := NB1029_1022.out
         have hcz85_0 := Sh.bc BK1022.out 0
         have hcz85_1 := Sh.bc BK1022.out 1
         have hfz85_0 := blk_frozen BK1022.out 0
         have hfz85_1 := blk_frozen BK1022.out 1
         go_wp2_with (first | (go_at_call 23; (with_reducible refine (laws_eqLasso.calls kj11 _ _ t1030 _ _ t1033 _ _ t1015 _ _ t1018 true _ (Sh.cR (Kd.R_reads' HO_1038000.out).2.2) (Kd.R_reads' HO_1038000.out).2.1 (Sh.cR (Kd.R_reads' HO_1038001.out).2.2) (Kd.R_reads' HO_1038001.out).2.1 (Sh.cR (Kd.R_reads' HO_1023000.out).2.2) (Kd.R_reads' HO_1023000.out).2.1 (Sh.cR (Kd.R_reads' HO_1023001.out).2.2) (Kd.R_reads' HO_1023001.out).2.1 A77.out).mono ?_); rintro e w86 ⟨rfl, hb⟩; replace HO_1023000 := am_ (Kd.R_below (Sh.rl HO_1023000.out) hb); replace HO_1023001 := am_ (Kd.R_below (Sh.rl HO_1023001.out) hb); replace HO_1030000 := am_ (Kd.R_below (Sh.rl HO_1030000.out) hb); replace HO_1030001 := am_ (Kd.R_below (Sh.rl HO_1030001.out) hb); replace HO_1038000 := am_ (Kd.R_below (Sh.rl HO_1038000.out) hb); replace HO_1038001 := am_ (Kd.R_below (Sh.rl HO_1038001.out) hb); replace HO1041 := am_ (Kd.R_below (Sh.rl HO1041.out) hb); replace HO1044 := am_ (Kd.R_below (Sh.rl HO1044.out) hb); replace BK1007 := Sh.ab BK1007 hb; replace BK1022 := Sh.ab BK1022 hb; replace BK1029 := Sh.ab BK1029 hb; replace BK1037 := Sh.ab BK1037 hb; replace HB := Sh.hb hb; (try clear hb); (try clear hb2); (try clear hk); (try clear hi)))
         go_meet
         case rel => exact ⟨_, ((t1036 != t1021)), (Sh.es), H', ⟨by have := HJ11.out; first | omega | exact Nat.le_refl _⟩, ⟨Sh.rl (Kd.R_mono HO_1023000.out (fun _ h => ⟨h.1, h.2.1, h.2.2.1, h.2.2.2.1, h.2.2.2.2.1⟩))⟩, ⟨Sh.rl (Kd.R_mono HO_1023001.out (fun _ h => ⟨h.1, h.2.1, h.2.2.1, h.2.2.2.1, h.2.2.2.2.1⟩))⟩, ⟨Sh.rl (Kd.R_mono HO_1030000.out (fun _ h => ⟨h.1.1.1, h.1.1.2.1, h.1.1.2.2.1, h.1.1.2.2.2.1, h.1.1.2.2.2.2⟩))⟩, ⟨Sh.rl (Kd.R_mono HO_1030001.out (fun _ h => ⟨h.1.1.1, h.1.1.2.1, h.1.1.2.2.1, h.1.1.2.2.2.1, h.1.1.2.2.2.2⟩))⟩, ⟨Sh.rl (Kd.R_mono HO_1038000.out (fun _ h => ⟨h.1, h.2.1, h.2.2.1, h.2.2.2.1, h.2.2.2.2.1⟩))⟩, ⟨Sh.rl (Kd.R_mono HO_1038001.out (fun _ h => ⟨h.1, h.2.1, h.2.2.1, h.2.2.2.1, h.2.2.2.2.1⟩))⟩, ⟨by refine Sh.pl ?_; exact BK1007.out⟩, ⟨by refine Sh.pl ?_; exact BK1022.out⟩, ⟨by refine Sh.pl ?_; exact BK1029.out⟩, ⟨by refine Sh.pl ?_; exact BK1037.out⟩, ⟨Sh.bw⟩⟩
        ·replace c78 := Bool.eq_false_iff.mpr c78
         subst c78
         rw [Sh.nf] at H
         have H' := am_ H
         clear H
         have hnb87 := NB1037_1007.out
         have hnc87 := NB1007_1037.out
         have hnb88 := NB1037_1022.out
         have hnc88 := NB1022_1037.out
         have hnb89 := NB1037_1029.out
         have hnc89 := NB1029_1037.out
         have hcz90_0 := Sh.bc BK1037.out 0
         have hcz90_1 := Sh.bc BK1037.out 1
         have hfz90_0 := blk_frozen BK1037.out 0
         have hfz90_1 := blk_frozen BK1037.out 1
         have hnb91 := NB1022_1007.out
         have hnc91 := NB1007_1022.out
         have hnb92 := NB1022_1029.out
         have hnc92 := NB1029_1022.out
         have hcz93_0 := Sh.bc BK1022.out 0
         have hcz93_1 := Sh.bc BK1022.out 1
         have hfz93_0 := blk_frozen BK1022.out 0
         have hfz93_1 := blk_frozen BK1022.out 1
         go_wp2_with (first | (go_at_call 23; (with_reducible refine (laws_eqLasso.calls kj11 _ _ t1030 _ _ t1033 _ _ t1015 _ _ t1018 false _ (Sh.cR (Kd.R_reads' HO_1038000.out).2.2) (Kd.R_reads' HO_1038000.out).2.1 (Sh.cR (Kd.R_reads' HO_1038001.out).2.2) (Kd.R_reads' HO_1038001.out).2.1 (Sh.cR (Kd.R_reads' HO_1023000.out).2.2) (Kd.R_reads' HO_1023000.out).2.1 (Sh.cR (Kd.R_reads' HO_1023001.out).2.2) (Kd.R_reads' HO_1023001.out).2.1 A77.out).mono ?_); rintro e w94 ⟨rfl, hb⟩; replace HO_1023000 := am_ (Kd.R_below (Sh.rl HO_1023000.out) hb); replace HO_1023001 := am_ (Kd.R_below (Sh.rl HO_1023001.out) hb); replace HO_1030000 := am_ (Kd.R_below (Sh.rl HO_1030000.out) hb); replace HO_1030001 := am_ (Kd.R_below (Sh.rl HO_1030001.out) hb); replace HO_1038000 := am_ (Kd.R_below (Sh.rl HO_1038000.out) hb); replace HO_1038001 := am_ (Kd.R_below (Sh.rl HO_1038001.out) hb); replace HO1041 := am_ (Kd.R_below (Sh.rl HO1041.out) hb); replace HO1044 := am_ (Kd.R_below (Sh.rl HO1044.out) hb); replace BK1007 := Sh.ab BK1007 hb; replace BK1022 := Sh.ab BK1022 hb; replace BK1029 := Sh.ab BK1029 hb; replace BK1037 := Sh.ab BK1037 hb; replace HB := Sh.hb hb; (try clear hb); (try clear hb2); (try clear hk); (try clear hi)))
         go_meet
         case rel => exact ⟨_, (true), (Sh.es), H', ⟨by have := HJ11.out; first | omega | exact Nat.le_refl _⟩, ⟨Sh.rl (Kd.R_mono HO_1023000.out (fun _ h => ⟨h.1, h.2.1, h.2.2.1, h.2.2.2.1, h.2.2.2.2.1⟩))⟩, ⟨Sh.rl (Kd.R_mono HO_1023001.out (fun _ h => ⟨h.1, h.2.1, h.2.2.1, h.2.2.2.1, h.2.2.2.2.1⟩))⟩, ⟨Sh.rl (Kd.R_mono HO_1030000.out (fun _ h => ⟨h.1.1.1, h.1.1.2.1, h.1.1.2.2.1, h.1.1.2.2.2.1, h.1.1.2.2.2.2⟩))⟩, ⟨Sh.rl (Kd.R_mono HO_1030001.out (fun _ h => ⟨h.1.1.1, h.1.1.2.1, h.1.1.2.2.1, h.1.1.2.2.2.1, h.1.1.2.2.2.2⟩))⟩, ⟨Sh.rl (Kd.R_mono HO_1038000.out (fun _ h => ⟨h.1, h.2.1, h.2.2.1, h.2.2.2.1, h.2.2.2.2.1⟩))⟩, ⟨Sh.rl (Kd.R_mono HO_1038001.out (fun _ h => ⟨h.1, h.2.1, h.2.2.1, h.2.2.2.1, h.2.2.2.2.1⟩))⟩, ⟨by refine Sh.pl ?_; exact BK1007.out⟩, ⟨by refine Sh.pl ?_; exact BK1022.out⟩, ⟨by refine Sh.pl ?_; exact BK1029.out⟩, ⟨by refine Sh.pl ?_; exact BK1037.out⟩, ⟨Sh.bw⟩⟩
      case rest =>
       clear HC65
       try clear hcz14_0
       try clear hcz14_1
       try clear hcz16_0
       try clear hcz16_1
       try clear hcz24_0
       try clear hcz24_1
       try clear hcz26_0
       try clear hcz26_1
       try clear hcz32_0
       try clear hcz32_1
       try clear hcz40_0
       try clear hcz40_1
       try clear hcz47_0
       try clear hcz47_1
       try clear hcz50_0
       try clear hcz50_1
       try clear hcz55_0
       try clear hcz55_1
       try clear hcz58_0
       try clear hcz58_1
       try clear hcz6_0
       try clear hcz6_1
       try clear hcz74_0
       try clear hcz74_1
       try clear hcz82_0
       try clear hcz82_1
       try clear hcz85_0
       try clear hcz85_1
       try clear hcz90_0
       try clear hcz90_1
       try clear hcz93_0
       try clear hcz93_1
       try clear hfz14_0
       try clear hfz14_1
       try clear hfz16_0
       try clear hfz16_1
       try clear hfz24_0
       try clear hfz24_1
       try clear hfz26_0
       try clear hfz26_1
       try clear hfz32_0
       try clear hfz32_1
       try clear hfz40_0
       try clear hfz40_1
       try clear hfz47_0
       try clear hfz47_1
       try clear hfz50_0
       try clear hfz50_1
       try clear hfz55_0
       try clear hfz55_1
       try clear hfz58_0
       try clear hfz58_1
       try clear hfz6_0
       try clear hfz6_1
       try clear hfz74_0
       try clear hfz74_1
       try clear hfz82_0
       try clear hfz82_1
       try clear hfz85_0
       try clear hfz85_1
       try clear hfz90_0
       try clear hfz90_1
       try clear hfz93_0
       try clear hfz93_1
       obtain ⟨kq, x65_64, rfl, HA, HJ64, HO_1023000, HO_1023001, HO_1030000, HO_1030001, HO_1038000, HO_1038001, BK1007, BK1022, BK1029, BK1037, HB⟩ := hcut
       have hl1030000_64 := (Kd.R_reads' HO_1030000.out).1
       rw [hl1030000_64] at HO_1030000
       (try simp only [hl1030000_64])
       (try simp only [hl1030000_64] at BK1007)
       (try simp only [hl1030000_64] at BK1022)
       (try simp only [hl1030000_64] at BK1029)
       (try simp only [hl1030000_64] at BK1037)
       (try simp only [hl1030000_64] at HO_1023000)
       (try simp only [hl1030000_64] at HO_1023001)
       (try simp only [hl1030000_64] at HO_1030001)
       (try simp only [hl1030000_64] at HO_1038000)
       (try simp only [hl1030000_64] at HO_1038001)
       have hl1030001_64 := (Kd.R_reads' HO_1030001.out).1
       rw [hl1030001_64] at HO_1030001
       (try simp only [hl1030001_64])
       (try simp only [hl1030001_64] at BK1007)
       (try simp only [hl1030001_64] at BK1022)
       (try simp only [hl1030001_64] at BK1029)
       (try simp only [hl1030001_64] at BK1037)
       (try simp only [hl1030001_64] at HO_1023000)
       (try simp only [hl1030001_64] at HO_1023001)
       (try simp only [hl1030001_64] at HO_1030000)
       (try simp only [hl1030001_64] at HO_1038000)
       (try simp only [hl1030001_64] at HO_1038001)
       cases kq with
       | zero => exact absurd HA.out (by simp [laws_FnExactStutterAt.j1])
       | succ kj64 =>
        have H := HA.out
        clear HA
        simp only [laws_FnExactStutterAt.j1] at H
        by_cases c95 : x65_64 = true
        ·subst c95
         rw [if_pos rfl] at H
         obtain rfl := Option.some.inj H
         go_wp2
         go_ret
         exact ⟨Sh.eR, Sh.bw⟩
        ·replace c95 := Bool.eq_false_iff.mpr c95
         subst c95
         rw [Sh.nf] at H
         obtain ⟨⟨t1050, t1051, t1052⟩, A960, H⟩ := Sh.bd H
         have A96 := am_ A960
         clear A960
         obtain ⟨t1053, A97, H⟩ := Sh.ba H
         by_cases c98 : t1053 < 0
         ·rw [if_pos c98] at H
          have c98b0 := decide_eq_true c98
          clear c98
          obtain rfl := Option.some.inj H
          have hnb99 := NB1037_1007.out
          have hnc99 := NB1007_1037.out
          have hnb100 := NB1037_1022.out
          have hnc100 := NB1022_1037.out
          have hnb101 := NB1037_1029.out
          have hnc101 := NB1029_1037.out
          have hcz102_0 := Sh.bc BK1037.out 0
          have hcz102_1 := Sh.bc BK1037.out 1
          have hfz102_0 := blk_frozen BK1037.out 0
          have hfz102_1 := blk_frozen BK1037.out 1
          go_wp2_with (first | ((with_reducible refine Sh.k 24 ?_); refine Sh.gL (some 68) Try.func24 #[.agg #[.slice Ao36 t1030.length co36, .slice Ao41 t1033.length co41], .int .i64 1] (h := ?_); (with_reducible refine (laws_markLasso.calls kj64 (fun k_ => some k_ = (.slice Ao36 t1030.length co36 : Value).ownBlock) (.slice Ao36 t1030.length co36) t1030 (fun k_ => some k_ = (.slice Ao41 t1033.length co41 : Value).ownBlock) (.slice Ao41 t1033.length co41) t1033 1 t1050 t1051 t1052 w _ ?side1 ?side2 ?side3 ?side4 ?side5 A96.out).mono ?_); (case side1 => repeat (first | (with_reducible first | exact HB.out | apply below_alloc | apply pw_below_drewN | apply below_drew1 | refine below_set ?_ GE1007.out | refine below_set ?_ GE1022.out | refine below_set ?_ GE1029.out | refine below_set ?_ GE1037.out) | exact HB.out)); (case side2 => exact Kd.R_tight rfl HO_1038000.out); (case side3 => exact fun k_ e_ => (HO_1038000.out.1 k_ e_.symm).2.2.2.2); (case side4 => exact Kd.R_tight rfl HO_1038001.out); (case side5 => exact fun k_ e_ => (HO_1038001.out.1 k_ e_.symm).2.2.2.2); rintro e w103 ⟨rfl, hy0, hy1, hb, hkp⟩; refine ⟨_, rfl, ?_⟩; replace HO_1023000 := am_ (Kd.R_mono (ok' := fun k_ => some k_ ≠ (.slice Ao25 t1018.length co25 : Value).ownBlock ∧ some k_ ≠ (.slice Ao29 t1047.length co29 : Value).ownBlock ∧ some k_ ≠ (.slice Ao33 t1048.length co33 : Value).ownBlock ∧ some k_ ≠ (.slice Ao36 t1030.length co36 : Value).ownBlock ∧ some k_ ≠ (.slice Ao41 t1033.length co41 : Value).ownBlock) (Kd.R_keptB (HO_1023000.out) hkp (fun k_ hk_ hs_ => Or.elim hs_ (fun e_ => (hk_.2.2.2.1) e_) (fun e_ => (hk_.2.2.2.2) e_))) (fun k_ h => ⟨h.1.1, h.1.2.1, h.1.2.2.1, h.1.2.2.2.1, h.1.2.2.2.2⟩)); replace HO_1023001 := am_ (Kd.R_mono (ok' := fun k_ => some k_ ≠ (.slice Ao22 t1015.length co22 : Value).ownBlock ∧ some k_ ≠ (.slice Ao29 t1047.length co29 : Value).ownBlock ∧ some k_ ≠ (.slice Ao33 t1048.length co33 : Value).ownBlock ∧ some k_ ≠ (.slice Ao36 t1030.length co36 : Value).ownBlock ∧ some k_ ≠ (.slice Ao41 t1033.length co41 : Value).ownBlock) (Kd.R_keptB (HO_1023001.out) hkp (fun k_ hk_ hs_ => Or.elim hs_ (fun e_ => (hk_.2.2.2.1) e_) (fun e_ => (hk_.2.2.2.2) e_))) (fun k_ h => ⟨h.1.1, h.1.2.1, h.1.2.2.1, h.1.2.2.2.1, h.1.2.2.2.2⟩)); replace HO_1030000 := am_ (Kd.R_mono (ok' := fun k_ => some k_ ≠ (.slice Ao22 t1015.length co22 : Value).ownBlock ∧ some k_ ≠ (.slice Ao25 t1018.length co25 : Value).ownBlock ∧ some k_ ≠ (.slice Ao33 t1048.length co33 : Value).ownBlock ∧ some k_ ≠ (.slice Ao36 t1030.length co36 : Value).ownBlock ∧ some k_ ≠ (.slice Ao41 t1033.length co41 : Value).ownBlock) (Kd.R_keptB (HO_1030000.out) hkp (fun k_ hk_ hs_ => Or.elim hs_ (fun e_ => (hk_.2.2.2.1) e_) (fun e_ => (hk_.2.2.2.2) e_))) (fun k_ h => ⟨h.1.1, h.1.2.1, h.1.2.2.1, h.1.2.2.2.1, h.1.2.2.2.2⟩)); replace HO_1030001 := am_ (Kd.R_mono (ok' := fun k_ => some k_ ≠ (.slice Ao22 t1015.length co22 : Value).ownBlock ∧ some k_ ≠ (.slice Ao25 t1018.length co25 : Value).ownBlock ∧ some k_ ≠ (.slice Ao29 t1047.length co29 : Value).ownBlock ∧ some k_ ≠ (.slice Ao36 t1030.length co36 : Value).ownBlock ∧ some k_ ≠ (.slice Ao41 t1033.length co41 : Value).ownBlock) (Kd.R_keptB (HO_1030001.out) hkp (fun k_ hk_ hs_ => Or.elim hs_ (fun e_ => (hk_.2.2.2.1) e_) (fun e_ => (hk_.2.2.2.2) e_))) (fun k_ h => ⟨h.1.1, h.1.2.1, h.1.2.2.1, h.1.2.2.2.1, h.1.2.2.2.2⟩)); replace BK1007 := am_ (blk_kept (Sh.pl BK1007.out) hkp (fun hs_ => Or.elim hs_ (fun e_ => (fun e_ => (Kd.R_ne HO_1038000.out BK1007.out (by decide)) e_) e_) (fun e_ => (fun e_ => (Kd.R_ne HO_1038001.out BK1007.out (by decide)) e_) e_))); replace BK1022 := am_ (blk_kept (Sh.pl BK1022.out) hkp (fun hs_ => Or.elim hs_ (fun e_ => (fun e_ => (Kd.R_ne HO_1038000.out BK1022.out (by decide)) e_) e_) (fun e_ => (fun e_ => (Kd.R_ne HO_1038001.out BK1022.out (by decide)) e_) e_))); replace BK1029 := am_ (blk_kept (Sh.pl BK1029.out) hkp (fun hs_ => Or.elim hs_ (fun e_ => (fun e_ => (Kd.R_ne HO_1038000.out BK1029.out (by decide)) e_) e_) (fun e_ => (fun e_ => (Kd.R_ne HO_1038001.out BK1029.out (by decide)) e_) e_))); replace BK1037 := am_ (blk_kept (Sh.pl BK1037.out) hkp (fun hs_ => Or.elim hs_ (fun e_ => (fun e_ => (Kd.R_ne HO_1038000.out BK1037.out (by decide)) e_) e_) (fun e_ => (fun e_ => (Kd.R_ne HO_1038001.out BK1037.out (by decide)) e_) e_))); replace HO_1038000 := am_ (Kd.R_reok rfl hy0 (fun k_ e_ => HO_1038000.out.1 k_ e_)); replace HO_1038001 := am_ (Kd.R_reok rfl hy1 (fun k_ e_ => HO_1038001.out.1 k_ e_)); replace HB := am_ hb; (try clear hb); (try clear hkp); (try clear hy0); (try clear hy1); obtain ⟨hcz104_0, hcz104_1, hfz104_0, hfz104_1⟩ := Sh.b2 BK1037.out) | ((with_reducible refine Sh.k 25 ?_); refine goesL_ (some 71) rfl rfl Try.func25 (by kernel_rfl) rfl #[.agg #[.slice Ao36 t1051.length co36, .slice Ao41 t1052.length co41], .int .i64 1] rfl (by (try simp only [List.map_toArray, List.map_cons, List.map_nil]); first | done | (rw [show t1051.length = t1030.length from (Kd.R_reads' HO_1038000.out).1.symm, show t1052.length = t1033.length from (Kd.R_reads' HO_1038001.out).1.symm] <;> rfl) | rfl | (simp only [List.length_drop, List.length_take]; rfl)) ?_; (with_reducible refine (laws_heldLasso.calls kj64 _ _ t1051 _ _ t1052 1 t1053 _ (Sh.cR (Kd.R_reads' HO_1038000.out).2.2) ?side2 ?side3 ?side4 A97.out).mono ?_); (case side2 => rw [show t1051.length = t1030.length from (Kd.R_reads' HO_1038000.out).1.symm]; exact (Kd.R_reads' HO_1038000.out).2.1); (case side3 => repeat (first | exact (Kd.R_reads' HO_1038001.out).2.2 | (with_reducible first | refine Kd.C_alloc ?_ _ | refine Kd.C_drewN ?_ _ | refine Kd.C_drew ?_))); (case side4 => rw [show t1052.length = t1033.length from (Kd.R_reads' HO_1038001.out).1.symm]; exact (Kd.R_reads' HO_1038001.out).2.1); rintro e w105 ⟨rfl, hb⟩; refine ⟨_, rfl, ?_⟩; replace HO_1023000 := am_ (Kd.R_below (Sh.rl HO_1023000.out) hb); replace HO_1023001 := am_ (Kd.R_below (Sh.rl HO_1023001.out) hb); replace HO_1030000 := am_ (Kd.R_below (Sh.rl HO_1030000.out) hb); replace HO_1030001 := am_ (Kd.R_below (Sh.rl HO_1030001.out) hb); replace HO_1038000 := am_ (Kd.R_below (Sh.rl HO_1038000.out) hb); replace HO_1038001 := am_ (Kd.R_below (Sh.rl HO_1038001.out) hb); replace BK1007 := Sh.ab BK1007 hb; replace BK1022 := Sh.ab BK1022 hb; replace BK1029 := Sh.ab BK1029 hb; replace BK1037 := Sh.ab BK1037 hb; replace HB := Sh.hb hb; (try clear hb); (try clear hb2); (try clear hk); (try clear hi)))
          go_ret
          exact ⟨Sh.eR, Sh.bw⟩
         ·rw [if_neg c98] at H
          have c98b0 := decide_eq_false c98
          clear c98
          by_cases c106 : t1053 = t1050
          ·rw [if_pos c106] at H
           have c106b0 : (t1053 == t1050) = true := beq_iff_eq.mpr c106
           have c106b1 : (t1053 != t1050) = false := bne_eq_false_iff_eq.mpr c106
           clear c106
           obtain ⟨⟨t1054, t1057⟩, A1070, H⟩ := Sh.bd H
           have A107 := am_ A1070
           clear A1070
           obtain ⟨⟨t1060, t1063, t1066⟩, A1080, H⟩ := Sh.bd H
           have A108 := am_ A1080
           clear A1080
           have HC109 := am_ H
           clear H
           have hnb110 := NB1037_1007.out
           have hnc110 := NB1007_1037.out
           have hnb111 := NB1037_1022.out
           have hnc111 := NB1022_1037.out
           have hnb112 := NB1037_1029.out
           have hnc112 := NB1029_1037.out
           have hcz113_0 := Sh.bc BK1037.out 0
           have hcz113_1 := Sh.bc BK1037.out 1
           have hfz113_0 := blk_frozen BK1037.out 0
           have hfz113_1 := blk_frozen BK1037.out 1
           go_upto_region 25 with (first | ((with_reducible refine Sh.k 24 ?_); refine Sh.gL (some 68) Try.func24 #[.agg #[.slice Ao36 t1030.length co36, .slice Ao41 t1033.length co41], .int .i64 1] (h := ?_); (with_reducible refine (laws_markLasso.calls kj64 (fun k_ => some k_ = (.slice Ao36 t1030.length co36 : Value).ownBlock) (.slice Ao36 t1030.length co36) t1030 (fun k_ => some k_ = (.slice Ao41 t1033.length co41 : Value).ownBlock) (.slice Ao41 t1033.length co41) t1033 1 t1050 t1051 t1052 w _ ?side1 ?side2 ?side3 ?side4 ?side5 A96.out).mono ?_); (case side1 => repeat (first | (with_reducible first | exact HB.out | apply below_alloc | apply pw_below_drewN | apply below_drew1 | refine below_set ?_ GE1007.out | refine below_set ?_ GE1022.out | refine below_set ?_ GE1029.out | refine below_set ?_ GE1037.out) | exact HB.out)); (case side2 => exact Kd.R_tight rfl HO_1038000.out); (case side3 => exact fun k_ e_ => (HO_1038000.out.1 k_ e_.symm).2.2.2.2); (case side4 => exact Kd.R_tight rfl HO_1038001.out); (case side5 => exact fun k_ e_ => (HO_1038001.out.1 k_ e_.symm).2.2.2.2); rintro e w114 ⟨rfl, hy0, hy1, hb, hkp⟩; refine ⟨_, rfl, ?_⟩; replace HO_1023000 := am_ (Kd.R_mono (ok' := fun k_ => some k_ ≠ (.slice Ao25 t1018.length co25 : Value).ownBlock ∧ some k_ ≠ (.slice Ao29 t1047.length co29 : Value).ownBlock ∧ some k_ ≠ (.slice Ao33 t1048.length co33 : Value).ownBlock ∧ some k_ ≠ (.slice Ao36 t1030.length co36 : Value).ownBlock ∧ some k_ ≠ (.slice Ao41 t1033.length co41 : Value).ownBlock) (Kd.R_keptB (HO_1023000.out) hkp (fun k_ hk_ hs_ => Or.elim hs_ (fun e_ => (hk_.2.2.2.1) e_) (fun e_ => (hk_.2.2.2.2) e_))) (fun k_ h => ⟨h.1.1, h.1.2.1, h.1.2.2.1, h.1.2.2.2.1, h.1.2.2.2.2⟩)); replace HO_1023001 := am_ (Kd.R_mono (ok' := fun k_ => some k_ ≠ (.slice Ao22 t1015.length co22 : Value).ownBlock ∧ some k_ ≠ (.slice Ao29 t1047.length co29 : Value).ownBlock ∧ some k_ ≠ (.slice Ao33 t1048.length co33 : Value).ownBlock ∧ some k_ ≠ (.slice Ao36 t1030.length co36 : Value).ownBlock ∧ some k_ ≠ (.slice Ao41 t1033.length co41 : Value).ownBlock) (Kd.R_keptB (HO_1023001.out) hkp (fun k_ hk_ hs_ => Or.elim hs_ (fun e_ => (hk_.2.2.2.1) e_) (fun e_ => (hk_.2.2.2.2) e_))) (fun k_ h => ⟨h.1.1, h.1.2.1, h.1.2.2.1, h.1.2.2.2.1, h.1.2.2.2.2⟩)); replace HO_1030000 := am_ (Kd.R_mono (ok' := fun k_ => some k_ ≠ (.slice Ao22 t1015.length co22 : Value).ownBlock ∧ some k_ ≠ (.slice Ao25 t1018.length co25 : Value).ownBlock ∧ some k_ ≠ (.slice Ao33 t1048.length co33 : Value).ownBlock ∧ some k_ ≠ (.slice Ao36 t1030.length co36 : Value).ownBlock ∧ some k_ ≠ (.slice Ao41 t1033.length co41 : Value).ownBlock) (Kd.R_keptB (HO_1030000.out) hkp (fun k_ hk_ hs_ => Or.elim hs_ (fun e_ => (hk_.2.2.2.1) e_) (fun e_ => (hk_.2.2.2.2) e_))) (fun k_ h => ⟨h.1.1, h.1.2.1, h.1.2.2.1, h.1.2.2.2.1, h.1.2.2.2.2⟩)); replace HO_1030001 := am_ (Kd.R_mono (ok' := fun k_ => some k_ ≠ (.slice Ao22 t1015.length co22 : Value).ownBlock ∧ some k_ ≠ (.slice Ao25 t1018.length co25 : Value).ownBlock ∧ some k_ ≠ (.slice Ao29 t1047.length co29 : Value).ownBlock ∧ some k_ ≠ (.slice Ao36 t1030.length co36 : Value).ownBlock ∧ some k_ ≠ (.slice Ao41 t1033.length co41 : Value).ownBlock) (Kd.R_keptB (HO_1030001.out) hkp (fun k_ hk_ hs_ => Or.elim hs_ (fun e_ => (hk_.2.2.2.1) e_) (fun e_ => (hk_.2.2.2.2) e_))) (fun k_ h => ⟨h.1.1, h.1.2.1, h.1.2.2.1, h.1.2.2.2.1, h.1.2.2.2.2⟩)); replace BK1007 := am_ (blk_kept (Sh.pl BK1007.out) hkp (fun hs_ => Or.elim hs_ (fun e_ => (fun e_ => (Kd.R_ne HO_1038000.out BK1007.out (by decide)) e_) e_) (fun e_ => (fun e_ => (Kd.R_ne HO_1038001.out BK1007.out (by decide)) e_) e_))); replace BK1022 := am_ (blk_kept (Sh.pl BK1022.out) hkp (fun hs_ => Or.elim hs_ (fun e_ => (fun e_ => (Kd.R_ne HO_1038000.out BK1022.out (by decide)) e_) e_) (fun e_ => (fun e_ => (Kd.R_ne HO_1038001.out BK1022.out (by decide)) e_) e_))); replace BK1029 := am_ (blk_kept (Sh.pl BK1029.out) hkp (fun hs_ => Or.elim hs_ (fun e_ => (fun e_ => (Kd.R_ne HO_1038000.out BK1029.out (by decide)) e_) e_) (fun e_ => (fun e_ => (Kd.R_ne HO_1038001.out BK1029.out (by decide)) e_) e_))); replace BK1037 := am_ (blk_kept (Sh.pl BK1037.out) hkp (fun hs_ => Or.elim hs_ (fun e_ => (fun e_ => (Kd.R_ne HO_1038000.out BK1037.out (by decide)) e_) e_) (fun e_ => (fun e_ => (Kd.R_ne HO_1038001.out BK1037.out (by decide)) e_) e_))); replace HO_1038000 := am_ (Kd.R_reok rfl hy0 (fun k_ e_ => HO_1038000.out.1 k_ e_)); replace HO_1038001 := am_ (Kd.R_reok rfl hy1 (fun k_ e_ => HO_1038001.out.1 k_ e_)); replace HB := am_ hb; (try clear hb); (try clear hkp); (try clear hy0); (try clear hy1); obtain ⟨hcz115_0, hcz115_1, hfz115_0, hfz115_1⟩ := Sh.b2 BK1037.out) | ((with_reducible refine Sh.k 25 ?_); refine goesL_ (some 71) rfl rfl Try.func25 (by kernel_rfl) rfl #[.agg #[.slice Ao36 t1051.length co36, .slice Ao41 t1052.length co41], .int .i64 1] rfl (by (try simp only [List.map_toArray, List.map_cons, List.map_nil]); first | done | (rw [show t1051.length = t1030.length from (Kd.R_reads' HO_1038000.out).1.symm, show t1052.length = t1033.length from (Kd.R_reads' HO_1038001.out).1.symm] <;> rfl) | rfl | (simp only [List.length_drop, List.length_take]; rfl)) ?_; (with_reducible refine (laws_heldLasso.calls kj64 _ _ t1051 _ _ t1052 1 t1053 _ (Sh.cR (Kd.R_reads' HO_1038000.out).2.2) ?side2 ?side3 ?side4 A97.out).mono ?_); (case side2 => rw [show t1051.length = t1030.length from (Kd.R_reads' HO_1038000.out).1.symm]; exact (Kd.R_reads' HO_1038000.out).2.1); (case side3 => repeat (first | exact (Kd.R_reads' HO_1038001.out).2.2 | (with_reducible first | refine Kd.C_alloc ?_ _ | refine Kd.C_drewN ?_ _ | refine Kd.C_drew ?_))); (case side4 => rw [show t1052.length = t1033.length from (Kd.R_reads' HO_1038001.out).1.symm]; exact (Kd.R_reads' HO_1038001.out).2.1); rintro e w116 ⟨rfl, hb⟩; refine ⟨_, rfl, ?_⟩; replace HO_1023000 := am_ (Kd.R_below (Sh.rl HO_1023000.out) hb); replace HO_1023001 := am_ (Kd.R_below (Sh.rl HO_1023001.out) hb); replace HO_1030000 := am_ (Kd.R_below (Sh.rl HO_1030000.out) hb); replace HO_1030001 := am_ (Kd.R_below (Sh.rl HO_1030001.out) hb); replace HO_1038000 := am_ (Kd.R_below (Sh.rl HO_1038000.out) hb); replace HO_1038001 := am_ (Kd.R_below (Sh.rl HO_1038001.out) hb); replace BK1007 := Sh.ab BK1007 hb; replace BK1022 := Sh.ab BK1022 hb; replace BK1029 := Sh.ab BK1029 hb; replace BK1037 := Sh.ab BK1037 hb; replace HB := Sh.hb hb; (try clear hb); (try clear hb2); (try clear hk); (try clear hi); have hnb117 := NB1007_1022.out; have hnc117 := NB1022_1007.out; have hnb118 := NB1007_1029.out; have hnc118 := NB1029_1007.out; obtain ⟨hcz119_0, hcz119_1, hfz119_0, hfz119_1⟩ := Sh.b2 BK1007.out) | ((with_reducible refine Sh.k 21 ?_); refine Sh.gL (some 79) Try.func21 #[.agg #[.slice A0_0 l0_0.length c0_0, .slice A0_1 l0_1.length c0_1]] (h := ?_); (with_reducible refine (laws_toLasso.calls kj64 _ _ l0_0 _ _ l0_1 t1054 t1057 _ (Sh.cB HR0_0.out) HC0_0.out (Sh.cB HR0_1.out) HC0_1.out A107.out).mono ?_); rintro e w120 ⟨v1055, v1058, rfl, ho0, ho1, hb⟩; refine ⟨_, rfl, ?_⟩; have n0_ := am_ (Kd.R_mono (Kd.R_told (Kd.R_told (Kd.R_old (Sh.rl HO_1023000.out) hb) (Kd.R_base ho0)) (Kd.R_base ho1)) (fun _ h_ => h_.1)); have n1_ := am_ (Kd.R_mono (Kd.R_told (Kd.R_told (Kd.R_old (Sh.rl HO_1023001.out) hb) (Kd.R_base ho0)) (Kd.R_base ho1)) (fun _ h_ => h_.1)); have n2_ := am_ (Kd.R_mono (Kd.R_told (Kd.R_told (Kd.R_old (Sh.rl HO_1030000.out) hb) (Kd.R_base ho0)) (Kd.R_base ho1)) (fun _ h_ => h_.1)); have n3_ := am_ (Kd.R_mono (Kd.R_told (Kd.R_told (Kd.R_old (Sh.rl HO_1030001.out) hb) (Kd.R_base ho0)) (Kd.R_base ho1)) (fun _ h_ => h_.1)); have n4_ := am_ (Kd.R_mono (Kd.R_told (Kd.R_told (Kd.R_old (Sh.rl HO_1038000.out) hb) (Kd.R_base ho0)) (Kd.R_base ho1)) (fun _ h_ => h_.1)); have n5_ := am_ (Kd.R_mono (Kd.R_told (Kd.R_told (Kd.R_old (Sh.rl HO_1038001.out) hb) (Kd.R_base ho0)) (Kd.R_base ho1)) (fun _ h_ => h_.1)); have n6_ := am_ (Kd.R_lower (Kd.R_new' (Kd.R_new' (Kd.R_new' (Kd.R_new' (Kd.R_new' (Kd.R_new' ho0 (Kd.R_lt (Sh.rl HO_1023000.out))) (Kd.R_lt (Sh.rl HO_1023001.out))) (Kd.R_lt (Sh.rl HO_1030000.out))) (Kd.R_lt (Sh.rl HO_1030001.out))) (Kd.R_lt (Sh.rl HO_1038000.out))) (Kd.R_lt (Sh.rl HO_1038001.out))) (below_size Sh.bw)); have n7_ := am_ (Kd.R_lower (Kd.R_new' (Kd.R_new' (Kd.R_new' (Kd.R_new' (Kd.R_new' (Kd.R_new' ho1 (Kd.R_lt (Sh.rl HO_1023000.out))) (Kd.R_lt (Sh.rl HO_1023001.out))) (Kd.R_lt (Sh.rl HO_1030000.out))) (Kd.R_lt (Sh.rl HO_1030001.out))) (Kd.R_lt (Sh.rl HO_1038000.out))) (Kd.R_lt (Sh.rl HO_1038001.out))) (below_size Sh.bw)); have n8_ := am_ (Sh.bb BK1007.out hb); have n9_ := am_ (Sh.bb BK1022.out hb); have n10_ := am_ (Sh.bb BK1029.out hb); have n11_ := am_ (Sh.bb BK1037.out hb); have n12_ := am_ (below_step Sh.bw hb); clear HO_1023000; clear HO_1023001; clear HO_1030000; clear HO_1030001; clear HO_1038000; clear HO_1038001; clear BK1007; clear BK1022; clear BK1029; clear BK1037; clear HB; have HO_1023000 := n0_; have HO_1023001 := n1_; have HO_1030000 := n2_; have HO_1030001 := n3_; have HO_1038000 := n4_; have HO_1038001 := n5_; have HO1056 := n6_; have HO1059 := n7_; have BK1007 := n8_; have BK1022 := n9_; have BK1029 := n10_; have BK1037 := n11_; have HB := n12_; clear n0_ n1_ n2_ n3_ n4_ n5_ n6_ n7_ n8_ n9_ n10_ n11_ n12_; (try clear hb); (try clear hb2); (try clear hk); (try clear hi); (try clear ho0); (try clear ho1); obtain ⟨Ao121, co121, eo121⟩ := Kd.R_slice HO1056.out; subst eo121; obtain ⟨Ao122, co122, eo122⟩ := Kd.R_slice HO1059.out; subst eo122) | ((with_reducible refine Sh.k 22 ?_); refine Sh.gL (some 81) Try.func22 #[.agg #[.slice Ao121 t1054.length co121, .slice Ao122 t1057.length co122], .int .i64 a1] (h := ?_); (with_reducible refine (impl_StutterAt.calls kj64 _ _ t1054 _ _ t1057 a1 t1060 t1063 t1066 _ (Sh.cR (Kd.R_reads' HO1056.out).2.2) (Kd.R_reads' HO1056.out).2.1 (Sh.cR (Kd.R_reads' HO1059.out).2.2) (Kd.R_reads' HO1059.out).2.1 A108.out).mono ?_); rintro e w123 ⟨v1061, v1064, rfl, ho0, ho1, hb⟩; refine ⟨_, rfl, ?_⟩; have n0_ := am_ (Kd.R_mono (Kd.R_told (Kd.R_told (Kd.R_old (Sh.rl HO_1023000.out) hb) (Kd.R_base ho0)) (Kd.R_base ho1)) (fun _ h_ => h_.1)); have n1_ := am_ (Kd.R_mono (Kd.R_told (Kd.R_told (Kd.R_old (Sh.rl HO_1023001.out) hb) (Kd.R_base ho0)) (Kd.R_base ho1)) (fun _ h_ => h_.1)); have n2_ := am_ (Kd.R_mono (Kd.R_told (Kd.R_told (Kd.R_old (Sh.rl HO_1030000.out) hb) (Kd.R_base ho0)) (Kd.R_base ho1)) (fun _ h_ => h_.1)); have n3_ := am_ (Kd.R_mono (Kd.R_told (Kd.R_told (Kd.R_old (Sh.rl HO_1030001.out) hb) (Kd.R_base ho0)) (Kd.R_base ho1)) (fun _ h_ => h_.1)); have n4_ := am_ (Kd.R_mono (Kd.R_told (Kd.R_told (Kd.R_old (Sh.rl HO_1038000.out) hb) (Kd.R_base ho0)) (Kd.R_base ho1)) (fun _ h_ => h_.1)); have n5_ := am_ (Kd.R_mono (Kd.R_told (Kd.R_told (Kd.R_old (Sh.rl HO_1038001.out) hb) (Kd.R_base ho0)) (Kd.R_base ho1)) (fun _ h_ => h_.1)); have n6_ := am_ (Kd.R_mono (Kd.R_told (Kd.R_told (Kd.R_old (Sh.rl HO1056.out) hb) (Kd.R_base ho0)) (Kd.R_base ho1)) (fun _ h_ => h_.1)); have n7_ := am_ (Kd.R_mono (Kd.R_told (Kd.R_told (Kd.R_old (Sh.rl HO1059.out) hb) (Kd.R_base ho0)) (Kd.R_base ho1)) (fun _ h_ => h_.1)); have n8_ := am_ (Kd.R_lower (Kd.R_new' (Kd.R_new' (Kd.R_new' (Kd.R_new' (Kd.R_new' (Kd.R_new' (Kd.R_new' (Kd.R_new' ho0 (Kd.R_lt (Sh.rl HO_1023000.out))) (Kd.R_lt (Sh.rl HO_1023001.out))) (Kd.R_lt (Sh.rl HO_1030000.out))) (Kd.R_lt (Sh.rl HO_1030001.out))) (Kd.R_lt (Sh.rl HO_1038000.out))) (Kd.R_lt (Sh.rl HO_1038001.out))) (Kd.R_lt (Sh.rl HO1056.out))) (Kd.R_lt (Sh.rl HO1059.out))) (below_size Sh.bw)); have n9_ := am_ (Kd.R_lower (Kd.R_new' (Kd.R_new' (Kd.R_new' (Kd.R_new' (Kd.R_new' (Kd.R_new' (Kd.R_new' (Kd.R_new' ho1 (Kd.R_lt (Sh.rl HO_1023000.out))) (Kd.R_lt (Sh.rl HO_1023001.out))) (Kd.R_lt (Sh.rl HO_1030000.out))) (Kd.R_lt (Sh.rl HO_1030001.out))) (Kd.R_lt (Sh.rl HO_1038000.out))) (Kd.R_lt (Sh.rl HO_1038001.out))) (Kd.R_lt (Sh.rl HO1056.out))) (Kd.R_lt (Sh.rl HO1059.out))) (below_size Sh.bw)); have n10_ := am_ (Sh.bb BK1007.out hb); have n11_ := am_ (Sh.bb BK1022.out hb); have n12_ := am_ (Sh.bb BK1029.out hb); have n13_ := am_ (Sh.bb BK1037.out hb); have n14_ := am_ (below_step Sh.bw hb); clear HO_1023000; clear HO_1023001; clear HO_1030000; clear HO_1030001; clear HO_1038000; clear HO_1038001; clear HO1056; clear HO1059; clear BK1007; clear BK1022; clear BK1029; clear BK1037; clear HB; have HO_1023000 := n0_; have HO_1023001 := n1_; have HO_1030000 := n2_; have HO_1030001 := n3_; have HO_1038000 := n4_; have HO_1038001 := n5_; have HO1056 := n6_; have HO1059 := n7_; have HO1062 := n8_; have HO1065 := n9_; have BK1007 := n10_; have BK1022 := n11_; have BK1029 := n12_; have BK1037 := n13_; have HB := n14_; clear n0_ n1_ n2_ n3_ n4_ n5_ n6_ n7_ n8_ n9_ n10_ n11_ n12_ n13_ n14_; (try clear hb); (try clear hb2); (try clear hk); (try clear hi); (try clear ho0); (try clear ho1)) | ((with_reducible refine Sh.d 14 ?_); refine Sh.bx (N := 14) (cs := #[.slice none 0 0, .slice none 0 0]) (t := 37) (h := ?_); intro gb1067 hg w124 hbox hb; replace HO_1023000 := am_ (Kd.R_below (Sh.rl HO_1023000.out) hb); replace HO_1023001 := am_ (Kd.R_below (Sh.rl HO_1023001.out) hb); replace HO_1030000 := am_ (Kd.R_below (Sh.rl HO_1030000.out) hb); replace HO_1030001 := am_ (Kd.R_below (Sh.rl HO_1030001.out) hb); replace HO_1038000 := am_ (Kd.R_below (Sh.rl HO_1038000.out) hb); replace HO_1038001 := am_ (Kd.R_below (Sh.rl HO_1038001.out) hb); replace HO1056 := am_ (Kd.R_below (Sh.rl HO1056.out) hb); replace HO1059 := am_ (Kd.R_below (Sh.rl HO1059.out) hb); replace HO1062 := am_ (Kd.R_below (Sh.rl HO1062.out) hb); replace HO1065 := am_ (Kd.R_below (Sh.rl HO1065.out) hb); have BK1067 := am_ hbox; have GE1067 := Sh.ag w hg; replace HB := Sh.hb hb; have NB1007_1067 := am_ (Sh.nl hg BK1007.out); have NB1067_1007 := am_ (Sh.ng hg BK1007.out); replace BK1007 := Sh.ab BK1007 hb; have NB1022_1067 := am_ (Sh.nl hg BK1022.out); have NB1067_1022 := am_ (Sh.ng hg BK1022.out); replace BK1022 := Sh.ab BK1022 hb; have NB1029_1067 := am_ (Sh.nl hg BK1029.out); have NB1067_1029 := am_ (Sh.ng hg BK1029.out); replace BK1029 := Sh.ab BK1029 hb; have NB1037_1067 := am_ (Sh.nl hg BK1037.out); have NB1067_1037 := am_ (Sh.ng hg BK1037.out); replace BK1037 := Sh.ab BK1037 hb; clear hb hbox hg; obtain ⟨Ao125, co125, eo125⟩ := Kd.R_slice HO1062.out; subst eo125; have hnb126 := NB1067_1007.out; have hnc126 := NB1007_1067.out; have hnb127 := NB1067_1022.out; have hnc127 := NB1022_1067.out; have hnb128 := NB1067_1029.out; have hnc128 := NB1029_1067.out; have hnb129 := NB1067_1037.out; have hnc129 := NB1037_1067.out; obtain ⟨hcz130_0, hcz130_1, hfz130_0, hfz130_1⟩ := Sh.b2 BK1067.out; obtain ⟨Ao131, co131, eo131⟩ := Kd.R_slice HO1065.out; subst eo131))
           (try simp only [Act.put, List.setIfInBounds_toArray, List.set_cons_zero, List.set_cons_succ])
           go_cut [92] (fun v92 wc => ∃ (kq : Nat) (x92_108 : Bool), v92 = .bool x92_108 ∧ Aside0 (laws_FnExactStutterAt.j2 kq t1050 x92_108 t1051 t1052 = some r) ∧ Aside0 (kq ≤ kj64) ∧ Aside0 (Kd.R (Kd.int .i64) 3 wc w.heap.size (fun k_ => some k_ ≠ ((.slice Ao25 t1018.length co25) : Value).ownBlock ∧ some k_ ≠ ((.slice Ao29 t1047.length co29) : Value).ownBlock ∧ some k_ ≠ ((.slice Ao33 t1048.length co33) : Value).ownBlock ∧ some k_ ≠ ((.slice Ao36 t1030.length co36) : Value).ownBlock ∧ some k_ ≠ ((.slice Ao41 t1033.length co41) : Value).ownBlock ∧ some k_ ≠ ((.slice Ao125 t1060.length co125) : Value).ownBlock ∧ some k_ ≠ ((.slice Ao131 t1063.length co131) : Value).ownBlock) (.slice Ao22 t1015.length co22) t1015) ∧ Aside0 (Kd.R (Kd.int .i64) 3 wc w.heap.size (fun k_ => some k_ ≠ ((.slice Ao22 t1015.length co22) : Value).ownBlock ∧ some k_ ≠ ((.slice Ao29 t1047.length co29) : Value).ownBlock ∧ some k_ ≠ ((.slice Ao33 t1048.length co33) : Value).ownBlock ∧ some k_ ≠ ((.slice Ao36 t1030.length co36) : Value).ownBlock ∧ some k_ ≠ ((.slice Ao41 t1033.length co41) : Value).ownBlock ∧ some k_ ≠ ((.slice Ao125 t1060.length co125) : Value).ownBlock ∧ some k_ ≠ ((.slice Ao131 t1063.length co131) : Value).ownBlock) (.slice Ao25 t1018.length co25) t1018) ∧ Aside0 (Kd.R (Kd.int .i64) 3 wc w.heap.size (fun k_ => some k_ ≠ ((.slice Ao22 t1015.length co22) : Value).ownBlock ∧ some k_ ≠ ((.slice Ao25 t1018.length co25) : Value).ownBlock ∧ some k_ ≠ ((.slice Ao33 t1048.length co33) : Value).ownBlock ∧ some k_ ≠ ((.slice Ao36 t1030.length co36) : Value).ownBlock ∧ some k_ ≠ ((.slice Ao41 t1033.length co41) : Value).ownBlock ∧ some k_ ≠ ((.slice Ao125 t1060.length co125) : Value).ownBlock ∧ some k_ ≠ ((.slice Ao131 t1063.length co131) : Value).ownBlock) (.slice Ao29 t1047.length co29) t1047) ∧ Aside0 (Kd.R (Kd.int .i64) 3 wc w.heap.size (fun k_ => some k_ ≠ ((.slice Ao22 t1015.length co22) : Value).ownBlock ∧ some k_ ≠ ((.slice Ao25 t1018.length co25) : Value).ownBlock ∧ some k_ ≠ ((.slice Ao29 t1047.length co29) : Value).ownBlock ∧ some k_ ≠ ((.slice Ao36 t1030.length co36) : Value).ownBlock ∧ some k_ ≠ ((.slice Ao41 t1033.length co41) : Value).ownBlock ∧ some k_ ≠ ((.slice Ao125 t1060.length co125) : Value).ownBlock ∧ some k_ ≠ ((.slice Ao131 t1063.length co131) : Value).ownBlock) (.slice Ao33 t1048.length co33) t1048) ∧ Aside0 (Kd.R (Kd.int .i64) 3 wc w.heap.size (fun k_ => some k_ ≠ ((.slice Ao22 t1015.length co22) : Value).ownBlock ∧ some k_ ≠ ((.slice Ao25 t1018.length co25) : Value).ownBlock ∧ some k_ ≠ ((.slice Ao29 t1047.length co29) : Value).ownBlock ∧ some k_ ≠ ((.slice Ao33 t1048.length co33) : Value).ownBlock ∧ some k_ ≠ ((.slice Ao41 t1033.length co41) : Value).ownBlock ∧ some k_ ≠ ((.slice Ao125 t1060.length co125) : Value).ownBlock ∧ some k_ ≠ ((.slice Ao131 t1063.length co131) : Value).ownBlock) (.slice Ao36 t1030.length co36) t1051) ∧ Aside0 (Kd.R (Kd.int .i64) 3 wc w.heap.size (fun k_ => some k_ ≠ ((.slice Ao22 t1015.length co22) : Value).ownBlock ∧ some k_ ≠ ((.slice Ao25 t1018.length co25) : Value).ownBlock ∧ some k_ ≠ ((.slice Ao29 t1047.length co29) : Value).ownBlock ∧ some k_ ≠ ((.slice Ao33 t1048.length co33) : Value).ownBlock ∧ some k_ ≠ ((.slice Ao36 t1030.length co36) : Value).ownBlock ∧ some k_ ≠ ((.slice Ao125 t1060.length co125) : Value).ownBlock ∧ some k_ ≠ ((.slice Ao131 t1063.length co131) : Value).ownBlock) (.slice Ao41 t1033.length co41) t1052) ∧ Aside0 (Kd.R (Kd.int .i64) 3 wc w.heap.size (fun k_ => some k_ ≠ ((.slice Ao22 t1015.length co22) : Value).ownBlock ∧ some k_ ≠ ((.slice Ao25 t1018.length co25) : Value).ownBlock ∧ some k_ ≠ ((.slice Ao29 t1047.length co29) : Value).ownBlock ∧ some k_ ≠ ((.slice Ao33 t1048.length co33) : Value).ownBlock ∧ some k_ ≠ ((.slice Ao36 t1030.length co36) : Value).ownBlock ∧ some k_ ≠ ((.slice Ao41 t1033.length co41) : Value).ownBlock ∧ some k_ ≠ ((.slice Ao131 t1063.length co131) : Value).ownBlock) (.slice Ao125 t1060.length co125) t1060) ∧ Aside0 (Kd.R (Kd.int .i64) 3 wc w.heap.size (fun k_ => some k_ ≠ ((.slice Ao22 t1015.length co22) : Value).ownBlock ∧ some k_ ≠ ((.slice Ao25 t1018.length co25) : Value).ownBlock ∧ some k_ ≠ ((.slice Ao29 t1047.length co29) : Value).ownBlock ∧ some k_ ≠ ((.slice Ao33 t1048.length co33) : Value).ownBlock ∧ some k_ ≠ ((.slice Ao36 t1030.length co36) : Value).ownBlock ∧ some k_ ≠ ((.slice Ao41 t1033.length co41) : Value).ownBlock ∧ some k_ ≠ ((.slice Ao125 t1060.length co125) : Value).ownBlock) (.slice Ao131 t1063.length co131) t1063) ∧ Aside0 (wc.heap[gb1007]? = some (.cells #[(.slice A0_0 l0_0.length c0_0), (.slice A0_1 l0_1.length c0_1)] 35 (0, 0))) ∧ Aside0 (wc.heap[gb1022]? = some (.cells #[(.slice Ao22 t1015.length co22), (.slice Ao25 t1018.length co25)] 37 (0, 0))) ∧ Aside0 (wc.heap[gb1029]? = some (.cells #[(.slice Ao29 t1047.length co29), (.slice Ao33 t1048.length co33)] 37 (0, 0))) ∧ Aside0 (wc.heap[gb1037]? = some (.cells #[(.slice Ao36 t1030.length co36), (.slice Ao41 t1033.length co41)] 37 (0, 0))) ∧ Aside0 (wc.heap[gb1067]? = some (.cells #[(.slice Ao125 t1060.length co125), (.slice Ao131 t1063.length co131)] 37 (0, 0))) ∧ Aside0 (Below w.heap.size w wc))
           case first =>
            have H := HC109.out
            clear HC109
            obtain ⟨t1068, A132, H⟩ := Sh.ba H
            by_cases c133 : t1068 = true
            ·subst c133
             rw [if_pos rfl] at H
             have H' := am_ H
             clear H
             have hnb134 := NB1067_1007.out
             have hnc134 := NB1007_1067.out
             have hnb135 := NB1067_1022.out
             have hnc135 := NB1022_1067.out
             have hnb136 := NB1067_1029.out
             have hnc136 := NB1029_1067.out
             have hnb137 := NB1067_1037.out
             have hnc137 := NB1037_1067.out
             have hcz138_0 := Sh.bc BK1067.out 0
             have hcz138_1 := Sh.bc BK1067.out 1
             have hfz138_0 := blk_frozen BK1067.out 0
             have hfz138_1 := blk_frozen BK1067.out 1
             have hnb139 := NB1022_1007.out
             have hnc139 := NB1007_1022.out
             have hnb140 := NB1022_1029.out
             have hnc140 := NB1029_1022.out
             have hnb141 := NB1022_1037.out
             have hnc141 := NB1037_1022.out
             have hcz142_0 := Sh.bc BK1022.out 0
             have hcz142_1 := Sh.bc BK1022.out 1
             have hfz142_0 := blk_frozen BK1022.out 0
             have hfz142_1 := blk_frozen BK1022.out 1
             go_wp2_with (first | ((with_reducible refine Sh.k 23 ?_); refine Sh.gL (some 86) Try.func23 #[.agg #[.slice Ao125 t1060.length co125, .slice Ao131 t1063.length co131], .agg #[.slice Ao22 t1015.length co22, .slice Ao25 t1018.length co25]] (h := ?_); (with_reducible refine (laws_eqLasso.calls kj64 _ _ t1060 _ _ t1063 _ _ t1015 _ _ t1018 true _ ?side1 ?side2 ?side3 ?side4 ?side5 ?side6 ?side7 ?side8 A132.out).mono ?_); (case side1 => refine (Kd.R_reads' (e := 3) (base := w.heap.size) (ok := fun k_ => ((((((((some k_ ≠ (.slice Ao131 t1063.length co131 : Value).ownBlock ∧ some k_ ≠ (.slice Ao22 t1015.length co22 : Value).ownBlock) ∧ some k_ ≠ (.slice Ao25 t1018.length co25 : Value).ownBlock) ∧ some k_ ≠ (.slice Ao29 t1047.length co29 : Value).ownBlock) ∧ some k_ ≠ (.slice Ao33 t1048.length co33 : Value).ownBlock) ∧ some k_ ≠ (.slice Ao36 t1030.length co36 : Value).ownBlock) ∧ some k_ ≠ (.slice Ao41 t1033.length co41 : Value).ownBlock) ∧ some k_ ≠ (.slice Ao121 t1054.length co121 : Value).ownBlock) ∧ some k_ ≠ (.slice Ao122 t1057.length co122 : Value).ownBlock)) (n := t1060.length) (c := co125) ?_).2.2; exact (Sh.rl (Kd.R_mono (Kd.R_far (p := ⟨gb1067, 1, none⟩) (Kd.R_far (p := ⟨gb1067, 0, none⟩) (Kd.R_types HO1062.out BK1067.out (by decide)) (fun _ hk => hk.2) (.slice Ao125 t1060.length co125)) (fun _ hk => hk.2) (.slice Ao131 t1063.length co131)) (fun _ h_ => h_.1)))); (case side2 => exact (Kd.R_reads' HO1062.out).2.1); (case side3 => refine (Kd.R_reads' (e := 3) (base := w.heap.size) (ok := fun k_ => ((((((((some k_ ≠ (.slice Ao125 t1060.length co125 : Value).ownBlock ∧ some k_ ≠ (.slice Ao22 t1015.length co22 : Value).ownBlock) ∧ some k_ ≠ (.slice Ao25 t1018.length co25 : Value).ownBlock) ∧ some k_ ≠ (.slice Ao29 t1047.length co29 : Value).ownBlock) ∧ some k_ ≠ (.slice Ao33 t1048.length co33 : Value).ownBlock) ∧ some k_ ≠ (.slice Ao36 t1030.length co36 : Value).ownBlock) ∧ some k_ ≠ (.slice Ao41 t1033.length co41 : Value).ownBlock) ∧ some k_ ≠ (.slice Ao121 t1054.length co121 : Value).ownBlock) ∧ some k_ ≠ (.slice Ao122 t1057.length co122 : Value).ownBlock)) (n := t1063.length) (c := co131) ?_).2.2; exact (Sh.rl (Kd.R_mono (Kd.R_far (p := ⟨gb1067, 1, none⟩) (Kd.R_far (p := ⟨gb1067, 0, none⟩) (Kd.R_types HO1065.out BK1067.out (by decide)) (fun _ hk => hk.2) (.slice Ao125 t1060.length co125)) (fun _ hk => hk.2) (.slice Ao131 t1063.length co131)) (fun _ h_ => h_.1)))); (case side4 => exact (Kd.R_reads' HO1065.out).2.1); (case side5 => refine (Kd.R_reads' (e := 3) (base := w.heap.size) (ok := fun k_ => (((((some k_ ≠ (.slice Ao25 t1018.length co25 : Value).ownBlock ∧ (some k_ ≠ (.slice Ao29 t1047.length co29 : Value).ownBlock ∧ (some k_ ≠ (.slice Ao33 t1048.length co33 : Value).ownBlock ∧ (some k_ ≠ (.slice Ao36 t1030.length co36 : Value).ownBlock ∧ some k_ ≠ (.slice Ao41 t1033.length co41 : Value).ownBlock)))) ∧ some k_ ≠ (.slice Ao121 t1054.length co121 : Value).ownBlock) ∧ some k_ ≠ (.slice Ao122 t1057.length co122 : Value).ownBlock) ∧ some k_ ≠ (.slice Ao125 t1060.length co125 : Value).ownBlock) ∧ some k_ ≠ (.slice Ao131 t1063.length co131 : Value).ownBlock)) (n := t1015.length) (c := co22) ?_).2.2; exact (Sh.rl (Kd.R_mono (Kd.R_far (p := ⟨gb1067, 1, none⟩) (Kd.R_far (p := ⟨gb1067, 0, none⟩) (Kd.R_types HO_1023000.out BK1067.out (by decide)) (fun _ hk => hk.2) (.slice Ao125 t1060.length co125)) (fun _ hk => hk.2) (.slice Ao131 t1063.length co131)) (fun _ h_ => h_.1)))); (case side6 => exact (Kd.R_reads' HO_1023000.out).2.1); (case side7 => refine (Kd.R_reads' (e := 3) (base := w.heap.size) (ok := fun k_ => (((((some k_ ≠ (.slice Ao22 t1015.length co22 : Value).ownBlock ∧ (some k_ ≠ (.slice Ao29 t1047.length co29 : Value).ownBlock ∧ (some k_ ≠ (.slice Ao33 t1048.length co33 : Value).ownBlock ∧ (some k_ ≠ (.slice Ao36 t1030.length co36 : Value).ownBlock ∧ some k_ ≠ (.slice Ao41 t1033.length co41 : Value).ownBlock)))) ∧ some k_ ≠ (.slice Ao121 t1054.length co121 : Value).ownBlock) ∧ some k_ ≠ (.slice Ao122 t1057.length co122 : Value).ownBlock) ∧ some k_ ≠ (.slice Ao125 t1060.length co125 : Value).ownBlock) ∧ some k_ ≠ (.slice Ao131 t1063.length co131 : Value).ownBlock)) (n := t1018.length) (c := co25) ?_).2.2; exact (Sh.rl (Kd.R_mono (Kd.R_far (p := ⟨gb1067, 1, none⟩) (Kd.R_far (p := ⟨gb1067, 0, none⟩) (Kd.R_types HO_1023001.out BK1067.out (by decide)) (fun _ hk => hk.2) (.slice Ao125 t1060.length co125)) (fun _ hk => hk.2) (.slice Ao131 t1063.length co131)) (fun _ h_ => h_.1)))); (case side8 => exact (Kd.R_reads' HO_1023001.out).2.1); rintro e w143 ⟨rfl, hb⟩; refine ⟨_, rfl, ?_⟩; replace HO_1023000 := am_ (Kd.R_below (Sh.rl (Kd.R_mono (Kd.R_far (p := ⟨gb1067, 1, none⟩) (Kd.R_far (p := ⟨gb1067, 0, none⟩) (Kd.R_types HO_1023000.out BK1067.out (by decide)) (fun _ hk => hk.2) (.slice Ao125 t1060.length co125)) (fun _ hk => hk.2) (.slice Ao131 t1063.length co131)) (fun _ h_ => h_.1))) hb); replace HO_1023001 := am_ (Kd.R_below (Sh.rl (Kd.R_mono (Kd.R_far (p := ⟨gb1067, 1, none⟩) (Kd.R_far (p := ⟨gb1067, 0, none⟩) (Kd.R_types HO_1023001.out BK1067.out (by decide)) (fun _ hk => hk.2) (.slice Ao125 t1060.length co125)) (fun _ hk => hk.2) (.slice Ao131 t1063.length co131)) (fun _ h_ => h_.1))) hb); replace HO_1030000 := am_ (Kd.R_below (Sh.rl (Kd.R_mono (Kd.R_far (p := ⟨gb1067, 1, none⟩) (Kd.R_far (p := ⟨gb1067, 0, none⟩) (Kd.R_types HO_1030000.out BK1067.out (by decide)) (fun _ hk => hk.2) (.slice Ao125 t1060.length co125)) (fun _ hk => hk.2) (.slice Ao131 t1063.length co131)) (fun _ h_ => h_.1))) hb); replace HO_1030001 := am_ (Kd.R_below (Sh.rl (Kd.R_mono (Kd.R_far (p := ⟨gb1067, 1, none⟩) (Kd.R_far (p := ⟨gb1067, 0, none⟩) (Kd.R_types HO_1030001.out BK1067.out (by decide)) (fun _ hk => hk.2) (.slice Ao125 t1060.length co125)) (fun _ hk => hk.2) (.slice Ao131 t1063.length co131)) (fun _ h_ => h_.1))) hb); replace HO_1038000 := am_ (Kd.R_below (Sh.rl (Kd.R_mono (Kd.R_far (p := ⟨gb1067, 1, none⟩) (Kd.R_far (p := ⟨gb1067, 0, none⟩) (Kd.R_types HO_1038000.out BK1067.out (by decide)) (fun _ hk => hk.2) (.slice Ao125 t1060.length co125)) (fun _ hk => hk.2) (.slice Ao131 t1063.length co131)) (fun _ h_ => h_.1))) hb); replace HO_1038001 := am_ (Kd.R_below (Sh.rl (Kd.R_mono (Kd.R_far (p := ⟨gb1067, 1, none⟩) (Kd.R_far (p := ⟨gb1067, 0, none⟩) (Kd.R_types HO_1038001.out BK1067.out (by decide)) (fun _ hk => hk.2) (.slice Ao125 t1060.length co125)) (fun _ hk => hk.2) (.slice Ao131 t1063.length co131)) (fun _ h_ => h_.1))) hb); replace HO1056 := am_ (Kd.R_below (Sh.rl (Kd.R_mono (Kd.R_far (p := ⟨gb1067, 1, none⟩) (Kd.R_far (p := ⟨gb1067, 0, none⟩) (Kd.R_types HO1056.out BK1067.out (by decide)) (fun _ hk => hk.2) (.slice Ao125 t1060.length co125)) (fun _ hk => hk.2) (.slice Ao131 t1063.length co131)) (fun _ h_ => h_.1))) hb); replace HO1059 := am_ (Kd.R_below (Sh.rl (Kd.R_mono (Kd.R_far (p := ⟨gb1067, 1, none⟩) (Kd.R_far (p := ⟨gb1067, 0, none⟩) (Kd.R_types HO1059.out BK1067.out (by decide)) (fun _ hk => hk.2) (.slice Ao125 t1060.length co125)) (fun _ hk => hk.2) (.slice Ao131 t1063.length co131)) (fun _ h_ => h_.1))) hb); replace HO1062 := am_ (Kd.R_below (Sh.rl (Kd.R_mono (Kd.R_far (p := ⟨gb1067, 1, none⟩) (Kd.R_far (p := ⟨gb1067, 0, none⟩) (Kd.R_types HO1062.out BK1067.out (by decide)) (fun _ hk => hk.2) (.slice Ao125 t1060.length co125)) (fun _ hk => hk.2) (.slice Ao131 t1063.length co131)) (fun _ h_ => h_.1))) hb); replace HO1065 := am_ (Kd.R_below (Sh.rl (Kd.R_mono (Kd.R_far (p := ⟨gb1067, 1, none⟩) (Kd.R_far (p := ⟨gb1067, 0, none⟩) (Kd.R_types HO1065.out BK1067.out (by decide)) (fun _ hk => hk.2) (.slice Ao125 t1060.length co125)) (fun _ hk => hk.2) (.slice Ao131 t1063.length co131)) (fun _ h_ => h_.1))) hb); replace BK1007 := am_ (blk_below (g := gb1007) (o := .cells #[.slice A0_0 l0_0.length c0_0, .slice A0_1 l0_1.length c0_1] 35 (0, 0)) (by refine Sh.pl ?_; refine blk_far ?_ NB1007_1067.out _; refine Sh.pl ?_; refine blk_far ?_ NB1007_1067.out _; refine Sh.pl ?_; exact BK1007.out) hb); replace BK1022 := am_ (blk_below (g := gb1022) (o := .cells #[.slice Ao22 t1015.length co22, .slice Ao25 t1018.length co25] 37 (0, 0)) (by refine Sh.pl ?_; refine blk_far ?_ NB1022_1067.out _; refine Sh.pl ?_; refine blk_far ?_ NB1022_1067.out _; refine Sh.pl ?_; exact BK1022.out) hb); replace BK1029 := am_ (blk_below (g := gb1029) (o := .cells #[.slice Ao29 t1047.length co29, .slice Ao33 t1048.length co33] 37 (0, 0)) (by refine Sh.pl ?_; refine blk_far ?_ NB1029_1067.out _; refine Sh.pl ?_; refine blk_far ?_ NB1029_1067.out _; refine Sh.pl ?_; exact BK1029.out) hb); replace BK1037 := am_ (blk_below (g := gb1037) (o := .cells #[.slice Ao36 t1030.length co36, .slice Ao41 t1033.length co41] 37 (0, 0)) (by refine Sh.pl ?_; refine blk_far ?_ NB1037_1067.out _; refine Sh.pl ?_; refine blk_far ?_ NB1037_1067.out _; refine Sh.pl ?_; exact BK1037.out) hb); replace BK1067 := am_ (blk_below (g := gb1067) (o := .cells #[.slice Ao125 t1060.length co125, .slice Ao131 t1063.length co131] 37 (0, 0)) (by refine Sh.pl ?_; refine blk_put (cs := #[.slice Ao125 t1060.length co125, .slice none 0 0]) ?_ 1 _ rfl; refine Sh.pl ?_; refine blk_put (cs := #[.slice none 0 0, .slice none 0 0]) ?_ 0 _ rfl; refine Sh.pl ?_; exact BK1067.out) hb); replace HB := Sh.hb hb; (try clear hb); (try clear hb2); (try clear hk); (try clear hi)))
             go_meet
             case rel => exact ⟨_, ((t1066 != t1021)), (Sh.es), H', ⟨by have := HJ11.out; have := HJ64.out; first | omega | exact Nat.le_refl _⟩, ⟨by (try simp only [hl1030000_64]); (try simp only [hl1030001_64]); (with_reducible repeat (first | apply Kd.R_alloc | apply Kd.R_drewN | apply Kd.R_drew)); exact Kd.R_mono HO_1023000.out (fun _ h => ⟨h.1.1.1.1.1, h.1.1.1.1.2.1, h.1.1.1.1.2.2.1, h.1.1.1.1.2.2.2.1, h.1.1.1.1.2.2.2.2, h.1.2, h.2⟩)⟩, ⟨by (try simp only [hl1030000_64]); (try simp only [hl1030001_64]); (with_reducible repeat (first | apply Kd.R_alloc | apply Kd.R_drewN | apply Kd.R_drew)); exact Kd.R_mono HO_1023001.out (fun _ h => ⟨h.1.1.1.1.1, h.1.1.1.1.2.1, h.1.1.1.1.2.2.1, h.1.1.1.1.2.2.2.1, h.1.1.1.1.2.2.2.2, h.1.2, h.2⟩)⟩, ⟨by (try simp only [hl1030000_64]); (try simp only [hl1030001_64]); (with_reducible repeat (first | apply Kd.R_alloc | apply Kd.R_drewN | apply Kd.R_drew)); exact Kd.R_mono HO_1030000.out (fun _ h => ⟨h.1.1.1.1.1, h.1.1.1.1.2.1, h.1.1.1.1.2.2.1, h.1.1.1.1.2.2.2.1, h.1.1.1.1.2.2.2.2, h.1.2, h.2⟩)⟩, ⟨by (try simp only [hl1030000_64]); (try simp only [hl1030001_64]); (with_reducible repeat (first | apply Kd.R_alloc | apply Kd.R_drewN | apply Kd.R_drew)); exact Kd.R_mono HO_1030001.out (fun _ h => ⟨h.1.1.1.1.1, h.1.1.1.1.2.1, h.1.1.1.1.2.2.1, h.1.1.1.1.2.2.2.1, h.1.1.1.1.2.2.2.2, h.1.2, h.2⟩)⟩, ⟨by (try simp only [hl1030000_64]); (try simp only [hl1030001_64]); (with_reducible repeat (first | apply Kd.R_alloc | apply Kd.R_drewN | apply Kd.R_drew)); exact Kd.R_mono HO_1038000.out (fun _ h => ⟨h.1.1.1.1.1, h.1.1.1.1.2.1, h.1.1.1.1.2.2.1, h.1.1.1.1.2.2.2.1, h.1.1.1.1.2.2.2.2, h.1.2, h.2⟩)⟩, ⟨by (try simp only [hl1030000_64]); (try simp only [hl1030001_64]); (with_reducible repeat (first | apply Kd.R_alloc | apply Kd.R_drewN | apply Kd.R_drew)); exact Kd.R_mono HO_1038001.out (fun _ h => ⟨h.1.1.1.1.1, h.1.1.1.1.2.1, h.1.1.1.1.2.2.1, h.1.1.1.1.2.2.2.1, h.1.1.1.1.2.2.2.2, h.1.2, h.2⟩)⟩, ⟨by (try simp only [hl1030000_64]); (try simp only [hl1030001_64]); (with_reducible repeat (first | apply Kd.R_alloc | apply Kd.R_drewN | apply Kd.R_drew)); exact Kd.R_mono HO1062.out (fun _ h => ⟨h.1.1.1.1.1.1.1.2, h.1.1.1.1.1.1.2, h.1.1.1.1.1.2, h.1.1.1.1.2, h.1.1.1.2, h.1.1.2, h.1.1.1.1.1.1.1.1⟩)⟩, ⟨by (try simp only [hl1030000_64]); (try simp only [hl1030001_64]); (with_reducible repeat (first | apply Kd.R_alloc | apply Kd.R_drewN | apply Kd.R_drew)); exact Kd.R_mono HO1065.out (fun _ h => ⟨h.1.1.1.1.1.1.1.2, h.1.1.1.1.1.1.2, h.1.1.1.1.1.2, h.1.1.1.1.2, h.1.1.1.2, h.1.1.2, h.1.1.1.1.1.1.1.1⟩)⟩, ⟨by (try simp only [hl1030000_64]); (try simp only [hl1030001_64]); refine Sh.pl ?_; exact BK1007.out⟩, ⟨by (try simp only [hl1030000_64]); (try simp only [hl1030001_64]); refine Sh.pl ?_; exact BK1022.out⟩, ⟨by (try simp only [hl1030000_64]); (try simp only [hl1030001_64]); refine Sh.pl ?_; exact BK1029.out⟩, ⟨by (try simp only [hl1030000_64]); (try simp only [hl1030001_64]); refine Sh.pl ?_; exact BK1037.out⟩, ⟨by (try simp only [hl1030000_64]); (try simp only [hl1030001_64]); refine Sh.pl ?_; exact BK1067.out⟩, ⟨Sh.bw⟩⟩
            ·replace c133 := Bool.eq_false_iff.mpr c133
             subst c133
             rw [Sh.nf] at H
             have H' := am_ H
             clear H
             have hnb144 := NB1067_1007.out
             have hnc144 := NB1007_1067.out
             have hnb145 := NB1067_1022.out
             have hnc145 := NB1022_1067.out
             have hnb146 := NB1067_1029.out
             have hnc146 := NB1029_1067.out
             have hnb147 := NB1067_1037.out
             have hnc147 := NB1037_1067.out
             have hcz148_0 := Sh.bc BK1067.out 0
             have hcz148_1 := Sh.bc BK1067.out 1
             have hfz148_0 := blk_frozen BK1067.out 0
             have hfz148_1 := blk_frozen BK1067.out 1
             have hnb149 := NB1022_1007.out
             have hnc149 := NB1007_1022.out
             have hnb150 := NB1022_1029.out
             have hnc150 := NB1029_1022.out
             have hnb151 := NB1022_1037.out
             have hnc151 := NB1037_1022.out
             have hcz152_0 := Sh.bc BK1022.out 0
             have hcz152_1 := Sh.bc BK1022.out 1
             have hfz152_0 := blk_frozen BK1022.out 0
             have hfz152_1 := blk_frozen BK1022.out 1
             go_wp2_with (first | ((with_reducible refine Sh.k 23 ?_); refine Sh.gL (some 86) Try.func23 #[.agg #[.slice Ao125 t1060.length co125, .slice Ao131 t1063.length co131], .agg #[.slice Ao22 t1015.length co22, .slice Ao25 t1018.length co25]] (h := ?_); (with_reducible refine (laws_eqLasso.calls kj64 _ _ t1060 _ _ t1063 _ _ t1015 _ _ t1018 false _ ?side1 ?side2 ?side3 ?side4 ?side5 ?side6 ?side7 ?side8 A132.out).mono ?_); (case side1 => refine (Kd.R_reads' (e := 3) (base := w.heap.size) (ok := fun k_ => ((((((((some k_ ≠ (.slice Ao131 t1063.length co131 : Value).ownBlock ∧ some k_ ≠ (.slice Ao22 t1015.length co22 : Value).ownBlock) ∧ some k_ ≠ (.slice Ao25 t1018.length co25 : Value).ownBlock) ∧ some k_ ≠ (.slice Ao29 t1047.length co29 : Value).ownBlock) ∧ some k_ ≠ (.slice Ao33 t1048.length co33 : Value).ownBlock) ∧ some k_ ≠ (.slice Ao36 t1030.length co36 : Value).ownBlock) ∧ some k_ ≠ (.slice Ao41 t1033.length co41 : Value).ownBlock) ∧ some k_ ≠ (.slice Ao121 t1054.length co121 : Value).ownBlock) ∧ some k_ ≠ (.slice Ao122 t1057.length co122 : Value).ownBlock)) (n := t1060.length) (c := co125) ?_).2.2; exact (Sh.rl (Kd.R_mono (Kd.R_far (p := ⟨gb1067, 1, none⟩) (Kd.R_far (p := ⟨gb1067, 0, none⟩) (Kd.R_types HO1062.out BK1067.out (by decide)) (fun _ hk => hk.2) (.slice Ao125 t1060.length co125)) (fun _ hk => hk.2) (.slice Ao131 t1063.length co131)) (fun _ h_ => h_.1)))); (case side2 => exact (Kd.R_reads' HO1062.out).2.1); (case side3 => refine (Kd.R_reads' (e := 3) (base := w.heap.size) (ok := fun k_ => ((((((((some k_ ≠ (.slice Ao125 t1060.length co125 : Value).ownBlock ∧ some k_ ≠ (.slice Ao22 t1015.length co22 : Value).ownBlock) ∧ some k_ ≠ (.slice Ao25 t1018.length co25 : Value).ownBlock) ∧ some k_ ≠ (.slice Ao29 t1047.length co29 : Value).ownBlock) ∧ some k_ ≠ (.slice Ao33 t1048.length co33 : Value).ownBlock) ∧ some k_ ≠ (.slice Ao36 t1030.length co36 : Value).ownBlock) ∧ some k_ ≠ (.slice Ao41 t1033.length co41 : Value).ownBlock) ∧ some k_ ≠ (.slice Ao121 t1054.length co121 : Value).ownBlock) ∧ some k_ ≠ (.slice Ao122 t1057.length co122 : Value).ownBlock)) (n := t1063.length) (c := co131) ?_).2.2; exact (Sh.rl (Kd.R_mono (Kd.R_far (p := ⟨gb1067, 1, none⟩) (Kd.R_far (p := ⟨gb1067, 0, none⟩) (Kd.R_types HO1065.out BK1067.out (by decide)) (fun _ hk => hk.2) (.slice Ao125 t1060.length co125)) (fun _ hk => hk.2) (.slice Ao131 t1063.length co131)) (fun _ h_ => h_.1)))); (case side4 => exact (Kd.R_reads' HO1065.out).2.1); (case side5 => refine (Kd.R_reads' (e := 3) (base := w.heap.size) (ok := fun k_ => (((((some k_ ≠ (.slice Ao25 t1018.length co25 : Value).ownBlock ∧ (some k_ ≠ (.slice Ao29 t1047.length co29 : Value).ownBlock ∧ (some k_ ≠ (.slice Ao33 t1048.length co33 : Value).ownBlock ∧ (some k_ ≠ (.slice Ao36 t1030.length co36 : Value).ownBlock ∧ some k_ ≠ (.slice Ao41 t1033.length co41 : Value).ownBlock)))) ∧ some k_ ≠ (.slice Ao121 t1054.length co121 : Value).ownBlock) ∧ some k_ ≠ (.slice Ao122 t1057.length co122 : Value).ownBlock) ∧ some k_ ≠ (.slice Ao125 t1060.length co125 : Value).ownBlock) ∧ some k_ ≠ (.slice Ao131 t1063.length co131 : Value).ownBlock)) (n := t1015.length) (c := co22) ?_).2.2; exact (Sh.rl (Kd.R_mono (Kd.R_far (p := ⟨gb1067, 1, none⟩) (Kd.R_far (p := ⟨gb1067, 0, none⟩) (Kd.R_types HO_1023000.out BK1067.out (by decide)) (fun _ hk => hk.2) (.slice Ao125 t1060.length co125)) (fun _ hk => hk.2) (.slice Ao131 t1063.length co131)) (fun _ h_ => h_.1)))); (case side6 => exact (Kd.R_reads' HO_1023000.out).2.1); (case side7 => refine (Kd.R_reads' (e := 3) (base := w.heap.size) (ok := fun k_ => (((((some k_ ≠ (.slice Ao22 t1015.length co22 : Value).ownBlock ∧ (some k_ ≠ (.slice Ao29 t1047.length co29 : Value).ownBlock ∧ (some k_ ≠ (.slice Ao33 t1048.length co33 : Value).ownBlock ∧ (some k_ ≠ (.slice Ao36 t1030.length co36 : Value).ownBlock ∧ some k_ ≠ (.slice Ao41 t1033.length co41 : Value).ownBlock)))) ∧ some k_ ≠ (.slice Ao121 t1054.length co121 : Value).ownBlock) ∧ some k_ ≠ (.slice Ao122 t1057.length co122 : Value).ownBlock) ∧ some k_ ≠ (.slice Ao125 t1060.length co125 : Value).ownBlock) ∧ some k_ ≠ (.slice Ao131 t1063.length co131 : Value).ownBlock)) (n := t1018.length) (c := co25) ?_).2.2; exact (Sh.rl (Kd.R_mono (Kd.R_far (p := ⟨gb1067, 1, none⟩) (Kd.R_far (p := ⟨gb1067, 0, none⟩) (Kd.R_types HO_1023001.out BK1067.out (by decide)) (fun _ hk => hk.2) (.slice Ao125 t1060.length co125)) (fun _ hk => hk.2) (.slice Ao131 t1063.length co131)) (fun _ h_ => h_.1)))); (case side8 => exact (Kd.R_reads' HO_1023001.out).2.1); rintro e w153 ⟨rfl, hb⟩; refine ⟨_, rfl, ?_⟩; replace HO_1023000 := am_ (Kd.R_below (Sh.rl (Kd.R_mono (Kd.R_far (p := ⟨gb1067, 1, none⟩) (Kd.R_far (p := ⟨gb1067, 0, none⟩) (Kd.R_types HO_1023000.out BK1067.out (by decide)) (fun _ hk => hk.2) (.slice Ao125 t1060.length co125)) (fun _ hk => hk.2) (.slice Ao131 t1063.length co131)) (fun _ h_ => h_.1))) hb); replace HO_1023001 := am_ (Kd.R_below (Sh.rl (Kd.R_mono (Kd.R_far (p := ⟨gb1067, 1, none⟩) (Kd.R_far (p := ⟨gb1067, 0, none⟩) (Kd.R_types HO_1023001.out BK1067.out (by decide)) (fun _ hk => hk.2) (.slice Ao125 t1060.length co125)) (fun _ hk => hk.2) (.slice Ao131 t1063.length co131)) (fun _ h_ => h_.1))) hb); replace HO_1030000 := am_ (Kd.R_below (Sh.rl (Kd.R_mono (Kd.R_far (p := ⟨gb1067, 1, none⟩) (Kd.R_far (p := ⟨gb1067, 0, none⟩) (Kd.R_types HO_1030000.out BK1067.out (by decide)) (fun _ hk => hk.2) (.slice Ao125 t1060.length co125)) (fun _ hk => hk.2) (.slice Ao131 t1063.length co131)) (fun _ h_ => h_.1))) hb); replace HO_1030001 := am_ (Kd.R_below (Sh.rl (Kd.R_mono (Kd.R_far (p := ⟨gb1067, 1, none⟩) (Kd.R_far (p := ⟨gb1067, 0, none⟩) (Kd.R_types HO_1030001.out BK1067.out (by decide)) (fun _ hk => hk.2) (.slice Ao125 t1060.length co125)) (fun _ hk => hk.2) (.slice Ao131 t1063.length co131)) (fun _ h_ => h_.1))) hb); replace HO_1038000 := am_ (Kd.R_below (Sh.rl (Kd.R_mono (Kd.R_far (p := ⟨gb1067, 1, none⟩) (Kd.R_far (p := ⟨gb1067, 0, none⟩) (Kd.R_types HO_1038000.out BK1067.out (by decide)) (fun _ hk => hk.2) (.slice Ao125 t1060.length co125)) (fun _ hk => hk.2) (.slice Ao131 t1063.length co131)) (fun _ h_ => h_.1))) hb); replace HO_1038001 := am_ (Kd.R_below (Sh.rl (Kd.R_mono (Kd.R_far (p := ⟨gb1067, 1, none⟩) (Kd.R_far (p := ⟨gb1067, 0, none⟩) (Kd.R_types HO_1038001.out BK1067.out (by decide)) (fun _ hk => hk.2) (.slice Ao125 t1060.length co125)) (fun _ hk => hk.2) (.slice Ao131 t1063.length co131)) (fun _ h_ => h_.1))) hb); replace HO1056 := am_ (Kd.R_below (Sh.rl (Kd.R_mono (Kd.R_far (p := ⟨gb1067, 1, none⟩) (Kd.R_far (p := ⟨gb1067, 0, none⟩) (Kd.R_types HO1056.out BK1067.out (by decide)) (fun _ hk => hk.2) (.slice Ao125 t1060.length co125)) (fun _ hk => hk.2) (.slice Ao131 t1063.length co131)) (fun _ h_ => h_.1))) hb); replace HO1059 := am_ (Kd.R_below (Sh.rl (Kd.R_mono (Kd.R_far (p := ⟨gb1067, 1, none⟩) (Kd.R_far (p := ⟨gb1067, 0, none⟩) (Kd.R_types HO1059.out BK1067.out (by decide)) (fun _ hk => hk.2) (.slice Ao125 t1060.length co125)) (fun _ hk => hk.2) (.slice Ao131 t1063.length co131)) (fun _ h_ => h_.1))) hb); replace HO1062 := am_ (Kd.R_below (Sh.rl (Kd.R_mono (Kd.R_far (p := ⟨gb1067, 1, none⟩) (Kd.R_far (p := ⟨gb1067, 0, none⟩) (Kd.R_types HO1062.out BK1067.out (by decide)) (fun _ hk => hk.2) (.slice Ao125 t1060.length co125)) (fun _ hk => hk.2) (.slice Ao131 t1063.length co131)) (fun _ h_ => h_.1))) hb); replace HO1065 := am_ (Kd.R_below (Sh.rl (Kd.R_mono (Kd.R_far (p := ⟨gb1067, 1, none⟩) (Kd.R_far (p := ⟨gb1067, 0, none⟩) (Kd.R_types HO1065.out BK1067.out (by decide)) (fun _ hk => hk.2) (.slice Ao125 t1060.length co125)) (fun _ hk => hk.2) (.slice Ao131 t1063.length co131)) (fun _ h_ => h_.1))) hb); replace BK1007 := am_ (blk_below (g := gb1007) (o := .cells #[.slice A0_0 l0_0.length c0_0, .slice A0_1 l0_1.length c0_1] 35 (0, 0)) (by refine Sh.pl ?_; refine blk_far ?_ NB1007_1067.out _; refine Sh.pl ?_; refine blk_far ?_ NB1007_1067.out _; refine Sh.pl ?_; exact BK1007.out) hb); replace BK1022 := am_ (blk_below (g := gb1022) (o := .cells #[.slice Ao22 t1015.length co22, .slice Ao25 t1018.length co25] 37 (0, 0)) (by refine Sh.pl ?_; refine blk_far ?_ NB1022_1067.out _; refine Sh.pl ?_; refine blk_far ?_ NB1022_1067.out _; refine Sh.pl ?_; exact BK1022.out) hb); replace BK1029 := am_ (blk_below (g := gb1029) (o := .cells #[.slice Ao29 t1047.length co29, .slice Ao33 t1048.length co33] 37 (0, 0)) (by refine Sh.pl ?_; refine blk_far ?_ NB1029_1067.out _; refine Sh.pl ?_; refine blk_far ?_ NB1029_1067.out _; refine Sh.pl ?_; exact BK1029.out) hb); replace BK1037 := am_ (blk_below (g := gb1037) (o := .cells #[.slice Ao36 t1030.length co36, .slice Ao41 t1033.length co41] 37 (0, 0)) (by refine Sh.pl ?_; refine blk_far ?_ NB1037_1067.out _; refine Sh.pl ?_; refine blk_far ?_ NB1037_1067.out _; refine Sh.pl ?_; exact BK1037.out) hb); replace BK1067 := am_ (blk_below (g := gb1067) (o := .cells #[.slice Ao125 t1060.length co125, .slice Ao131 t1063.length co131] 37 (0, 0)) (by refine Sh.pl ?_; refine blk_put (cs := #[.slice Ao125 t1060.length co125, .slice none 0 0]) ?_ 1 _ rfl; refine Sh.pl ?_; refine blk_put (cs := #[.slice none 0 0, .slice none 0 0]) ?_ 0 _ rfl; refine Sh.pl ?_; exact BK1067.out) hb); replace HB := Sh.hb hb; (try clear hb); (try clear hb2); (try clear hk); (try clear hi)))
             go_meet
             case rel => exact ⟨_, (true), (Sh.es), H', ⟨by have := HJ11.out; have := HJ64.out; first | omega | exact Nat.le_refl _⟩, ⟨by (try simp only [hl1030000_64]); (try simp only [hl1030001_64]); (with_reducible repeat (first | apply Kd.R_alloc | apply Kd.R_drewN | apply Kd.R_drew)); exact Kd.R_mono HO_1023000.out (fun _ h => ⟨h.1.1.1.1.1, h.1.1.1.1.2.1, h.1.1.1.1.2.2.1, h.1.1.1.1.2.2.2.1, h.1.1.1.1.2.2.2.2, h.1.2, h.2⟩)⟩, ⟨by (try simp only [hl1030000_64]); (try simp only [hl1030001_64]); (with_reducible repeat (first | apply Kd.R_alloc | apply Kd.R_drewN | apply Kd.R_drew)); exact Kd.R_mono HO_1023001.out (fun _ h => ⟨h.1.1.1.1.1, h.1.1.1.1.2.1, h.1.1.1.1.2.2.1, h.1.1.1.1.2.2.2.1, h.1.1.1.1.2.2.2.2, h.1.2, h.2⟩)⟩, ⟨by (try simp only [hl1030000_64]); (try simp only [hl1030001_64]); (with_reducible repeat (first | apply Kd.R_alloc | apply Kd.R_drewN | apply Kd.R_drew)); exact Kd.R_mono HO_1030000.out (fun _ h => ⟨h.1.1.1.1.1, h.1.1.1.1.2.1, h.1.1.1.1.2.2.1, h.1.1.1.1.2.2.2.1, h.1.1.1.1.2.2.2.2, h.1.2, h.2⟩)⟩, ⟨by (try simp only [hl1030000_64]); (try simp only [hl1030001_64]); (with_reducible repeat (first | apply Kd.R_alloc | apply Kd.R_drewN | apply Kd.R_drew)); exact Kd.R_mono HO_1030001.out (fun _ h => ⟨h.1.1.1.1.1, h.1.1.1.1.2.1, h.1.1.1.1.2.2.1, h.1.1.1.1.2.2.2.1, h.1.1.1.1.2.2.2.2, h.1.2, h.2⟩)⟩, ⟨by (try simp only [hl1030000_64]); (try simp only [hl1030001_64]); (with_reducible repeat (first | apply Kd.R_alloc | apply Kd.R_drewN | apply Kd.R_drew)); exact Kd.R_mono HO_1038000.out (fun _ h => ⟨h.1.1.1.1.1, h.1.1.1.1.2.1, h.1.1.1.1.2.2.1, h.1.1.1.1.2.2.2.1, h.1.1.1.1.2.2.2.2, h.1.2, h.2⟩)⟩, ⟨by (try simp only [hl1030000_64]); (try simp only [hl1030001_64]); (with_reducible repeat (first | apply Kd.R_alloc | apply Kd.R_drewN | apply Kd.R_drew)); exact Kd.R_mono HO_1038001.out (fun _ h => ⟨h.1.1.1.1.1, h.1.1.1.1.2.1, h.1.1.1.1.2.2.1, h.1.1.1.1.2.2.2.1, h.1.1.1.1.2.2.2.2, h.1.2, h.2⟩)⟩, ⟨by (try simp only [hl1030000_64]); (try simp only [hl1030001_64]); (with_reducible repeat (first | apply Kd.R_alloc | apply Kd.R_drewN | apply Kd.R_drew)); exact Kd.R_mono HO1062.out (fun _ h => ⟨h.1.1.1.1.1.1.1.2, h.1.1.1.1.1.1.2, h.1.1.1.1.1.2, h.1.1.1.1.2, h.1.1.1.2, h.1.1.2, h.1.1.1.1.1.1.1.1⟩)⟩, ⟨by (try simp only [hl1030000_64]); (try simp only [hl1030001_64]); (with_reducible repeat (first | apply Kd.R_alloc | apply Kd.R_drewN | apply Kd.R_drew)); exact Kd.R_mono HO1065.out (fun _ h => ⟨h.1.1.1.1.1.1.1.2, h.1.1.1.1.1.1.2, h.1.1.1.1.1.2, h.1.1.1.1.2, h.1.1.1.2, h.1.1.2, h.1.1.1.1.1.1.1.1⟩)⟩, ⟨by (try simp only [hl1030000_64]); (try simp only [hl1030001_64]); refine Sh.pl ?_; exact BK1007.out⟩, ⟨by (try simp only [hl1030000_64]); (try simp only [hl1030001_64]); refine Sh.pl ?_; exact BK1022.out⟩, ⟨by (try simp only [hl1030000_64]); (try simp only [hl1030001_64]); refine Sh.pl ?_; exact BK1029.out⟩, ⟨by (try simp only [hl1030000_64]); (try simp only [hl1030001_64]); refine Sh.pl ?_; exact BK1037.out⟩, ⟨by (try simp only [hl1030000_64]); (try simp only [hl1030001_64]); refine Sh.pl ?_; exact BK1067.out⟩, ⟨Sh.bw⟩⟩
           case rest =>
            clear HC109
            try clear hcz102_0
            try clear hcz102_1
            try clear hcz104_0
            try clear hcz104_1
            try clear hcz113_0
            try clear hcz113_1
            try clear hcz115_0
            try clear hcz115_1
            try clear hcz119_0
            try clear hcz119_1
            try clear hcz130_0
            try clear hcz130_1
            try clear hcz138_0
            try clear hcz138_1
            try clear hcz142_0
            try clear hcz142_1
            try clear hcz148_0
            try clear hcz148_1
            try clear hcz14_0
            try clear hcz14_1
            try clear hcz152_0
            try clear hcz152_1
            try clear hcz16_0
            try clear hcz16_1
            try clear hcz24_0
            try clear hcz24_1
            try clear hcz26_0
            try clear hcz26_1
            try clear hcz32_0
            try clear hcz32_1
            try clear hcz40_0
            try clear hcz40_1
            try clear hcz47_0
            try clear hcz47_1
            try clear hcz50_0
            try clear hcz50_1
            try clear hcz55_0
            try clear hcz55_1
            try clear hcz58_0
            try clear hcz58_1
            try clear hcz6_0
            try clear hcz6_1
            try clear hcz74_0
            try clear hcz74_1
            try clear hcz82_0
            try clear hcz82_1
            try clear hcz85_0
            try clear hcz85_1
            try clear hcz90_0
            try clear hcz90_1
            try clear hcz93_0
            try clear hcz93_1
            try clear hfz102_0
            try clear hfz102_1
            try clear hfz104_0
            try clear hfz104_1
            try clear hfz113_0
            try clear hfz113_1
            try clear hfz115_0
            try clear hfz115_1
            try clear hfz119_0
            try clear hfz119_1
            try clear hfz130_0
            try clear hfz130_1
            try clear hfz138_0
            try clear hfz138_1
            try clear hfz142_0
            try clear hfz142_1
            try clear hfz148_0
            try clear hfz148_1
            try clear hfz14_0
            try clear hfz14_1
            try clear hfz152_0
            try clear hfz152_1
            try clear hfz16_0
            try clear hfz16_1
            try clear hfz24_0
            try clear hfz24_1
            try clear hfz26_0
            try clear hfz26_1
            try clear hfz32_0
            try clear hfz32_1
            try clear hfz40_0
            try clear hfz40_1
            try clear hfz47_0
            try clear hfz47_1
            try clear hfz50_0
            try clear hfz50_1
            try clear hfz55_0
            try clear hfz55_1
            try clear hfz58_0
            try clear hfz58_1
            try clear hfz6_0
            try clear hfz6_1
            try clear hfz74_0
            try clear hfz74_1
            try clear hfz82_0
            try clear hfz82_1
            try clear hfz85_0
            try clear hfz85_1
            try clear hfz90_0
            try clear hfz90_1
            try clear hfz93_0
            try clear hfz93_1
            obtain ⟨kq, x92_108, rfl, HA, HJ108, HO_1023000, HO_1023001, HO_1030000, HO_1030001, HO_1038000, HO_1038001, HO_1068000, HO_1068001, BK1007, BK1022, BK1029, BK1037, BK1067, HB⟩ := hcut
            have hl1038000_108 := (Kd.R_reads' HO_1038000.out).1
            rw [hl1038000_108] at HO_1038000
            (try simp only [hl1038000_108])
            (try simp only [hl1038000_108] at BK1007)
            (try simp only [hl1038000_108] at BK1022)
            (try simp only [hl1038000_108] at BK1029)
            (try simp only [hl1038000_108] at BK1037)
            (try simp only [hl1038000_108] at BK1067)
            (try simp only [hl1038000_108] at HO_1023000)
            (try simp only [hl1038000_108] at HO_1023001)
            (try simp only [hl1038000_108] at HO_1030000)
            (try simp only [hl1038000_108] at HO_1030001)
            (try simp only [hl1038000_108] at HO_1038001)
            (try simp only [hl1038000_108] at HO_1068000)
            (try simp only [hl1038000_108] at HO_1068001)
            have hl1038001_108 := (Kd.R_reads' HO_1038001.out).1
            rw [hl1038001_108] at HO_1038001
            (try simp only [hl1038001_108])
            (try simp only [hl1038001_108] at BK1007)
            (try simp only [hl1038001_108] at BK1022)
            (try simp only [hl1038001_108] at BK1029)
            (try simp only [hl1038001_108] at BK1037)
            (try simp only [hl1038001_108] at BK1067)
            (try simp only [hl1038001_108] at HO_1023000)
            (try simp only [hl1038001_108] at HO_1023001)
            (try simp only [hl1038001_108] at HO_1030000)
            (try simp only [hl1038001_108] at HO_1030001)
            (try simp only [hl1038001_108] at HO_1038000)
            (try simp only [hl1038001_108] at HO_1068000)
            (try simp only [hl1038001_108] at HO_1068001)
            cases kq with
            | zero => exact absurd HA.out (by simp [laws_FnExactStutterAt.j2])
            | succ kj108 =>
             have H := HA.out
             clear HA
             simp only [laws_FnExactStutterAt.j2] at H
             by_cases c154 : x92_108 = true
             ·subst c154
              rw [if_pos rfl] at H
              obtain rfl := Option.some.inj H
              go_wp2
              go_ret
              exact ⟨Sh.eR, Sh.bw⟩
             ·replace c154 := Bool.eq_false_iff.mpr c154
              subst c154
              rw [Sh.nf] at H
              obtain ⟨t1069, A155, H⟩ := Sh.ba H
              by_cases c156 : t1069 < 0
              ·rw [if_pos c156] at H
               have c156b0 := decide_eq_true c156
               clear c156
               obtain rfl := Option.some.inj H
               have hnb157 := NB1037_1007.out
               have hnc157 := NB1007_1037.out
               have hnb158 := NB1037_1022.out
               have hnc158 := NB1022_1037.out
               have hnb159 := NB1037_1029.out
               have hnc159 := NB1029_1037.out
               have hnb160 := NB1037_1067.out
               have hnc160 := NB1067_1037.out
               have hcz161_0 := Sh.bc BK1037.out 0
               have hcz161_1 := Sh.bc BK1037.out 1
               have hfz161_0 := blk_frozen BK1037.out 0
               have hfz161_1 := blk_frozen BK1037.out 1
               go_wp2_with (first | ((with_reducible refine Sh.k 25 ?_); refine Sh.gB (some 95) Try.func25 #[.agg #[.slice Ao36 t1051.length co36, .slice Ao41 t1052.length co41], .int .i64 1] (laws_heldLasso.calls kj108 _ _ t1051 _ _ t1052 1 t1069 _ (Sh.cR (Kd.R_reads' HO_1038000.out).2.2) (Kd.R_reads' HO_1038000.out).2.1 (Sh.cR (Kd.R_reads' HO_1038001.out).2.2) (Kd.R_reads' HO_1038001.out).2.1 A155.out) fun w162 hb => ?_; replace HO_1023000 := am_ (Kd.R_below (Sh.rl HO_1023000.out) hb); replace HO_1023001 := am_ (Kd.R_below (Sh.rl HO_1023001.out) hb); replace HO_1030000 := am_ (Kd.R_below (Sh.rl HO_1030000.out) hb); replace HO_1030001 := am_ (Kd.R_below (Sh.rl HO_1030001.out) hb); replace HO_1038000 := am_ (Kd.R_below (Sh.rl HO_1038000.out) hb); replace HO_1038001 := am_ (Kd.R_below (Sh.rl HO_1038001.out) hb); replace HO_1068000 := am_ (Kd.R_below (Sh.rl HO_1068000.out) hb); replace HO_1068001 := am_ (Kd.R_below (Sh.rl HO_1068001.out) hb); replace BK1007 := Sh.ab BK1007 hb; replace BK1022 := Sh.ab BK1022 hb; replace BK1029 := Sh.ab BK1029 hb; replace BK1037 := Sh.ab BK1037 hb; replace BK1067 := Sh.ab BK1067 hb; replace HB := Sh.hb hb; (try clear hb); (try clear hb2); (try clear hk); (try clear hi)))
               go_ret
               exact ⟨Sh.eR, Sh.bw⟩
              ·rw [if_neg c156] at H
               have c156b0 := decide_eq_false c156
               clear c156
               by_cases c163 : t1069 = t1050
               ·rw [if_pos c163] at H
                have c163b0 : (t1069 == t1050) = true := beq_iff_eq.mpr c163
                have c163b1 : (t1069 != t1050) = false := bne_eq_false_iff_eq.mpr c163
                clear c163
                obtain rfl := Option.some.inj H
                have hnb164 := NB1037_1007.out
                have hnc164 := NB1007_1037.out
                have hnb165 := NB1037_1022.out
                have hnc165 := NB1022_1037.out
                have hnb166 := NB1037_1029.out
                have hnc166 := NB1029_1037.out
                have hnb167 := NB1037_1067.out
                have hnc167 := NB1067_1037.out
                have hcz168_0 := Sh.bc BK1037.out 0
                have hcz168_1 := Sh.bc BK1037.out 1
                have hfz168_0 := blk_frozen BK1037.out 0
                have hfz168_1 := blk_frozen BK1037.out 1
                go_wp2_with (first | ((with_reducible refine Sh.k 25 ?_); refine Sh.gB (some 95) Try.func25 #[.agg #[.slice Ao36 t1051.length co36, .slice Ao41 t1052.length co41], .int .i64 1] (laws_heldLasso.calls kj108 _ _ t1051 _ _ t1052 1 t1069 _ (Sh.cR (Kd.R_reads' HO_1038000.out).2.2) (Kd.R_reads' HO_1038000.out).2.1 (Sh.cR (Kd.R_reads' HO_1038001.out).2.2) (Kd.R_reads' HO_1038001.out).2.1 A155.out) fun w169 hb => ?_; replace HO_1023000 := am_ (Kd.R_below (Sh.rl HO_1023000.out) hb); replace HO_1023001 := am_ (Kd.R_below (Sh.rl HO_1023001.out) hb); replace HO_1030000 := am_ (Kd.R_below (Sh.rl HO_1030000.out) hb); replace HO_1030001 := am_ (Kd.R_below (Sh.rl HO_1030001.out) hb); replace HO_1038000 := am_ (Kd.R_below (Sh.rl HO_1038000.out) hb); replace HO_1038001 := am_ (Kd.R_below (Sh.rl HO_1038001.out) hb); replace HO_1068000 := am_ (Kd.R_below (Sh.rl HO_1068000.out) hb); replace HO_1068001 := am_ (Kd.R_below (Sh.rl HO_1068001.out) hb); replace BK1007 := Sh.ab BK1007 hb; replace BK1022 := Sh.ab BK1022 hb; replace BK1029 := Sh.ab BK1029 hb; replace BK1037 := Sh.ab BK1037 hb; replace BK1067 := Sh.ab BK1067 hb; replace HB := Sh.hb hb; (try clear hb); (try clear hb2); (try clear hk); (try clear hi)))
                go_ret
                exact ⟨Sh.eR, Sh.bw⟩
               ·rw [if_neg c163] at H
                have c163b0 : (t1069 == t1050) = false := beq_eq_false_iff_ne.mpr c163
                have c163b1 : (t1069 != t1050) = true := bne_iff_ne.mpr c163
                obtain rfl := Option.some.inj H
                have hnb170 := NB1037_1007.out
                have hnc170 := NB1007_1037.out
                have hnb171 := NB1037_1022.out
                have hnc171 := NB1022_1037.out
                have hnb172 := NB1037_1029.out
                have hnc172 := NB1029_1037.out
                have hnb173 := NB1037_1067.out
                have hnc173 := NB1067_1037.out
                have hcz174_0 := Sh.bc BK1037.out 0
                have hcz174_1 := Sh.bc BK1037.out 1
                have hfz174_0 := blk_frozen BK1037.out 0
                have hfz174_1 := blk_frozen BK1037.out 1
                go_wp2_with (first | ((with_reducible refine Sh.k 25 ?_); refine Sh.gB (some 95) Try.func25 #[.agg #[.slice Ao36 t1051.length co36, .slice Ao41 t1052.length co41], .int .i64 1] (laws_heldLasso.calls kj108 _ _ t1051 _ _ t1052 1 t1069 _ (Sh.cR (Kd.R_reads' HO_1038000.out).2.2) (Kd.R_reads' HO_1038000.out).2.1 (Sh.cR (Kd.R_reads' HO_1038001.out).2.2) (Kd.R_reads' HO_1038001.out).2.1 A155.out) fun w175 hb => ?_; replace HO_1023000 := am_ (Kd.R_below (Sh.rl HO_1023000.out) hb); replace HO_1023001 := am_ (Kd.R_below (Sh.rl HO_1023001.out) hb); replace HO_1030000 := am_ (Kd.R_below (Sh.rl HO_1030000.out) hb); replace HO_1030001 := am_ (Kd.R_below (Sh.rl HO_1030001.out) hb); replace HO_1038000 := am_ (Kd.R_below (Sh.rl HO_1038000.out) hb); replace HO_1038001 := am_ (Kd.R_below (Sh.rl HO_1038001.out) hb); replace HO_1068000 := am_ (Kd.R_below (Sh.rl HO_1068000.out) hb); replace HO_1068001 := am_ (Kd.R_below (Sh.rl HO_1068001.out) hb); replace BK1007 := Sh.ab BK1007 hb; replace BK1022 := Sh.ab BK1022 hb; replace BK1029 := Sh.ab BK1029 hb; replace BK1037 := Sh.ab BK1037 hb; replace BK1067 := Sh.ab BK1067 hb; replace HB := Sh.hb hb; (try clear hb); (try clear hb2); (try clear hk); (try clear hi)))
                go_ret
                exact ⟨Sh.eR, Sh.bw⟩
          ·rw [if_neg c106] at H
           have c106b0 : (t1053 == t1050) = false := beq_eq_false_iff_ne.mpr c106
           have c106b1 : (t1053 != t1050) = true := bne_iff_ne.mpr c106
           obtain rfl := Option.some.inj H
           have hnb176 := NB1037_1007.out
           have hnc176 := NB1007_1037.out
           have hnb177 := NB1037_1022.out
           have hnc177 := NB1022_1037.out
           have hnb178 := NB1037_1029.out
           have hnc178 := NB1029_1037.out
           have hcz179_0 := Sh.bc BK1037.out 0
           have hcz179_1 := Sh.bc BK1037.out 1
           have hfz179_0 := blk_frozen BK1037.out 0
           have hfz179_1 := blk_frozen BK1037.out 1
           go_wp2_with (first | ((with_reducible refine Sh.k 24 ?_); refine Sh.gL (some 68) Try.func24 #[.agg #[.slice Ao36 t1030.length co36, .slice Ao41 t1033.length co41], .int .i64 1] (h := ?_); (with_reducible refine (laws_markLasso.calls kj64 (fun k_ => some k_ = (.slice Ao36 t1030.length co36 : Value).ownBlock) (.slice Ao36 t1030.length co36) t1030 (fun k_ => some k_ = (.slice Ao41 t1033.length co41 : Value).ownBlock) (.slice Ao41 t1033.length co41) t1033 1 t1050 t1051 t1052 w _ ?side1 ?side2 ?side3 ?side4 ?side5 A96.out).mono ?_); (case side1 => repeat (first | (with_reducible first | exact HB.out | apply below_alloc | apply pw_below_drewN | apply below_drew1 | refine below_set ?_ GE1007.out | refine below_set ?_ GE1022.out | refine below_set ?_ GE1029.out | refine below_set ?_ GE1037.out) | exact HB.out)); (case side2 => exact Kd.R_tight rfl HO_1038000.out); (case side3 => exact fun k_ e_ => (HO_1038000.out.1 k_ e_.symm).2.2.2.2); (case side4 => exact Kd.R_tight rfl HO_1038001.out); (case side5 => exact fun k_ e_ => (HO_1038001.out.1 k_ e_.symm).2.2.2.2); rintro e w180 ⟨rfl, hy0, hy1, hb, hkp⟩; refine ⟨_, rfl, ?_⟩; replace HO_1023000 := am_ (Kd.R_mono (ok' := fun k_ => some k_ ≠ (.slice Ao25 t1018.length co25 : Value).ownBlock ∧ some k_ ≠ (.slice Ao29 t1047.length co29 : Value).ownBlock ∧ some k_ ≠ (.slice Ao33 t1048.length co33 : Value).ownBlock ∧ some k_ ≠ (.slice Ao36 t1030.length co36 : Value).ownBlock ∧ some k_ ≠ (.slice Ao41 t1033.length co41 : Value).ownBlock) (Kd.R_keptB (HO_1023000.out) hkp (fun k_ hk_ hs_ => Or.elim hs_ (fun e_ => (hk_.2.2.2.1) e_) (fun e_ => (hk_.2.2.2.2) e_))) (fun k_ h => ⟨h.1.1, h.1.2.1, h.1.2.2.1, h.1.2.2.2.1, h.1.2.2.2.2⟩)); replace HO_1023001 := am_ (Kd.R_mono (ok' := fun k_ => some k_ ≠ (.slice Ao22 t1015.length co22 : Value).ownBlock ∧ some k_ ≠ (.slice Ao29 t1047.length co29 : Value).ownBlock ∧ some k_ ≠ (.slice Ao33 t1048.length co33 : Value).ownBlock ∧ some k_ ≠ (.slice Ao36 t1030.length co36 : Value).ownBlock ∧ some k_ ≠ (.slice Ao41 t1033.length co41 : Value).ownBlock) (Kd.R_keptB (HO_1023001.out) hkp (fun k_ hk_ hs_ => Or.elim hs_ (fun e_ => (hk_.2.2.2.1) e_) (fun e_ => (hk_.2.2.2.2) e_))) (fun k_ h => ⟨h.1.1, h.1.2.1, h.1.2.2.1, h.1.2.2.2.1, h.1.2.2.2.2⟩)); replace HO_1030000 := am_ (Kd.R_mono (ok' := fun k_ => some k_ ≠ (.slice Ao22 t1015.length co22 : Value).ownBlock ∧ some k_ ≠ (.slice Ao25 t1018.length co25 : Value).ownBlock ∧ some k_ ≠ (.slice Ao33 t1048.length co33 : Value).ownBlock ∧ some k_ ≠ (.slice Ao36 t1030.length co36 : Value).ownBlock ∧ some k_ ≠ (.slice Ao41 t1033.length co41 : Value).ownBlock) (Kd.R_keptB (HO_1030000.out) hkp (fun k_ hk_ hs_ => Or.elim hs_ (fun e_ => (hk_.2.2.2.1) e_) (fun e_ => (hk_.2.2.2.2) e_))) (fun k_ h => ⟨h.1.1, h.1.2.1, h.1.2.2.1, h.1.2.2.2.1, h.1.2.2.2.2⟩)); replace HO_1030001 := am_ (Kd.R_mono (ok' := fun k_ => some k_ ≠ (.slice Ao22 t1015.length co22 : Value).ownBlock ∧ some k_ ≠ (.slice Ao25 t1018.length co25 : Value).ownBlock ∧ some k_ ≠ (.slice Ao29 t1047.length co29 : Value).ownBlock ∧ some k_ ≠ (.slice Ao36 t1030.length co36 : Value).ownBlock ∧ some k_ ≠ (.slice Ao41 t1033.length co41 : Value).ownBlock) (Kd.R_keptB (HO_1030001.out) hkp (fun k_ hk_ hs_ => Or.elim hs_ (fun e_ => (hk_.2.2.2.1) e_) (fun e_ => (hk_.2.2.2.2) e_))) (fun k_ h => ⟨h.1.1, h.1.2.1, h.1.2.2.1, h.1.2.2.2.1, h.1.2.2.2.2⟩)); replace BK1007 := am_ (blk_kept (Sh.pl BK1007.out) hkp (fun hs_ => Or.elim hs_ (fun e_ => (fun e_ => (Kd.R_ne HO_1038000.out BK1007.out (by decide)) e_) e_) (fun e_ => (fun e_ => (Kd.R_ne HO_1038001.out BK1007.out (by decide)) e_) e_))); replace BK1022 := am_ (blk_kept (Sh.pl BK1022.out) hkp (fun hs_ => Or.elim hs_ (fun e_ => (fun e_ => (Kd.R_ne HO_1038000.out BK1022.out (by decide)) e_) e_) (fun e_ => (fun e_ => (Kd.R_ne HO_1038001.out BK1022.out (by decide)) e_) e_))); replace BK1029 := am_ (blk_kept (Sh.pl BK1029.out) hkp (fun hs_ => Or.elim hs_ (fun e_ => (fun e_ => (Kd.R_ne HO_1038000.out BK1029.out (by decide)) e_) e_) (fun e_ => (fun e_ => (Kd.R_ne HO_1038001.out BK1029.out (by decide)) e_) e_))); replace BK1037 := am_ (blk_kept (Sh.pl BK1037.out) hkp (fun hs_ => Or.elim hs_ (fun e_ => (fun e_ => (Kd.R_ne HO_1038000.out BK1037.out (by decide)) e_) e_) (fun e_ => (fun e_ => (Kd.R_ne HO_1038001.out BK1037.out (by decide)) e_) e_))); replace HO_1038000 := am_ (Kd.R_reok rfl hy0 (fun k_ e_ => HO_1038000.out.1 k_ e_)); replace HO_1038001 := am_ (Kd.R_reok rfl hy1 (fun k_ e_ => HO_1038001.out.1 k_ e_)); replace HB := am_ hb; (try clear hb); (try clear hkp); (try clear hy0); (try clear hy1); obtain ⟨hcz181_0, hcz181_1, hfz181_0, hfz181_1⟩ := Sh.b2 BK1037.out) | ((with_reducible refine Sh.k 25 ?_); refine goesL_ (some 71) rfl rfl Try.func25 (by kernel_rfl) rfl #[.agg #[.slice Ao36 t1051.length co36, .slice Ao41 t1052.length co41], .int .i64 1] rfl (by (try simp only [List.map_toArray, List.map_cons, List.map_nil]); first | done | (rw [show t1051.length = t1030.length from (Kd.R_reads' HO_1038000.out).1.symm, show t1052.length = t1033.length from (Kd.R_reads' HO_1038001.out).1.symm] <;> rfl) | rfl | (simp only [List.length_drop, List.length_take]; rfl)) ?_; (with_reducible refine (laws_heldLasso.calls kj64 _ _ t1051 _ _ t1052 1 t1053 _ (Sh.cR (Kd.R_reads' HO_1038000.out).2.2) ?side2 ?side3 ?side4 A97.out).mono ?_); (case side2 => rw [show t1051.length = t1030.length from (Kd.R_reads' HO_1038000.out).1.symm]; exact (Kd.R_reads' HO_1038000.out).2.1); (case side3 => repeat (first | exact (Kd.R_reads' HO_1038001.out).2.2 | (with_reducible first | refine Kd.C_alloc ?_ _ | refine Kd.C_drewN ?_ _ | refine Kd.C_drew ?_))); (case side4 => rw [show t1052.length = t1033.length from (Kd.R_reads' HO_1038001.out).1.symm]; exact (Kd.R_reads' HO_1038001.out).2.1); rintro e w182 ⟨rfl, hb⟩; refine ⟨_, rfl, ?_⟩; replace HO_1023000 := am_ (Kd.R_below (Sh.rl HO_1023000.out) hb); replace HO_1023001 := am_ (Kd.R_below (Sh.rl HO_1023001.out) hb); replace HO_1030000 := am_ (Kd.R_below (Sh.rl HO_1030000.out) hb); replace HO_1030001 := am_ (Kd.R_below (Sh.rl HO_1030001.out) hb); replace HO_1038000 := am_ (Kd.R_below (Sh.rl HO_1038000.out) hb); replace HO_1038001 := am_ (Kd.R_below (Sh.rl HO_1038001.out) hb); replace BK1007 := Sh.ab BK1007 hb; replace BK1022 := Sh.ab BK1022 hb; replace BK1029 := Sh.ab BK1029 hb; replace BK1037 := Sh.ab BK1037 hb; replace HB := Sh.hb hb; (try clear hb); (try clear hb2); (try clear hk); (try clear hi)))
           go_ret
           exact ⟨Sh.eR, Sh.bw⟩
     ·replace c63 := Bool.eq_false_iff.mpr c63
      subst c63
      rw [Sh.nf] at H
      obtain rfl := Option.some.inj H
      try go_wp2
      replace HO_1023000 := am_ (Kd.R_drew HO_1023000.out)
      replace HO_1023001 := am_ (Kd.R_drew HO_1023001.out)
      replace HO_1030000 := am_ (Kd.R_drew HO_1030000.out)
      replace HO_1030001 := am_ (Kd.R_drew HO_1030001.out)
      replace HO_1038000 := am_ (Kd.R_drew HO_1038000.out)
      replace HO_1038001 := am_ (Kd.R_drew HO_1038001.out)
      replace BK1007 := am_ (blk_drew BK1007.out)
      replace BK1022 := am_ (blk_drew BK1022.out)
      replace BK1029 := am_ (blk_drew BK1029.out)
      replace BK1037 := am_ (blk_drew BK1037.out)
      replace HB := am_ (below_drew1 HB.out)
      refine start_ (n := 5) (S := fun w' => w'.cell? ⟨gb1029, 0, none⟩ = some (.slice Ao29 t1023.length co29) ∧ w'.cell? ⟨gb1029, 1, none⟩ = some (.slice Ao33 t1026.length co33) ∧ w'.cell? ⟨gb1007, 0, none⟩ = some (.slice A0_0 l0_0.length c0_0) ∧ w'.cell? ⟨gb1007, 1, none⟩ = some (.slice A0_1 l0_1.length c0_1)) (ds := []) (Sh.nm 5 0) (by kernel_rfl) rfl rfl Sh.cs (fun hHeld => ?_)
      generalize wc.drew = w183 at HO_1023000 HO_1023001 HO_1030000 HO_1030001 HO_1038000 HO_1038001 BK1007 BK1022 BK1029 BK1037 HB hHeld ⊢
      refine Sh.tA 0 45 (Sh.nm 5 1) (by kernel_rfl) hHeld ?_ (hy := by rintro w' ⟨s0, s1, s2, s3⟩; go_simp; with_reducible rfl)
      refine Sh.tA 1 46 (Sh.nm 5 3) (by kernel_rfl) hHeld ?_ (hy := by rintro w' ⟨s0, s1, s2, s3⟩; go_simp; with_reducible rfl)
      refine one_ (i := 2) (N := some 47) (Sh.nm 5 7) rfl rfl (by kernel_rfl) (by decide) (fun K hK => ?_)
      refine goes_ Try.func21 (by kernel_rfl) rfl #[.agg #[.slice A0_0 l0_0.length c0_0, .slice A0_1 l0_1.length c0_1]] (by rfl) rfl rfl (by (try simp only [List.map_toArray, List.map_cons, List.map_nil]); first | done | rfl | (simp only [List.length_drop, List.length_take]; rfl)) ?_
      with_reducible refine (laws_toLasso.calls kj11 _ _ l0_0 _ _ l0_1 t1039 t1042 _ (Sh.cB HR0_0.out) HC0_0.out (Sh.cB HR0_1.out) HC0_1.out A61.out).mono ?_
      rintro e w184 ⟨v1040, v1043, rfl, ho0, ho1, hb⟩
      refine ⟨_, rfl, ?_⟩
      have HO1041 := am_ (Kd.R_lower (Kd.R_new' (Kd.R_new' (Kd.R_new' (Kd.R_new' (Kd.R_new' (Kd.R_new' ho0 (Kd.R_lt (Sh.rl HO_1023000.out))) (Kd.R_lt (Sh.rl HO_1023001.out))) (Kd.R_lt (Sh.rl HO_1030000.out))) (Kd.R_lt (Sh.rl HO_1030001.out))) (Kd.R_lt (Sh.rl HO_1038000.out))) (Kd.R_lt (Sh.rl HO_1038001.out))) (below_size Sh.bw))
      have HO1044 := am_ (Kd.R_lower (Kd.R_new' (Kd.R_new' (Kd.R_new' (Kd.R_new' (Kd.R_new' (Kd.R_new' ho1 (Kd.R_lt (Sh.rl HO_1023000.out))) (Kd.R_lt (Sh.rl HO_1023001.out))) (Kd.R_lt (Sh.rl HO_1030000.out))) (Kd.R_lt (Sh.rl HO_1030001.out))) (Kd.R_lt (Sh.rl HO_1038000.out))) (Kd.R_lt (Sh.rl HO_1038001.out))) (below_size Sh.bw))
      replace HO_1023000 := am_ (Kd.R_mono (Kd.R_told (Kd.R_told (Kd.R_old (Sh.rl HO_1023000.out) hb) (Kd.R_base ho0)) (Kd.R_base ho1)) (fun _ h_ => h_.1))
      replace HO_1023001 := am_ (Kd.R_mono (Kd.R_told (Kd.R_told (Kd.R_old (Sh.rl HO_1023001.out) hb) (Kd.R_base ho0)) (Kd.R_base ho1)) (fun _ h_ => h_.1))
      replace HO_1030000 := am_ (Kd.R_mono (Kd.R_told (Kd.R_told (Kd.R_old (Sh.rl HO_1030000.out) hb) (Kd.R_base ho0)) (Kd.R_base ho1)) (fun _ h_ => h_.1))
      replace HO_1030001 := am_ (Kd.R_mono (Kd.R_told (Kd.R_told (Kd.R_old (Sh.rl HO_1030001.out) hb) (Kd.R_base ho0)) (Kd.R_base ho1)) (fun _ h_ => h_.1))
      replace HO_1038000 := am_ (Kd.R_mono (Kd.R_told (Kd.R_told (Kd.R_old (Sh.rl HO_1038000.out) hb) (Kd.R_base ho0)) (Kd.R_base ho1)) (fun _ h_ => h_.1))
      replace HO_1038001 := am_ (Kd.R_mono (Kd.R_told (Kd.R_told (Kd.R_old (Sh.rl HO_1038001.out) hb) (Kd.R_base ho0)) (Kd.R_base ho1)) (fun _ h_ => h_.1))
      replace BK1007 := Sh.ab BK1007 hb
      replace BK1022 := Sh.ab BK1022 hb
      replace BK1029 := Sh.ab BK1029 hb
      replace BK1037 := Sh.ab BK1037 hb
      replace HB := Sh.hb hb
      (try clear hb)
      (try clear hb2)
      (try clear hk)
      (try clear hi)
      (try clear ho0)
      (try clear ho1)
      obtain ⟨Ao185, co185, eo185⟩ := Kd.R_slice HO1041.out
      (first | subst eo185 | (injection eo185 with f1_ f2_ f3_; have f4_ := f1_.symm; have f5_ := f3_.symm; clear f1_ f2_ f3_; subst f4_; subst f5_))
      obtain ⟨Ao186, co186, eo186⟩ := Kd.R_slice HO1044.out
      (first | subst eo186 | (injection eo186 with f1_ f2_ f3_; have f4_ := f1_.symm; have f5_ := f3_.symm; clear f1_ f2_ f3_; subst f4_; subst f5_))
      refine Sh.kN hK Sh.cs fun hHeld => ?_
      clear hK K
      refine one_ (i := 3) (N := some 48) (Sh.nm 5 15) rfl rfl (by kernel_rfl) (by decide) (fun K hK => ?_)
      refine goes_ Try.func23 (by kernel_rfl) rfl #[.agg #[.slice Ao29 t1023.length co29, .slice Ao33 t1026.length co33], .agg #[.slice Ao185 t1039.length co185, .slice Ao186 t1042.length co186]] (by rfl) rfl rfl (by (try simp only [List.map_toArray, List.map_cons, List.map_nil]); first | done | rfl | (simp only [List.length_drop, List.length_take]; rfl)) ?_
      with_reducible refine (laws_eqLasso.calls kj11 _ _ t1023 _ _ t1026 _ _ t1039 _ _ t1042 false _ (Sh.cR (Kd.R_reads' HO_1030000.out).2.2) (Kd.R_reads' HO_1030000.out).2.1 (Sh.cR (Kd.R_reads' HO_1030001.out).2.2) (Kd.R_reads' HO_1030001.out).2.1 (Sh.cR (Kd.R_reads' HO1041.out).2.2) (Kd.R_reads' HO1041.out).2.1 (Sh.cR (Kd.R_reads' HO1044.out).2.2) (Kd.R_reads' HO1044.out).2.1 A62.out).mono ?_
      rintro e w187 ⟨rfl, hb⟩
      refine ⟨_, rfl, ?_⟩
      replace HO_1023000 := am_ (Kd.R_below (Sh.rl HO_1023000.out) hb)
      replace HO_1023001 := am_ (Kd.R_below (Sh.rl HO_1023001.out) hb)
      replace HO_1030000 := am_ (Kd.R_below (Sh.rl HO_1030000.out) hb)
      replace HO_1030001 := am_ (Kd.R_below (Sh.rl HO_1030001.out) hb)
      replace HO_1038000 := am_ (Kd.R_below (Sh.rl HO_1038000.out) hb)
      replace HO_1038001 := am_ (Kd.R_below (Sh.rl HO_1038001.out) hb)
      replace HO1041 := am_ (Kd.R_below (Sh.rl HO1041.out) hb)
      replace HO1044 := am_ (Kd.R_below (Sh.rl HO1044.out) hb)
      replace BK1007 := Sh.ab BK1007 hb
      replace BK1022 := Sh.ab BK1022 hb
      replace BK1029 := Sh.ab BK1029 hb
      replace BK1037 := Sh.ab BK1037 hb
      replace HB := Sh.hb hb
      (try clear hb)
      (try clear hb2)
      (try clear hk)
      (try clear hi)
      refine Sh.kN hK Sh.cs fun hHeld => ?_
      clear hK K
      refine Sh.pA 4 49 (Sh.nm 5 31) (by kernel_rfl) ?_
      refine done_ (by kernel_rfl) ?_
      try go_wp2
      go_ret
      exact ⟨Sh.eR, Sh.bw⟩
end Go.Proofs.Ytaacldndbjmekaa.P
