/- Go functions of this seat as Lean functions, and the proofs that the calls come to what these say; printed by a program of this session. No condition. -/
import Derived.Test.YtgcglmkkfkjhhaaP0
import Derived.Test.YtgcglmkkfkjhhaaMFnExactHoldsAt1
import Derived.Test.YtgcglmkkfkjhhaaMFnExactHoldsAt4
import Derived.Test.YtgcglmkkfkjhhaaMFnExactHoldsAt5
set_option linter.unusedVariables false
set_option linter.unusedSimpArgs false
set_option maxHeartbeats 40000000
set_option maxRecDepth 100000
namespace Go.Proofs.Ytgcglmkkfkjhhaa.P
open Go.RowKit Go.Proofs.YtgcglmkkfkjhhaaW.PrintWords Go.Proofs.YtgcglmkkfkjhhaaW.PrintLast Go.Proofs.YtgcglmkkfkjhhaaW.PrintMore Go.Proofs.Ytgcglmkkfkjhhaa.Hof
attribute [local go_sem] max2_int min2_int max_two min_two max_three min_three max_four min_four
def laws_FnExactHoldsAt.j0 : Nat → List (S45) → List (S43) → Bool → List Int → List Int → List Int → List Int → Option (Bool)
 | 0, _, _, _, _, _, _, _ => none
 | k + 1, x0, x10, x51, x237000, x237001, x260000, x260001 => if x51 = true then (some false) else ((laws_toSaidS.f k x0).bind fun t262 => ((laws_eqSaidS.f k x10 t262).bind fun t265 => (if t265 = true then ((laws_toLasso.f k x237000 x237001).bind fun bt266 => ((laws_eqLasso.f k x260000 x260001 bt266.1 bt266.2).bind fun t272 => (if t272 = true then (some true) else (some false)))) else (some false))))
def laws_FnExactHoldsAt.f (k : Nat) (l0 : List (S45)) (l1_0 : List Int) (l1_1 : List Int) (a2 : Int) : Option (Bool) := (laws_szSaidS.f l0 1048576).bind fun t237 => (if t237 < 0 then (some true) else ((laws_szLasso.f l1_0 l1_1 t237).bind fun t238 => (if t238 < 0 then (some true) else ((laws_toSaidS.f k l0).bind fun t239 => ((laws_toLasso.f k l1_0 l1_1).bind fun bt242 => ((spec_HoldsAt.f k t239 bt242.1 bt242.2 a2).bind fun bt248 => ((laws_toSaidS.f k l0).bind fun t250 => ((laws_toLasso.f k l1_0 l1_1).bind fun bt253 => ((impl_HoldsAt.f k t250 bt253.1 bt253.2 a2).bind fun bt260 => (if (bt260.1 != bt248.1) = true then (laws_FnExactHoldsAt.j0 k l0 t250 true l1_0 l1_1 bt253.1 bt253.2) else (laws_FnExactHoldsAt.j0 k l0 t250 (bt260.2 != bt248.2) l1_0 l1_1 bt253.1 bt253.2)))))))))))
theorem laws_FnExactHoldsAt.mono_l : ∀ k, (∀ y0 y1 y2 y3 y4 y5 y6, LeO (laws_FnExactHoldsAt.j0 k y0 y1 y2 y3 y4 y5 y6) (laws_FnExactHoldsAt.j0 (k + 1) y0 y1 y2 y3 y4 y5 y6))
 | 0 => fun _ _ _ _ _ _ _ r h => by simp [laws_FnExactHoldsAt.j0] at h
 | k + 1 => by
  have ih0 := laws_FnExactHoldsAt.mono_l k
  ·intro y0 y1 y2 y3 y4 y5 y6
   unfold laws_FnExactHoldsAt.j0
   repeat' with_reducible first | apply ih0 | apply impl_HoldsAt.mono | apply laws_eqLasso.mono | apply laws_eqSaidS.mono | apply laws_toLasso.mono | apply laws_toSaidS.mono | apply spec_HoldsAt.mono | exact LeO.refl _ | exact LeO.none _ | apply LeO.ite | refine LeO.bind ?_ fun _ => ?_
theorem laws_FnExactHoldsAt.mono : ∀ a0 a1 a2 a3 k, LeO (laws_FnExactHoldsAt.f k a0 a1 a2 a3) (laws_FnExactHoldsAt.f (k + 1) a0 a1 a2 a3) := by
 intro a0 a1 a2 a3 k
 have ih0 := laws_FnExactHoldsAt.mono_l k
 unfold laws_FnExactHoldsAt.f
 repeat' with_reducible first | apply ih0 | apply impl_HoldsAt.mono | apply laws_eqLasso.mono | apply laws_eqSaidS.mono | apply laws_toLasso.mono | apply laws_toSaidS.mono | apply spec_HoldsAt.mono | exact LeO.refl _ | exact LeO.none _ | apply LeO.ite | refine LeO.bind ?_ fun _ => ?_
def laws_FnExactHoldsAt.T8 : Bool × List (List Nat × List Nat) := (true, [([], []), ([0], [0]), ([], []), ([2, 1], [2]), ([], []), ([1, 3, 4, 3], [1, 3, 4]), ([5], [5]), ([6], [6]), ([6], [6]), ([7, 5, 0, 1, 2, 3, 4, 5, 6, 7], [7]), ([8, 9, 0, 1, 2, 3, 4, 5, 6, 7, 8, 9], [8])])
def laws_FnExactHoldsAt.B8 : List Nat := [0, 1, 0, 7, 0, 31, 63, 127, 127, 255, 1023]
theorem laws_FnExactHoldsAt.tab8 : rtab .any (opsOf Try.f3 8) = laws_FnExactHoldsAt.T8 := by kernel_rfl
theorem laws_FnExactHoldsAt.bits8 : waitsOk laws_FnExactHoldsAt.T8.2 laws_FnExactHoldsAt.B8 = true := by kernel_rfl
theorem laws_FnExactHoldsAt.calls (k : Nat) (A0 : Option Addr) (c0 : Nat) (l0 : List (S45)) (A1_0 : Option Addr) (c1_0 : Nat) (l1_0 : List Int) (A1_1 : Option Addr) (c1_1 : Nat) (l1_1 : List Int) (a2 : Int) (r : Bool) (w : World) (hr0 : Kd.C k45 w A0 l0.length l0) (hc0 : l0.length ≤ c0) (hr1_0 : Kd.C (Kd.int .i64) w A1_0 l1_0.length l1_0) (hc1_0 : l1_0.length ≤ c1_0) (hr1_1 : Kd.C (Kd.int .i64) w A1_1 l1_1.length l1_1) (hc1_1 : l1_1.length ≤ c1_1) (h : laws_FnExactHoldsAt.f k l0 l1_0 l1_1 a2 = some r) :
  Calls Try.prog 3 #[.slice A0 l0.length c0, .agg #[.slice A1_0 l1_0.length c1_0, .slice A1_1 l1_1.length c1_1], .int .i64 a2] w fun e w' => e = .returned (.bool r) ∧ Below w.heap.size w w' := by
 have hu25 := Try.underlying25
 have hu32 := Try.underlying32
 have HR0 := am_ hr0
 have HC0 := am_ hc0
 clear hr0 hc0
 have HR1_0 := am_ hr1_0
 have HC1_0 := am_ hc1_0
 clear hr1_0 hc1_0
 have HR1_1 := am_ hr1_1
 have HC1_1 := am_ hc1_1
 clear hr1_1 hc1_1
 have HB := am_ (Below.refl w.heap.size w)
 have H := h
 clear h
 unfold laws_FnExactHoldsAt.f at H
 obtain ⟨t237, A4, H⟩ := Sh.ba H
 by_cases c5 : t237 < 0
 ·rw [if_pos c5] at H
  have c5b0 := decide_eq_true c5
  clear c5
  obtain rfl := Option.some.inj H
  go_enter Try.func3, Try.ntmps3
  go_wp2_with (first | ((with_reducible refine Sh.d 4 ?_); refine Sh.bz w (N := 4) (cs := #[.slice A1_0 l1_0.length c1_0, .slice A1_1 l1_1.length c1_1]) (t := 25) (h := ?_); clear HB; intro gb236 w6 BK236 GE236 HB) | ((with_reducible refine Sh.k 4 ?_); refine Sh.gD (some 16) Try.func4 #[.slice A0 l0.length c0, .int .i64 1048576] (laws_szSaidS.calls _ _ l0 1048576 t237 _ (Sh.cB HR0.out) HC0.out A4.out) fun nd => ?_))
  go_ret
  exact ⟨Sh.eR, Sh.bw⟩
 ·rw [if_neg c5] at H
  have c5b0 := decide_eq_false c5
  clear c5
  obtain ⟨t238, A7, H⟩ := Sh.ba H
  by_cases c8 : t238 < 0
  ·rw [if_pos c8] at H
   have c8b0 := decide_eq_true c8
   clear c8
   obtain rfl := Option.some.inj H
   go_enter Try.func3, Try.ntmps3
   go_wp2_with (first | ((with_reducible refine Sh.d 4 ?_); refine Sh.bz w (N := 4) (cs := #[.slice A1_0 l1_0.length c1_0, .slice A1_1 l1_1.length c1_1]) (t := 25) (h := ?_); clear HB; intro gb236 w9 BK236 GE236 HB) | ((with_reducible refine Sh.k 4 ?_); refine Sh.gD (some 16) Try.func4 #[.slice A0 l0.length c0, .int .i64 1048576] (laws_szSaidS.calls _ _ l0 1048576 t237 _ (Sh.cB HR0.out) HC0.out A4.out) fun nd => ?_; obtain ⟨hcz10_0, hcz10_1, hfz10_0, hfz10_1⟩ := Sh.b2 BK236.out) | ((with_reducible refine Sh.k 5 ?_); refine Sh.gB (some 21) Try.func5 #[.agg #[.slice A1_0 l1_0.length c1_0, .slice A1_1 l1_1.length c1_1], .int .i64 t237] (laws_szLasso.calls _ _ l1_0 _ _ l1_1 t237 t238 _ (Sh.cB HR1_0.out) HC1_0.out (Sh.cB HR1_1.out) HC1_1.out A7.out) fun w11 hb => ?_; replace BK236 := Sh.ab BK236 hb; replace HB := Sh.hb hb; (try clear hb); (try clear hb2); (try clear hk); (try clear hi)))
   go_ret
   exact ⟨Sh.eR, Sh.bw⟩
  ·rw [if_neg c8] at H
   have c8b0 := decide_eq_false c8
   clear c8
   obtain ⟨t239, A12, H⟩ := Sh.ba H
   obtain ⟨⟨t242, t245⟩, A130, H⟩ := Sh.bd H
   have A13 := am_ A130
   clear A130
   obtain ⟨⟨t248, t249⟩, A140, H⟩ := Sh.bd H
   have A14 := am_ A140
   clear A140
   obtain ⟨t250, A15, H⟩ := Sh.ba H
   obtain rfl : t239 = t250 := Option.some.inj (A12.out.symm.trans A15.out)
   obtain ⟨⟨t253, t256⟩, A160, H⟩ := Sh.bd H
   have A16 := am_ A160
   clear A160
   obtain ⟨⟨t260, t261⟩, A170, H⟩ := Sh.bd H
   have A17 := am_ A170
   clear A170
   have HC18 := am_ H
   clear H
   go_enter Try.func3, Try.ntmps3
   try go_wp2_with (first | ((with_reducible refine Sh.d 4 ?_); refine Sh.bz w (N := 4) (cs := #[.slice A1_0 l1_0.length c1_0, .slice A1_1 l1_1.length c1_1]) (t := 25) (h := ?_); clear HB; intro gb236 w19 BK236 GE236 HB) | ((with_reducible refine Sh.k 4 ?_); refine Sh.gD (some 16) Try.func4 #[.slice A0 l0.length c0, .int .i64 1048576] (laws_szSaidS.calls _ _ l0 1048576 t237 _ (Sh.cB HR0.out) HC0.out A4.out) fun nd => ?_; (try (rw [drewN_self w19]; generalize hq_ : World.drewN w19 _ = w19; have n0_ : Aside0 (w19.heap[gb236]? = some (.cells #[.slice A1_0 l1_0.length c1_0, .slice A1_1 l1_1.length c1_1] 25 (0, 0))) := ⟨by rw [← hq_]; exact (Sh.pl BK236.out)⟩; have n1_ : Aside0 (Below w.heap.size w w19) := ⟨by rw [← hq_]; exact Sh.bw⟩; clear BK236 HB hq_; have BK236 := n0_; have HB := n1_; clear n0_ n1_)); obtain ⟨hcz20_0, hcz20_1, hfz20_0, hfz20_1⟩ := Sh.b2 BK236.out) | ((with_reducible refine Sh.k 5 ?_); refine Sh.gB (some 21) Try.func5 #[.agg #[.slice A1_0 l1_0.length c1_0, .slice A1_1 l1_1.length c1_1], .int .i64 t237] (laws_szLasso.calls _ _ l1_0 _ _ l1_1 t237 t238 _ (Sh.cB HR1_0.out) HC1_0.out (Sh.cB HR1_1.out) HC1_1.out A7.out) fun w21 hb => ?_; replace BK236 := Sh.ab BK236 hb; replace HB := Sh.hb hb; (try clear hb); (try clear hb2); (try clear hk); (try clear hi)))
   replace BK236 := am_ (blk_drew BK236.out)
   replace HB := am_ (below_drew1 HB.out)
   refine start_ (n := 11) (S := fun w' => w'.cell? ⟨gb236, 0, none⟩ = some (.slice A1_0 l1_0.length c1_0) ∧ w'.cell? ⟨gb236, 1, none⟩ = some (.slice A1_1 l1_1.length c1_1)) (ds := []) (Sh.nm 11 0) (by kernel_rfl) rfl rfl Sh.cs (fun hHeld => ?_); refine with_tabW laws_FnExactHoldsAt.tab8 laws_FnExactHoldsAt.bits8 (fun HT_ HW_ => ?_)
   generalize w21.drew = w22 at BK236 HB hHeld ⊢
   refine Sh.qA 0 ?_; refine Sh.qA 4 ?_; refine Sh.qT 2 hHeld ?_
   refine Sh.oC 1 Try.func7 #[.slice A0 l0.length c0] fun K hK => ?_
   with_reducible refine (laws_toSaidS.calls k _ _ l0 t239 _ (Sh.cB HR0.out) HC0.out A12.out).mono ?_
   rintro e w23 ⟨v240, rfl, ho0, hb⟩
   refine ⟨_, rfl, ?_⟩
   have HO241 := am_ (Kd.R_lower ho0 (below_size Sh.bw))
   replace BK236 := Sh.ab BK236 hb
   replace HB := Sh.hb hb
   (try clear hb)
   (try clear hb2)
   (try clear hk)
   (try clear hi)
   (try clear ho0)
   refine Sh.kN hK Sh.cs fun hHeld => ?_
   clear hK K
   refine Sh.oC 3 Try.func8 #[.agg #[.slice A1_0 l1_0.length c1_0, .slice A1_1 l1_1.length c1_1]] fun K hK => ?_
   with_reducible refine (laws_toLasso.calls k _ _ l1_0 _ _ l1_1 t242 t245 _ (Sh.cB HR1_0.out) HC1_0.out (Sh.cB HR1_1.out) HC1_1.out A13.out).mono ?_
   rintro e w24 ⟨v243, v246, rfl, ho0, ho1, hb⟩
   refine ⟨_, rfl, ?_⟩
   replace HO241 := am_ (Kd.R_below (Sh.rl HO241.out) hb)
   have HO244 := am_ (Kd.R_lower ho0 (below_size Sh.bw))
   have HO247 := am_ (Kd.R_lower ho1 (below_size Sh.bw))
   replace BK236 := Sh.ab BK236 hb
   replace HB := Sh.hb hb
   (try clear hb)
   (try clear hb2)
   (try clear hk)
   (try clear hi)
   (try clear ho0)
   (try clear ho1)
   obtain ⟨Ao25, co25, eo25⟩ := Kd.R_slice HO241.out
   (first | subst eo25 | (injection eo25 with f1_ f2_ f3_; have f4_ := f1_.symm; have f5_ := f3_.symm; clear f1_ f2_ f3_; subst f4_; subst f5_))
   obtain ⟨Ao26, co26, eo26⟩ := Kd.R_slice HO244.out
   (first | subst eo26 | (injection eo26 with f1_ f2_ f3_; have f4_ := f1_.symm; have f5_ := f3_.symm; clear f1_ f2_ f3_; subst f4_; subst f5_))
   obtain ⟨Ao27, co27, eo27⟩ := Kd.R_slice HO247.out
   (first | subst eo27 | (injection eo27 with f1_ f2_ f3_; have f4_ := f1_.symm; have f5_ := f3_.symm; clear f1_ f2_ f3_; subst f4_; subst f5_))
   refine Sh.kN hK Sh.cs fun hHeld => ?_
   clear hK K
   refine Sh.oC 5 Try.func6 #[.slice Ao25 t239.length co25, .agg #[.slice Ao26 t242.length co26, .slice Ao27 t245.length co27], .int .i64 a2] fun K hK => ?_
   with_reducible refine (spec_HoldsAt.calls k _ _ t239 _ _ t242 _ _ t245 a2 t248 t249 _ (Sh.cR (Kd.R_reads' HO241.out).2.2) (Kd.R_reads' HO241.out).2.1 (Sh.cR (Kd.R_reads' HO244.out).2.2) (Kd.R_reads' HO244.out).2.1 (Sh.cR (Kd.R_reads' HO247.out).2.2) (Kd.R_reads' HO247.out).2.1 A14.out).mono ?_
   rintro e w28 ⟨rfl, hb⟩
   refine ⟨_, rfl, ?_⟩
   replace HO241 := am_ (Kd.R_below (Sh.rl HO241.out) hb)
   replace HO244 := am_ (Kd.R_below (Sh.rl HO244.out) hb)
   replace HO247 := am_ (Kd.R_below (Sh.rl HO247.out) hb)
   replace BK236 := Sh.ab BK236 hb
   replace HB := Sh.hb hb
   (try clear hb)
   (try clear hb2)
   (try clear hk)
   (try clear hi)
   refine Sh.kN hK Sh.cs fun hHeld => ?_
   clear hK K
   refine Sh.qA 6 ?_; refine Sh.qA 7 ?_; refine Sh.qA 8 ?_; refine Sh.qA 9 ?_; refine Sh.qA 10 ?_
   refine done_ (done_of HT_.out (by kernel_rfl)) ?_
   go_upto_region 12 with (first | ((with_reducible refine Sh.k 7 ?_); refine Sh.gL (some 34) Try.func7 #[.slice A0 l0.length c0] (h := ?_); (with_reducible refine (laws_toSaidS.calls k _ _ l0 t239 _ (Sh.cB HR0.out) HC0.out A15.out).mono ?_); rintro e w29 ⟨v251, rfl, ho0, hb⟩; refine ⟨_, rfl, ?_⟩; replace HO244 := am_ (Kd.R_below (Sh.rl HO244.out) hb); replace HO247 := am_ (Kd.R_below (Sh.rl HO247.out) hb); have HO252 := am_ (Kd.R_lower (Kd.R_new' ho0 (Kd.R_lt (Sh.rl HO241.out))) (below_size Sh.bw)); replace HO241 := am_ (Kd.R_elder' (Sh.rl HO241.out) (Kd.R_base ho0) hb); replace BK236 := Sh.ab BK236 hb; replace HB := Sh.hb hb; (try clear hb); (try clear hb2); (try clear hk); (try clear hi); (try clear ho0); obtain ⟨hcz30_0, hcz30_1, hfz30_0, hfz30_1⟩ := Sh.b2 BK236.out) | ((with_reducible refine Sh.k 8 ?_); refine Sh.gL (some 36) Try.func8 #[.agg #[.slice A1_0 l1_0.length c1_0, .slice A1_1 l1_1.length c1_1]] (h := ?_); (with_reducible refine (laws_toLasso.calls k _ _ l1_0 _ _ l1_1 t253 t256 _ (Sh.cB HR1_0.out) HC1_0.out (Sh.cB HR1_1.out) HC1_1.out A16.out).mono ?_); rintro e w31 ⟨v254, v257, rfl, ho0, ho1, hb⟩; refine ⟨_, rfl, ?_⟩; replace HO241 := am_ (Kd.R_below (Sh.rl HO241.out) hb); replace HO252 := am_ (Kd.R_below (Sh.rl HO252.out) hb); have HO255 := am_ (Kd.R_lower (Kd.R_new' (Kd.R_new' ho0 (Kd.R_lt (Sh.rl HO244.out))) (Kd.R_lt (Sh.rl HO247.out))) (below_size Sh.bw)); have HO258 := am_ (Kd.R_lower (Kd.R_new' (Kd.R_new' ho1 (Kd.R_lt (Sh.rl HO244.out))) (Kd.R_lt (Sh.rl HO247.out))) (below_size Sh.bw)); replace HO244 := am_ (Kd.R_mono (Kd.R_told (Kd.R_told (Kd.R_old (Sh.rl HO244.out) hb) (Kd.R_base ho0)) (Kd.R_base ho1)) (fun _ h_ => h_.1)); replace HO247 := am_ (Kd.R_mono (Kd.R_told (Kd.R_told (Kd.R_old (Sh.rl HO247.out) hb) (Kd.R_base ho0)) (Kd.R_base ho1)) (fun _ h_ => h_.1)); replace BK236 := Sh.ab BK236 hb; replace HB := Sh.hb hb; (try clear hb); (try clear hb2); (try clear hk); (try clear hi); (try clear ho0); (try clear ho1)) | ((with_reducible refine Sh.d 11 ?_); refine Sh.bx (N := 11) (cs := #[.slice none 0 0, .slice none 0 0]) (t := 32) (h := ?_); intro gb259 hg w32 hbox hb; replace HO241 := am_ (Kd.R_below (Sh.rl HO241.out) hb); replace HO244 := am_ (Kd.R_below (Sh.rl HO244.out) hb); replace HO247 := am_ (Kd.R_below (Sh.rl HO247.out) hb); replace HO252 := am_ (Kd.R_below (Sh.rl HO252.out) hb); replace HO255 := am_ (Kd.R_below (Sh.rl HO255.out) hb); replace HO258 := am_ (Kd.R_below (Sh.rl HO258.out) hb); have BK259 := am_ hbox; have GE259 := Sh.ag w hg; replace HB := Sh.hb hb; have NB236_259 := am_ (Sh.nl hg BK236.out); have NB259_236 := am_ (Sh.ng hg BK236.out); replace BK236 := Sh.ab BK236 hb; clear hb hbox hg; obtain ⟨Ao33, co33, eo33⟩ := Kd.R_slice HO255.out; subst eo33; have hnb34 := NB259_236.out; have hnc34 := NB236_259.out; obtain ⟨hcz35_0, hcz35_1, hfz35_0, hfz35_1⟩ := Sh.b2 BK259.out; obtain ⟨Ao36, co36, eo36⟩ := Kd.R_slice HO258.out; subst eo36; obtain ⟨Ao37, co37, eo37⟩ := Kd.R_slice HO252.out; subst eo37) | ((with_reducible refine Sh.k 9 ?_); refine Sh.gL (some 41) Try.func9 #[.slice Ao37 t239.length co37, .agg #[.slice Ao33 t253.length co33, .slice Ao36 t256.length co36], .int .i64 a2] (h := ?_); (with_reducible refine (impl_HoldsAt.calls k _ _ t239 _ _ t253 _ _ t256 a2 t260 t261 _ ?side1 ?side2 ?side3 ?side4 ?side5 ?side6 A17.out).mono ?_); (case side1 => refine (Kd.R_reads' (e := 43) (base := w.heap.size) (ok := fun k_ => (True ∧ some k_ ≠ (.slice Ao25 t239.length co25 : Value).ownBlock)) (n := t239.length) (c := co37) ?_).2.2; exact (Sh.rl (Kd.R_mono (Kd.R_far (p := ⟨gb259, 1, none⟩) (Kd.R_far (p := ⟨gb259, 0, none⟩) (Kd.R_types HO252.out BK259.out (by decide)) (fun _ hk => hk.2) (.slice Ao33 t253.length co33)) (fun _ hk => hk.2) (.slice Ao36 t256.length co36)) (fun _ h_ => h_.1)))); (case side2 => exact (Kd.R_reads' HO252.out).2.1); (case side3 => refine (Kd.R_reads' (e := 3) (base := w.heap.size) (ok := fun k_ => ((some k_ ≠ (.slice Ao36 t256.length co36 : Value).ownBlock ∧ some k_ ≠ (.slice Ao26 t242.length co26 : Value).ownBlock) ∧ some k_ ≠ (.slice Ao27 t245.length co27 : Value).ownBlock)) (n := t253.length) (c := co33) ?_).2.2; exact (Sh.rl (Kd.R_mono (Kd.R_far (p := ⟨gb259, 1, none⟩) (Kd.R_far (p := ⟨gb259, 0, none⟩) (Kd.R_types HO255.out BK259.out (by decide)) (fun _ hk => hk.2) (.slice Ao33 t253.length co33)) (fun _ hk => hk.2) (.slice Ao36 t256.length co36)) (fun _ h_ => h_.1)))); (case side4 => exact (Kd.R_reads' HO255.out).2.1); (case side5 => refine (Kd.R_reads' (e := 3) (base := w.heap.size) (ok := fun k_ => ((some k_ ≠ (.slice Ao33 t253.length co33 : Value).ownBlock ∧ some k_ ≠ (.slice Ao26 t242.length co26 : Value).ownBlock) ∧ some k_ ≠ (.slice Ao27 t245.length co27 : Value).ownBlock)) (n := t256.length) (c := co36) ?_).2.2; exact (Sh.rl (Kd.R_mono (Kd.R_far (p := ⟨gb259, 1, none⟩) (Kd.R_far (p := ⟨gb259, 0, none⟩) (Kd.R_types HO258.out BK259.out (by decide)) (fun _ hk => hk.2) (.slice Ao33 t253.length co33)) (fun _ hk => hk.2) (.slice Ao36 t256.length co36)) (fun _ h_ => h_.1)))); (case side6 => exact (Kd.R_reads' HO258.out).2.1); rintro e w38 ⟨rfl, hb⟩; refine ⟨_, rfl, ?_⟩; replace HO241 := am_ (Kd.R_below (Sh.rl (Kd.R_mono (Kd.R_far (p := ⟨gb259, 1, none⟩) (Kd.R_far (p := ⟨gb259, 0, none⟩) (Kd.R_types HO241.out BK259.out (by decide)) (fun _ hk => hk.2) (.slice Ao33 t253.length co33)) (fun _ hk => hk.2) (.slice Ao36 t256.length co36)) (fun _ h_ => h_.1))) hb); replace HO244 := am_ (Kd.R_below (Sh.rl (Kd.R_mono (Kd.R_far (p := ⟨gb259, 1, none⟩) (Kd.R_far (p := ⟨gb259, 0, none⟩) (Kd.R_types HO244.out BK259.out (by decide)) (fun _ hk => hk.2) (.slice Ao33 t253.length co33)) (fun _ hk => hk.2) (.slice Ao36 t256.length co36)) (fun _ h_ => h_.1))) hb); replace HO247 := am_ (Kd.R_below (Sh.rl (Kd.R_mono (Kd.R_far (p := ⟨gb259, 1, none⟩) (Kd.R_far (p := ⟨gb259, 0, none⟩) (Kd.R_types HO247.out BK259.out (by decide)) (fun _ hk => hk.2) (.slice Ao33 t253.length co33)) (fun _ hk => hk.2) (.slice Ao36 t256.length co36)) (fun _ h_ => h_.1))) hb); replace HO252 := am_ (Kd.R_below (Sh.rl (Kd.R_mono (Kd.R_far (p := ⟨gb259, 1, none⟩) (Kd.R_far (p := ⟨gb259, 0, none⟩) (Kd.R_types HO252.out BK259.out (by decide)) (fun _ hk => hk.2) (.slice Ao33 t253.length co33)) (fun _ hk => hk.2) (.slice Ao36 t256.length co36)) (fun _ h_ => h_.1))) hb); replace HO255 := am_ (Kd.R_below (Sh.rl (Kd.R_mono (Kd.R_far (p := ⟨gb259, 1, none⟩) (Kd.R_far (p := ⟨gb259, 0, none⟩) (Kd.R_types HO255.out BK259.out (by decide)) (fun _ hk => hk.2) (.slice Ao33 t253.length co33)) (fun _ hk => hk.2) (.slice Ao36 t256.length co36)) (fun _ h_ => h_.1))) hb); replace HO258 := am_ (Kd.R_below (Sh.rl (Kd.R_mono (Kd.R_far (p := ⟨gb259, 1, none⟩) (Kd.R_far (p := ⟨gb259, 0, none⟩) (Kd.R_types HO258.out BK259.out (by decide)) (fun _ hk => hk.2) (.slice Ao33 t253.length co33)) (fun _ hk => hk.2) (.slice Ao36 t256.length co36)) (fun _ h_ => h_.1))) hb); replace BK236 := am_ (blk_below (g := gb236) (o := .cells #[.slice A1_0 l1_0.length c1_0, .slice A1_1 l1_1.length c1_1] 25 (0, 0)) (by refine Sh.pl ?_; refine blk_far ?_ NB236_259.out _; refine Sh.pl ?_; refine blk_far ?_ NB236_259.out _; refine Sh.pl ?_; exact BK236.out) hb); replace BK259 := am_ (blk_below (g := gb259) (o := .cells #[.slice Ao33 t253.length co33, .slice Ao36 t256.length co36] 32 (0, 0)) (by refine Sh.pl ?_; refine blk_put (cs := #[.slice Ao33 t253.length co33, .slice none 0 0]) ?_ 1 _ rfl; refine Sh.pl ?_; refine blk_put (cs := #[.slice none 0 0, .slice none 0 0]) ?_ 0 _ rfl; refine Sh.pl ?_; exact BK259.out) hb); replace HB := Sh.hb hb; (try clear hb); (try clear hb2); (try clear hk); (try clear hi)))
   (try simp only [Act.put, List.setIfInBounds_toArray, List.set_cons_zero, List.set_cons_succ])
   go_cut [51] (fun v51 wc => ∃ (kq : Nat) (x51_17 : Bool), v51 = .bool x51_17 ∧ Aside0 (laws_FnExactHoldsAt.j0 kq l0 t239 x51_17 l1_0 l1_1 t253 t256 = some r) ∧ Aside0 (kq ≤ k) ∧ Aside0 (Kd.R k43 43 wc w.heap.size (fun _ => True) (.slice Ao37 t239.length co37) t239) ∧ Aside0 (Kd.R (Kd.int .i64) 3 wc w.heap.size (fun k_ => some k_ ≠ ((.slice Ao36 t256.length co36) : Value).ownBlock) (.slice Ao33 t253.length co33) t253) ∧ Aside0 (Kd.R (Kd.int .i64) 3 wc w.heap.size (fun k_ => some k_ ≠ ((.slice Ao33 t253.length co33) : Value).ownBlock) (.slice Ao36 t256.length co36) t256) ∧ Aside0 (wc.heap[gb236]? = some (.cells #[(.slice A1_0 l1_0.length c1_0), (.slice A1_1 l1_1.length c1_1)] 25 (0, 0))) ∧ Aside0 (wc.heap[gb259]? = some (.cells #[(.slice Ao33 t253.length co33), (.slice Ao36 t256.length co36)] 32 (0, 0))) ∧ Aside0 (Below w.heap.size w wc))
   case first =>
    have H := HC18.out
    clear HC18
    by_cases c39 : (t260 != t248) = true
    ·rw [if_pos c39] at H
     have c39b0 : (t260 != t248) = true := c39
     (try (have c39b1 : decide (t260 = t248) = false := by simpa using c39))
     (try (have c39b2 : (t260 == t248) = false := by simpa using c39))
     (try (have c39b3 : ¬ (t260 = t248) := by simpa using c39))
     clear c39
     first | rw [c39b0] | (simp only [i64_w, i32_w]; rw [c39b0]) | skip
     have H' := am_ H
     clear H
     go_wp2
     go_meet
     case rel => exact ⟨_, (true), (Sh.es), H', ⟨Sh.om⟩, ⟨Sh.rl (Kd.R_mono HO252.out (fun _ hk => trivial))⟩, ⟨Sh.rl (Kd.R_mono HO255.out (fun _ hk => hk.1.1))⟩, ⟨Sh.rl (Kd.R_mono HO258.out (fun _ hk => hk.1.1))⟩, ⟨by refine Sh.pl ?_; exact BK236.out⟩, ⟨by refine Sh.pl ?_; exact BK259.out⟩, ⟨Sh.bw⟩⟩
    ·rw [if_neg c39] at H
     have c39b0 : (t260 != t248) = false := by simpa using c39
     (try (have c39b1 : decide (t260 = t248) = true := by simpa using c39))
     (try (have c39b2 : (t260 == t248) = true := by simpa using c39))
     clear c39
     first | rw [c39b0] | (simp only [i64_w, i32_w]; rw [c39b0]) | skip
     have H' := am_ H
     clear H
     go_wp2
     go_meet
     case rel => exact ⟨_, ((t261 != t249)), (Sh.es), H', ⟨Sh.om⟩, ⟨Sh.rl (Kd.R_mono HO252.out (fun _ hk => trivial))⟩, ⟨Sh.rl (Kd.R_mono HO255.out (fun _ hk => hk.1.1))⟩, ⟨Sh.rl (Kd.R_mono HO258.out (fun _ hk => hk.1.1))⟩, ⟨by refine Sh.pl ?_; exact BK236.out⟩, ⟨by refine Sh.pl ?_; exact BK259.out⟩, ⟨Sh.bw⟩⟩
   case rest =>
    clear HC18
    try clear hcz10_0
    try clear hcz10_1
    try clear hcz20_0
    try clear hcz20_1
    try clear hcz30_0
    try clear hcz30_1
    try clear hcz35_0
    try clear hcz35_1
    try clear hfz10_0
    try clear hfz10_1
    try clear hfz20_0
    try clear hfz20_1
    try clear hfz30_0
    try clear hfz30_1
    try clear hfz35_0
    try clear hfz35_1
    obtain ⟨kq, x51_17, rfl, HA, HJ17, HO_10, HO_260000, HO_260001, BK236, BK259, HB⟩ := hcut
    cases kq with
    | zero => exact absurd HA.out (by simp [laws_FnExactHoldsAt.j0])
    | succ kj17 =>
     have H := HA.out
     clear HA
     simp only [laws_FnExactHoldsAt.j0] at H
     by_cases c40 : x51_17 = true
     ·subst c40
      rw [if_pos rfl] at H
      obtain rfl := Option.some.inj H
      go_wp2
      go_ret
      exact ⟨Sh.eR, Sh.bw⟩
     ·replace c40 := Bool.eq_false_iff.mpr c40
      subst c40
      rw [Sh.nf] at H
      obtain ⟨t262, A41, H⟩ := Sh.ba H
      obtain ⟨t265, A42, H⟩ := Sh.ba H
      by_cases c43 : t265 = true
      ·subst c43
       rw [if_pos rfl] at H
       obtain ⟨⟨t266, t269⟩, A440, H⟩ := Sh.bd H
       have A44 := am_ A440
       clear A440
       obtain ⟨t272, A45, H⟩ := Sh.ba H
       by_cases c46 : t272 = true
       ·subst c46
        rw [if_pos rfl] at H
        obtain rfl := Option.some.inj H
        try go_wp2_with (first | ((with_reducible refine Sh.k 7 ?_); refine Sh.gL (some 54) Try.func7 #[.slice A0 l0.length c0] (h := ?_); (with_reducible refine (laws_toSaidS.calls kj17 _ _ l0 t262 _ (Sh.cB HR0.out) HC0.out A41.out).mono ?_); rintro e w47 ⟨v263, rfl, ho0, hb⟩; refine ⟨_, rfl, ?_⟩; replace HO_260000 := am_ (Kd.R_below (Sh.rl HO_260000.out) hb); replace HO_260001 := am_ (Kd.R_below (Sh.rl HO_260001.out) hb); have HO264 := am_ (Kd.R_lower (Kd.R_new' ho0 (Kd.R_lt (Sh.rl HO_10.out))) (below_size Sh.bw)); replace HO_10 := am_ (Kd.R_elder' (Sh.rl HO_10.out) (Kd.R_base ho0) hb); replace BK236 := Sh.ab BK236 hb; replace BK259 := Sh.ab BK259 hb; replace HB := Sh.hb hb; (try clear hb); (try clear hb2); (try clear hk); (try clear hi); (try clear ho0); obtain ⟨Ao48, co48, eo48⟩ := Kd.R_slice HO264.out; subst eo48) | ((with_reducible refine Sh.k 10 ?_); refine Sh.gB (some 55) Try.func10 #[.slice Ao37 t239.length co37, .slice Ao48 t262.length co48] (laws_eqSaidS.calls kj17 _ _ t239 _ _ t262 true _ (Sh.cR (Kd.R_reads' HO_10.out).2.2) (Kd.R_reads' HO_10.out).2.1 (Sh.cR (Kd.R_reads' HO264.out).2.2) (Kd.R_reads' HO264.out).2.1 A42.out) fun w49 hb => ?_; replace HO_10 := am_ (Kd.R_below (Sh.rl HO_10.out) hb); replace HO_260000 := am_ (Kd.R_below (Sh.rl HO_260000.out) hb); replace HO_260001 := am_ (Kd.R_below (Sh.rl HO_260001.out) hb); replace HO264 := am_ (Kd.R_below (Sh.rl HO264.out) hb); replace BK236 := Sh.ab BK236 hb; replace BK259 := Sh.ab BK259 hb; replace HB := Sh.hb hb; (try clear hb); (try clear hb2); (try clear hk); (try clear hi)))
        replace HO_10 := am_ (Kd.R_drew HO_10.out)
        replace HO_260000 := am_ (Kd.R_drew HO_260000.out)
        replace HO_260001 := am_ (Kd.R_drew HO_260001.out)
        replace HO264 := am_ (Kd.R_drew HO264.out)
        replace BK236 := am_ (blk_drew BK236.out)
        replace BK259 := am_ (blk_drew BK259.out)
        replace HB := am_ (below_drew1 HB.out)
        refine start_ (n := 5) (S := fun w' => w'.cell? ⟨gb259, 0, none⟩ = some (.slice Ao33 t253.length co33) ∧ w'.cell? ⟨gb259, 1, none⟩ = some (.slice Ao36 t256.length co36) ∧ w'.cell? ⟨gb236, 0, none⟩ = some (.slice A1_0 l1_0.length c1_0) ∧ w'.cell? ⟨gb236, 1, none⟩ = some (.slice A1_1 l1_1.length c1_1)) (ds := []) (Sh.nm 5 0) (by kernel_rfl) rfl rfl Sh.cs (fun hHeld => ?_)
        generalize w49.drew = w50 at HO_10 HO_260000 HO_260001 HO264 BK236 BK259 HB hHeld ⊢
        refine Sh.tA 0 57 (Sh.nm 5 1) (by kernel_rfl) hHeld ?_ (hy := by rintro w' ⟨s0, s1, s2, s3⟩; go_simp; with_reducible rfl)
        refine Sh.tA 1 58 (Sh.nm 5 3) (by kernel_rfl) hHeld ?_ (hy := by rintro w' ⟨s0, s1, s2, s3⟩; go_simp; with_reducible rfl)
        refine one_ (i := 2) (N := some 59) (Sh.nm 5 7) rfl rfl (by kernel_rfl) (by decide) (fun K hK => ?_)
        refine goes_ Try.func8 (by kernel_rfl) rfl #[.agg #[.slice A1_0 l1_0.length c1_0, .slice A1_1 l1_1.length c1_1]] (by rfl) rfl rfl (by (try simp only [List.map_toArray, List.map_cons, List.map_nil]); first | done | rfl | (simp only [List.length_drop, List.length_take]; rfl)) ?_
        with_reducible refine (laws_toLasso.calls kj17 _ _ l1_0 _ _ l1_1 t266 t269 _ (Sh.cB HR1_0.out) HC1_0.out (Sh.cB HR1_1.out) HC1_1.out A44.out).mono ?_
        rintro e w51 ⟨v267, v270, rfl, ho0, ho1, hb⟩
        refine ⟨_, rfl, ?_⟩
        replace HO_10 := am_ (Kd.R_below (Sh.rl HO_10.out) hb)
        replace HO264 := am_ (Kd.R_below (Sh.rl HO264.out) hb)
        have HO268 := am_ (Kd.R_lower (Kd.R_new' (Kd.R_new' ho0 (Kd.R_lt (Sh.rl HO_260000.out))) (Kd.R_lt (Sh.rl HO_260001.out))) (below_size Sh.bw))
        have HO271 := am_ (Kd.R_lower (Kd.R_new' (Kd.R_new' ho1 (Kd.R_lt (Sh.rl HO_260000.out))) (Kd.R_lt (Sh.rl HO_260001.out))) (below_size Sh.bw))
        replace HO_260000 := am_ (Kd.R_mono (Kd.R_told (Kd.R_told (Kd.R_old (Sh.rl HO_260000.out) hb) (Kd.R_base ho0)) (Kd.R_base ho1)) (fun _ h_ => h_.1))
        replace HO_260001 := am_ (Kd.R_mono (Kd.R_told (Kd.R_told (Kd.R_old (Sh.rl HO_260001.out) hb) (Kd.R_base ho0)) (Kd.R_base ho1)) (fun _ h_ => h_.1))
        replace BK236 := Sh.ab BK236 hb
        replace BK259 := Sh.ab BK259 hb
        replace HB := Sh.hb hb
        (try clear hb)
        (try clear hb2)
        (try clear hk)
        (try clear hi)
        (try clear ho0)
        (try clear ho1)
        obtain ⟨Ao52, co52, eo52⟩ := Kd.R_slice HO268.out
        (first | subst eo52 | (injection eo52 with f1_ f2_ f3_; have f4_ := f1_.symm; have f5_ := f3_.symm; clear f1_ f2_ f3_; subst f4_; subst f5_))
        obtain ⟨Ao53, co53, eo53⟩ := Kd.R_slice HO271.out
        (first | subst eo53 | (injection eo53 with f1_ f2_ f3_; have f4_ := f1_.symm; have f5_ := f3_.symm; clear f1_ f2_ f3_; subst f4_; subst f5_))
        refine Sh.kN hK Sh.cs fun hHeld => ?_
        clear hK K
        refine one_ (i := 3) (N := some 60) (Sh.nm 5 15) rfl rfl (by kernel_rfl) (by decide) (fun K hK => ?_)
        refine goes_ Try.func11 (by kernel_rfl) rfl #[.agg #[.slice Ao33 t253.length co33, .slice Ao36 t256.length co36], .agg #[.slice Ao52 t266.length co52, .slice Ao53 t269.length co53]] (by rfl) rfl rfl (by (try simp only [List.map_toArray, List.map_cons, List.map_nil]); first | done | rfl | (simp only [List.length_drop, List.length_take]; rfl)) ?_
        with_reducible refine (laws_eqLasso.calls kj17 _ _ t253 _ _ t256 _ _ t266 _ _ t269 true _ (Sh.cR (Kd.R_reads' HO_260000.out).2.2) (Kd.R_reads' HO_260000.out).2.1 (Sh.cR (Kd.R_reads' HO_260001.out).2.2) (Kd.R_reads' HO_260001.out).2.1 (Sh.cR (Kd.R_reads' HO268.out).2.2) (Kd.R_reads' HO268.out).2.1 (Sh.cR (Kd.R_reads' HO271.out).2.2) (Kd.R_reads' HO271.out).2.1 A45.out).mono ?_
        rintro e w54 ⟨rfl, hb⟩
        refine ⟨_, rfl, ?_⟩
        replace HO_10 := am_ (Kd.R_below (Sh.rl HO_10.out) hb)
        replace HO_260000 := am_ (Kd.R_below (Sh.rl HO_260000.out) hb)
        replace HO_260001 := am_ (Kd.R_below (Sh.rl HO_260001.out) hb)
        replace HO264 := am_ (Kd.R_below (Sh.rl HO264.out) hb)
        replace HO268 := am_ (Kd.R_below (Sh.rl HO268.out) hb)
        replace HO271 := am_ (Kd.R_below (Sh.rl HO271.out) hb)
        replace BK236 := Sh.ab BK236 hb
        replace BK259 := Sh.ab BK259 hb
        replace HB := Sh.hb hb
        (try clear hb)
        (try clear hb2)
        (try clear hk)
        (try clear hi)
        refine Sh.kN hK Sh.cs fun hHeld => ?_
        clear hK K
        refine Sh.pA 4 61 (Sh.nm 5 31) (by kernel_rfl) ?_
        refine done_ (by kernel_rfl) ?_
        try go_wp2
        go_ret
        exact ⟨Sh.eR, Sh.bw⟩
       ·replace c46 := Bool.eq_false_iff.mpr c46
        subst c46
        rw [Sh.nf] at H
        obtain rfl := Option.some.inj H
        try go_wp2_with (first | ((with_reducible refine Sh.k 7 ?_); refine Sh.gL (some 54) Try.func7 #[.slice A0 l0.length c0] (h := ?_); (with_reducible refine (laws_toSaidS.calls kj17 _ _ l0 t262 _ (Sh.cB HR0.out) HC0.out A41.out).mono ?_); rintro e w55 ⟨v263, rfl, ho0, hb⟩; refine ⟨_, rfl, ?_⟩; replace HO_260000 := am_ (Kd.R_below (Sh.rl HO_260000.out) hb); replace HO_260001 := am_ (Kd.R_below (Sh.rl HO_260001.out) hb); have HO264 := am_ (Kd.R_lower (Kd.R_new' ho0 (Kd.R_lt (Sh.rl HO_10.out))) (below_size Sh.bw)); replace HO_10 := am_ (Kd.R_elder' (Sh.rl HO_10.out) (Kd.R_base ho0) hb); replace BK236 := Sh.ab BK236 hb; replace BK259 := Sh.ab BK259 hb; replace HB := Sh.hb hb; (try clear hb); (try clear hb2); (try clear hk); (try clear hi); (try clear ho0); obtain ⟨Ao56, co56, eo56⟩ := Kd.R_slice HO264.out; subst eo56) | ((with_reducible refine Sh.k 10 ?_); refine Sh.gB (some 55) Try.func10 #[.slice Ao37 t239.length co37, .slice Ao56 t262.length co56] (laws_eqSaidS.calls kj17 _ _ t239 _ _ t262 true _ (Sh.cR (Kd.R_reads' HO_10.out).2.2) (Kd.R_reads' HO_10.out).2.1 (Sh.cR (Kd.R_reads' HO264.out).2.2) (Kd.R_reads' HO264.out).2.1 A42.out) fun w57 hb => ?_; replace HO_10 := am_ (Kd.R_below (Sh.rl HO_10.out) hb); replace HO_260000 := am_ (Kd.R_below (Sh.rl HO_260000.out) hb); replace HO_260001 := am_ (Kd.R_below (Sh.rl HO_260001.out) hb); replace HO264 := am_ (Kd.R_below (Sh.rl HO264.out) hb); replace BK236 := Sh.ab BK236 hb; replace BK259 := Sh.ab BK259 hb; replace HB := Sh.hb hb; (try clear hb); (try clear hb2); (try clear hk); (try clear hi)))
        replace HO_10 := am_ (Kd.R_drew HO_10.out)
        replace HO_260000 := am_ (Kd.R_drew HO_260000.out)
        replace HO_260001 := am_ (Kd.R_drew HO_260001.out)
        replace HO264 := am_ (Kd.R_drew HO264.out)
        replace BK236 := am_ (blk_drew BK236.out)
        replace BK259 := am_ (blk_drew BK259.out)
        replace HB := am_ (below_drew1 HB.out)
        refine start_ (n := 5) (S := fun w' => w'.cell? ⟨gb259, 0, none⟩ = some (.slice Ao33 t253.length co33) ∧ w'.cell? ⟨gb259, 1, none⟩ = some (.slice Ao36 t256.length co36) ∧ w'.cell? ⟨gb236, 0, none⟩ = some (.slice A1_0 l1_0.length c1_0) ∧ w'.cell? ⟨gb236, 1, none⟩ = some (.slice A1_1 l1_1.length c1_1)) (ds := []) (Sh.nm 5 0) (by kernel_rfl) rfl rfl Sh.cs (fun hHeld => ?_)
        generalize w57.drew = w58 at HO_10 HO_260000 HO_260001 HO264 BK236 BK259 HB hHeld ⊢
        refine Sh.tA 0 57 (Sh.nm 5 1) (by kernel_rfl) hHeld ?_ (hy := by rintro w' ⟨s0, s1, s2, s3⟩; go_simp; with_reducible rfl)
        refine Sh.tA 1 58 (Sh.nm 5 3) (by kernel_rfl) hHeld ?_ (hy := by rintro w' ⟨s0, s1, s2, s3⟩; go_simp; with_reducible rfl)
        refine one_ (i := 2) (N := some 59) (Sh.nm 5 7) rfl rfl (by kernel_rfl) (by decide) (fun K hK => ?_)
        refine goes_ Try.func8 (by kernel_rfl) rfl #[.agg #[.slice A1_0 l1_0.length c1_0, .slice A1_1 l1_1.length c1_1]] (by rfl) rfl rfl (by (try simp only [List.map_toArray, List.map_cons, List.map_nil]); first | done | rfl | (simp only [List.length_drop, List.length_take]; rfl)) ?_
        with_reducible refine (laws_toLasso.calls kj17 _ _ l1_0 _ _ l1_1 t266 t269 _ (Sh.cB HR1_0.out) HC1_0.out (Sh.cB HR1_1.out) HC1_1.out A44.out).mono ?_
        rintro e w59 ⟨v267, v270, rfl, ho0, ho1, hb⟩
        refine ⟨_, rfl, ?_⟩
        replace HO_10 := am_ (Kd.R_below (Sh.rl HO_10.out) hb)
        replace HO264 := am_ (Kd.R_below (Sh.rl HO264.out) hb)
        have HO268 := am_ (Kd.R_lower (Kd.R_new' (Kd.R_new' ho0 (Kd.R_lt (Sh.rl HO_260000.out))) (Kd.R_lt (Sh.rl HO_260001.out))) (below_size Sh.bw))
        have HO271 := am_ (Kd.R_lower (Kd.R_new' (Kd.R_new' ho1 (Kd.R_lt (Sh.rl HO_260000.out))) (Kd.R_lt (Sh.rl HO_260001.out))) (below_size Sh.bw))
        replace HO_260000 := am_ (Kd.R_mono (Kd.R_told (Kd.R_told (Kd.R_old (Sh.rl HO_260000.out) hb) (Kd.R_base ho0)) (Kd.R_base ho1)) (fun _ h_ => h_.1))
        replace HO_260001 := am_ (Kd.R_mono (Kd.R_told (Kd.R_told (Kd.R_old (Sh.rl HO_260001.out) hb) (Kd.R_base ho0)) (Kd.R_base ho1)) (fun _ h_ => h_.1))
        replace BK236 := Sh.ab BK236 hb
        replace BK259 := Sh.ab BK259 hb
        replace HB := Sh.hb hb
        (try clear hb)
        (try clear hb2)
        (try clear hk)
        (try clear hi)
        (try clear ho0)
        (try clear ho1)
        obtain ⟨Ao60, co60, eo60⟩ := Kd.R_slice HO268.out
        (first | subst eo60 | (injection eo60 with f1_ f2_ f3_; have f4_ := f1_.symm; have f5_ := f3_.symm; clear f1_ f2_ f3_; subst f4_; subst f5_))
        obtain ⟨Ao61, co61, eo61⟩ := Kd.R_slice HO271.out
        (first | subst eo61 | (injection eo61 with f1_ f2_ f3_; have f4_ := f1_.symm; have f5_ := f3_.symm; clear f1_ f2_ f3_; subst f4_; subst f5_))
        refine Sh.kN hK Sh.cs fun hHeld => ?_
        clear hK K
        refine one_ (i := 3) (N := some 60) (Sh.nm 5 15) rfl rfl (by kernel_rfl) (by decide) (fun K hK => ?_)
        refine goes_ Try.func11 (by kernel_rfl) rfl #[.agg #[.slice Ao33 t253.length co33, .slice Ao36 t256.length co36], .agg #[.slice Ao60 t266.length co60, .slice Ao61 t269.length co61]] (by rfl) rfl rfl (by (try simp only [List.map_toArray, List.map_cons, List.map_nil]); first | done | rfl | (simp only [List.length_drop, List.length_take]; rfl)) ?_
        with_reducible refine (laws_eqLasso.calls kj17 _ _ t253 _ _ t256 _ _ t266 _ _ t269 false _ (Sh.cR (Kd.R_reads' HO_260000.out).2.2) (Kd.R_reads' HO_260000.out).2.1 (Sh.cR (Kd.R_reads' HO_260001.out).2.2) (Kd.R_reads' HO_260001.out).2.1 (Sh.cR (Kd.R_reads' HO268.out).2.2) (Kd.R_reads' HO268.out).2.1 (Sh.cR (Kd.R_reads' HO271.out).2.2) (Kd.R_reads' HO271.out).2.1 A45.out).mono ?_
        rintro e w62 ⟨rfl, hb⟩
        refine ⟨_, rfl, ?_⟩
        replace HO_10 := am_ (Kd.R_below (Sh.rl HO_10.out) hb)
        replace HO_260000 := am_ (Kd.R_below (Sh.rl HO_260000.out) hb)
        replace HO_260001 := am_ (Kd.R_below (Sh.rl HO_260001.out) hb)
        replace HO264 := am_ (Kd.R_below (Sh.rl HO264.out) hb)
        replace HO268 := am_ (Kd.R_below (Sh.rl HO268.out) hb)
        replace HO271 := am_ (Kd.R_below (Sh.rl HO271.out) hb)
        replace BK236 := Sh.ab BK236 hb
        replace BK259 := Sh.ab BK259 hb
        replace HB := Sh.hb hb
        (try clear hb)
        (try clear hb2)
        (try clear hk)
        (try clear hi)
        refine Sh.kN hK Sh.cs fun hHeld => ?_
        clear hK K
        refine Sh.pA 4 61 (Sh.nm 5 31) (by kernel_rfl) ?_
        refine done_ (by kernel_rfl) ?_
        try go_wp2
        go_ret
        exact ⟨Sh.eR, Sh.bw⟩
      ·replace c43 := Bool.eq_false_iff.mpr c43
       subst c43
       rw [Sh.nf] at H
       obtain rfl := Option.some.inj H
       go_wp2_with (first | ((with_reducible refine Sh.k 7 ?_); refine Sh.gL (some 54) Try.func7 #[.slice A0 l0.length c0] (h := ?_); (with_reducible refine (laws_toSaidS.calls kj17 _ _ l0 t262 _ (Sh.cB HR0.out) HC0.out A41.out).mono ?_); rintro e w63 ⟨v263, rfl, ho0, hb⟩; refine ⟨_, rfl, ?_⟩; replace HO_260000 := am_ (Kd.R_below (Sh.rl HO_260000.out) hb); replace HO_260001 := am_ (Kd.R_below (Sh.rl HO_260001.out) hb); have HO264 := am_ (Kd.R_lower (Kd.R_new' ho0 (Kd.R_lt (Sh.rl HO_10.out))) (below_size Sh.bw)); replace HO_10 := am_ (Kd.R_elder' (Sh.rl HO_10.out) (Kd.R_base ho0) hb); replace BK236 := Sh.ab BK236 hb; replace BK259 := Sh.ab BK259 hb; replace HB := Sh.hb hb; (try clear hb); (try clear hb2); (try clear hk); (try clear hi); (try clear ho0); obtain ⟨Ao64, co64, eo64⟩ := Kd.R_slice HO264.out; subst eo64) | ((with_reducible refine Sh.k 10 ?_); refine Sh.gB (some 55) Try.func10 #[.slice Ao37 t239.length co37, .slice Ao64 t262.length co64] (laws_eqSaidS.calls kj17 _ _ t239 _ _ t262 false _ (Sh.cR (Kd.R_reads' HO_10.out).2.2) (Kd.R_reads' HO_10.out).2.1 (Sh.cR (Kd.R_reads' HO264.out).2.2) (Kd.R_reads' HO264.out).2.1 A42.out) fun w65 hb => ?_; replace HO_10 := am_ (Kd.R_below (Sh.rl HO_10.out) hb); replace HO_260000 := am_ (Kd.R_below (Sh.rl HO_260000.out) hb); replace HO_260001 := am_ (Kd.R_below (Sh.rl HO_260001.out) hb); replace HO264 := am_ (Kd.R_below (Sh.rl HO264.out) hb); replace BK236 := Sh.ab BK236 hb; replace BK259 := Sh.ab BK259 hb; replace HB := Sh.hb hb; (try clear hb); (try clear hb2); (try clear hk); (try clear hi)))
       go_ret
       exact ⟨Sh.eR, Sh.bw⟩
end Go.Proofs.Ytgcglmkkfkjhhaa.P
