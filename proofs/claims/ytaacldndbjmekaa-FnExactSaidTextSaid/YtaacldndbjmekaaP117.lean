/- Go functions of this seat as Lean functions, and the proofs that the calls come to what these say; printed by a program of this session. No condition. -/
import Derived.Test.YtaacldndbjmekaaP0
import Derived.Test.YtaacldndbjmekaaP52
import Derived.Test.YtaacldndbjmekaaP116
namespace Go.Proofs.Ytaacldndbjmekaa.P
open Go.RowKit Go.Proofs.YtaacldndbjmekaaW.PrintWords Go.Proofs.YtaacldndbjmekaaW.PrintLast Go.Proofs.YtaacldndbjmekaaW.PrintMore Go.Proofs.Ytaacldndbjmekaa.Hof
attribute [local go_sem] max2_int min2_int max_two min_two max_three min_three max_four min_four   -- for this text's walks alone
set_option linter.unusedVariables false
set_option linter.unusedSimpArgs false

/-! ### spec_l10Text: function 64 -/
def spec_l10Text.f : Nat → List (S59) → Int → Option (ByteArray)
 | 0, _, _ => none
 | k + 1, l0, a1 => if 0 ≤ a1 then (if a1 < (l0.length : Int) then (if ((rd_T59 l0 a1).f0) = 1 then (some (strOfNums (([(wrap64 (112 + ((rd_T59 l0 a1).f1))) % 256] : List Int)))) else (if ((rd_T59 l0 a1).f0) = 2 then ((spec_l1Num.f k (IntKind.u64.wrap ((rd_T59 l0 a1).f1))).bind fun t894 => (some t894)) else (if ((rd_T59 l0 a1).f0) = 3 then ((spec_l10Text.f k l0 (wrap64 (a1 - 1))).bind fun t895 => (if 1 + t895.size ≤ 9223372036854775807 then (some ((⟨#[33]⟩ : ByteArray) ++ t895)) else (none))) else (if ((rd_T59 l0 a1).f0) = 4 then ((spec_l10Text.f k l0 (wrap64 (a1 - 1))).bind fun t896 => (if 1 + t896.size ≤ 9223372036854775807 then (some ((⟨#[88]⟩ : ByteArray) ++ t896)) else (none))) else ((spec_l10From.f k l0 (wrap64 (a1 - 1))).bind fun t897 => ((spec_l10Text.f k l0 (wrap64 (t897 - 1))).bind fun t898 => (if 1 + t898.size ≤ 9223372036854775807 then (if 0 ≤ (wrap64 (((rd_T59 l0 a1).f0) - 5)) then (if (wrap64 (((rd_T59 l0 a1).f0) - 5)) ≤ (wrap64 ((wrap64 (((rd_T59 l0 a1).f0) - 5)) + 1)) then (if (wrap64 ((wrap64 (((rd_T59 l0 a1).f0) - 5)) + 1)) ≤ 4 then (if ((⟨#[40]⟩ : ByteArray) ++ t898).size + ((⟨#[38, 124, 85, 82]⟩ : ByteArray).extract ((wrap64 (((rd_T59 l0 a1).f0) - 5)) : Int).toNat ((wrap64 ((wrap64 (((rd_T59 l0 a1).f0) - 5)) + 1)) : Int).toNat).size ≤ 9223372036854775807 then ((spec_l10Text.f k l0 (wrap64 (a1 - 1))).bind fun t899 => (if (((⟨#[40]⟩ : ByteArray) ++ t898) ++ ((⟨#[38, 124, 85, 82]⟩ : ByteArray).extract ((wrap64 (((rd_T59 l0 a1).f0) - 5)) : Int).toNat ((wrap64 ((wrap64 (((rd_T59 l0 a1).f0) - 5)) + 1)) : Int).toNat)).size + t899.size ≤ 9223372036854775807 then (if ((((⟨#[40]⟩ : ByteArray) ++ t898) ++ ((⟨#[38, 124, 85, 82]⟩ : ByteArray).extract ((wrap64 (((rd_T59 l0 a1).f0) - 5)) : Int).toNat ((wrap64 ((wrap64 (((rd_T59 l0 a1).f0) - 5)) + 1)) : Int).toNat)) ++ t899).size + 1 ≤ 9223372036854775807 then (some (((((⟨#[40]⟩ : ByteArray) ++ t898) ++ ((⟨#[38, 124, 85, 82]⟩ : ByteArray).extract ((wrap64 (((rd_T59 l0 a1).f0) - 5)) : Int).toNat ((wrap64 ((wrap64 (((rd_T59 l0 a1).f0) - 5)) + 1)) : Int).toNat)) ++ t899) ++ (⟨#[41]⟩ : ByteArray))) else (none)) else (none))) else (none)) else (none)) else (none)) else (none)) else (none)))))))) else (none)) else (none)
theorem spec_l10Text.mono_l : ∀ k, (∀ y0 y1, LeO (spec_l10Text.f k y0 y1) (spec_l10Text.f (k + 1) y0 y1))
 | 0 => fun _ _ r h => by simp [spec_l10Text.f] at h
 | k + 1 => by
  have ih0 := spec_l10Text.mono_l k
  ·intro y0 y1
   unfold spec_l10Text.f
   repeat' with_reducible first | apply ih0 | apply spec_l10From.mono | apply spec_l1Num.mono | exact LeO.refl _ | exact LeO.none _ | apply LeO.ite | refine LeO.bind ?_ fun _ => ?_
theorem spec_l10Text.mono : ∀ a0 a1 k, LeO (spec_l10Text.f k a0 a1) (spec_l10Text.f (k + 1) a0 a1) := by
 intro a0 a1 k
 have ih0 := spec_l10Text.mono_l k
 exact ih0 a0 a1
def spec_l10Text.T11 : Bool × List (List Nat × List Nat) := (true, [([], []), ([], []), ([], []), ([2], [2]), ([1, 3], [1, 3]), ([4], [4]), ([0, 5, 4], [0, 5]), ([6], [6]), ([], []), ([8], [8]), ([9], [9]), ([], []), ([11], [11]), ([12], [12]), ([13], [13]), ([10, 14], [10, 14]), ([7, 15], [7, 15]), ([], []), ([], []), ([18], [18]), ([17, 19, 6], [17, 19]), ([16, 20], [16, 20]), ([21], [21]), ([22, 20, 0, 1, 2, 3, 4, 5, 6, 7, 8, 9, 10, 11, 12, 13, 14, 15, 16, 17, 18, 19, 20, 21, 22], [22])])
def spec_l10Text.B11 : List Nat := [0, 0, 0, 4, 14, 30, 63, 127, 0, 256, 768, 0, 2048, 6144, 14336, 32512, 65535, 0, 0, 262144, 917631, 2097151, 4194303, 8388607]
theorem spec_l10Text.tab11 : rtab .any (opsOf Try.f64 11) = spec_l10Text.T11 := by kernel_rfl
theorem spec_l10Text.bits11 : waitsOk spec_l10Text.T11.2 spec_l10Text.B11 = true := by kernel_rfl
set_option maxHeartbeats 8000000 in
set_option maxRecDepth 100000 in
theorem spec_l10Text.calls (k : Nat) : ∀ (A0 : Option Addr) (c0 : Nat) (l0 : List (S59)) (a1 : Int) (r : ByteArray) (w : World) (hr0 : Kd.C k59 w A0 l0.length l0) (hc0 : l0.length ≤ c0) (h : spec_l10Text.f k l0 a1 = some r),
  Calls Try.prog 64 #[.slice A0 l0.length c0, .int .i64 a1] w fun e w' => e = .returned (.string r) ∧ Below w.heap.size w w' := by
 induction k using Nat.strongRecOn with
 | _ k ih =>
 intro A0 c0 l0 a1 r w hr0 hc0 h
 cases k with
 | zero => exact absurd h (by simp [spec_l10Text.f])
 | succ k =>
 simp only [spec_l10Text.f] at h
 have hu59 := Try.underlying59
 have HR0 := am_ hr0
 have HC0 := am_ hc0
 clear hr0 hc0
 have HB := am_ (Below.refl w.heap.size w)
 have H : (if 0 ≤ a1 then (if a1 < (l0.length : Int) then (if ((rd_T59 l0 a1).f0) = 1 then (some (strOfNums (([(wrap64 (112 + ((rd_T59 l0 a1).f1))) % 256] : List Int)))) else (if ((rd_T59 l0 a1).f0) = 2 then ((spec_l1Num.f k (IntKind.u64.wrap ((rd_T59 l0 a1).f1))).bind fun t894 => (some t894)) else (if ((rd_T59 l0 a1).f0) = 3 then ((spec_l10Text.f k l0 (wrap64 (a1 - 1))).bind fun t895 => (if 1 + t895.size ≤ 9223372036854775807 then (some ((⟨#[33]⟩ : ByteArray) ++ t895)) else (none))) else (if ((rd_T59 l0 a1).f0) = 4 then ((spec_l10Text.f k l0 (wrap64 (a1 - 1))).bind fun t896 => (if 1 + t896.size ≤ 9223372036854775807 then (some ((⟨#[88]⟩ : ByteArray) ++ t896)) else (none))) else ((spec_l10From.f k l0 (wrap64 (a1 - 1))).bind fun t897 => ((spec_l10Text.f k l0 (wrap64 (t897 - 1))).bind fun t898 => (if 1 + t898.size ≤ 9223372036854775807 then (if 0 ≤ (wrap64 (((rd_T59 l0 a1).f0) - 5)) then (if (wrap64 (((rd_T59 l0 a1).f0) - 5)) ≤ (wrap64 ((wrap64 (((rd_T59 l0 a1).f0) - 5)) + 1)) then (if (wrap64 ((wrap64 (((rd_T59 l0 a1).f0) - 5)) + 1)) ≤ 4 then (if ((⟨#[40]⟩ : ByteArray) ++ t898).size + ((⟨#[38, 124, 85, 82]⟩ : ByteArray).extract ((wrap64 (((rd_T59 l0 a1).f0) - 5)) : Int).toNat ((wrap64 ((wrap64 (((rd_T59 l0 a1).f0) - 5)) + 1)) : Int).toNat).size ≤ 9223372036854775807 then ((spec_l10Text.f k l0 (wrap64 (a1 - 1))).bind fun t899 => (if (((⟨#[40]⟩ : ByteArray) ++ t898) ++ ((⟨#[38, 124, 85, 82]⟩ : ByteArray).extract ((wrap64 (((rd_T59 l0 a1).f0) - 5)) : Int).toNat ((wrap64 ((wrap64 (((rd_T59 l0 a1).f0) - 5)) + 1)) : Int).toNat)).size + t899.size ≤ 9223372036854775807 then (if ((((⟨#[40]⟩ : ByteArray) ++ t898) ++ ((⟨#[38, 124, 85, 82]⟩ : ByteArray).extract ((wrap64 (((rd_T59 l0 a1).f0) - 5)) : Int).toNat ((wrap64 ((wrap64 (((rd_T59 l0 a1).f0) - 5)) + 1)) : Int).toNat)) ++ t899).size + 1 ≤ 9223372036854775807 then (some (((((⟨#[40]⟩ : ByteArray) ++ t898) ++ ((⟨#[38, 124, 85, 82]⟩ : ByteArray).extract ((wrap64 (((rd_T59 l0 a1).f0) - 5)) : Int).toNat ((wrap64 ((wrap64 (((rd_T59 l0 a1).f0) - 5)) + 1)) : Int).toNat)) ++ t899) ++ (⟨#[41]⟩ : ByteArray))) else (none)) else (none))) else (none)) else (none)) else (none)) else (none)) else (none)))))))) else (none)) else (none)) = some r := h
 clear h
 by_cases c3 : 0 ≤ a1
 ·rw [if_pos c3] at H
  have c3b0 := decide_eq_true c3
  clear c3
  by_cases c4 : a1 < (l0.length : Int)
  ·rw [if_pos c4] at H
   have c4b0 := decide_eq_true c4
   clear c4
   by_cases c5 : ((rd_T59 l0 a1).f0) = 1
   ·rw [if_pos c5] at H
    have c5b0 : (((rd_T59 l0 a1).f0) == 1) = true := beq_iff_eq.mpr c5
    have c5b1 : (((rd_T59 l0 a1).f0) != 1) = false := bne_eq_false_iff_eq.mpr c5
    clear c5
    obtain ⟨y891, hy891⟩ : ∃ y_ : List Int, y_ = (([(wrap64 (112 + ((rd_T59 l0 a1).f1))) % 256] : List Int)) := ⟨_, rfl⟩
    replace H : (some (strOfNums y891)) = some r := by first | (rw [hy891]; with_reducible exact H) | (have H2_ := (Option.bind_some _ _).symm.trans H; rw [hy891]; with_reducible exact H2_) | (have H2_ := (Option.bind_some _ _).symm.trans H; with_reducible exact H2_) | with_reducible exact H | (rw [hy891]; exact H) | exact H
    have Ny891 := am_ hy891
    clear hy891
    obtain rfl := Option.some.inj H
    have p889 : 0 ≤ (a1 : Int) := Sh.od
    have q889 : a1 < (l0.length : Int) := Sh.od
    obtain ⟨ad889, e889, hx889_0, hx889_1⟩ := at_T59 HR0.out a1 p889 q889
    cases e889
    replace p889 := eq_true p889
    replace q889 := eq_true q889
    go_enter Try.func64, Try.ntmps64
    go_wp2_with (first | ((with_reducible refine Sh.d 5 ?_); refine Sh.bz w (N := 5) (cs := #[.int .i64 0, .int .i64 0]) (t := 59) (h := ?_); clear HB; intro gb890 w6 BK890 GE890 HB; obtain ⟨hcz7_0, hcz7_1, hfz7_0, hfz7_1⟩ := Sh.b2 BK890.out) | ((with_reducible refine Sh.d 18 ?_); refine Kd.R_lit (Kd.int .u8) _ 5 ?hg (N := 18) ?hd (xs := ([(wrap64 (112 + ((rd_T59 l0 a1).f1))) % 256] : List Int)) (inner := [.int .u8 ((wrap64 (112 + ((rd_T59 l0 a1).f1))) % 256)]) (ok := fun _ => True) (okp := fun _ => True) ?hr ?hp (fun _ hk => hk) trivial (Below.refl _ _) (Nat.le_refl _) (by simp) ?_; (case hd => rfl); (case hg => rfl); (case hr => first | (go_simp; done) | (go_simp; rfl)); (case hp => exact (Reps.one (show Kd.M (Kd.int .u8) _ _ _ ((wrap64 (112 + ((rd_T59 l0 a1).f1))) % 256) [.int .u8 ((wrap64 (112 + ((rd_T59 l0 a1).f1))) % 256)] from rfl) (Reps.none _ _))); intro v892 w8 ho9 hb hg_ hnew_; clear hg_ hnew_; (first | rw [← Ny891.out] at ho9 | (simp only [Int.reduceToNat] at ho9; rw [← Ny891.out] at ho9)); have HO893 := am_ (Kd.R_lower ho9 (below_size Sh.bw)); replace BK890 := am_ (blk_below (g := gb890) (o := .cells #[.int .i64 ((rd_T59 l0 a1).f0), .int .i64 ((rd_T59 l0 a1).f1)] 59 (0, 0)) (by refine Sh.pl ?_; refine blk_put (cs := #[.int .i64 ((rd_T59 l0 a1).f0), .int .i64 0]) ?_ 1 _ rfl; refine Sh.pl ?_; refine blk_put (cs := #[.int .i64 0, .int .i64 0]) ?_ 0 _ rfl; refine Sh.pl ?_; exact BK890.out) hb); replace HB := Sh.hb hb; clear hb ho9; have hcv10 := own_string (P := Try.prog) Try.underlying95 Try.underlying5 Try.underlying9 (Kd.own_of_R HO893.out)))
    go_ret
    exact ⟨Sh.eR, Sh.bw⟩
   ·rw [if_neg c5] at H
    have c5b0 : (((rd_T59 l0 a1).f0) == 1) = false := beq_eq_false_iff_ne.mpr c5
    have c5b1 : (((rd_T59 l0 a1).f0) != 1) = true := bne_iff_ne.mpr c5
    by_cases c11 : ((rd_T59 l0 a1).f0) = 2
    ·rw [if_pos c11] at H
     have c11b0 : (((rd_T59 l0 a1).f0) == 2) = true := beq_iff_eq.mpr c11
     have c11b1 : (((rd_T59 l0 a1).f0) != 2) = false := bne_eq_false_iff_eq.mpr c11
     clear c11
     obtain ⟨t894, A12, H⟩ := Sh.ba H
     obtain rfl := Option.some.inj H
     have p889 : 0 ≤ (a1 : Int) := Sh.od
     have q889 : a1 < (l0.length : Int) := Sh.od
     obtain ⟨ad889, e889, hx889_0, hx889_1⟩ := at_T59 HR0.out a1 p889 q889
     cases e889
     replace p889 := eq_true p889
     replace q889 := eq_true q889
     go_enter Try.func64, Try.ntmps64
     go_wp2_with (first | ((with_reducible refine Sh.d 5 ?_); refine Sh.bz w (N := 5) (cs := #[.int .i64 0, .int .i64 0]) (t := 59) (h := ?_); clear HB; intro gb890 w13 BK890 GE890 HB; obtain ⟨hcz14_0, hcz14_1, hfz14_0, hfz14_1⟩ := Sh.b2 BK890.out) | ((with_reducible refine Sh.k 86 ?_); refine Sh.gB (some 25) Try.func86 #[.int .u64 (IntKind.u64.wrap ((rd_T59 l0 a1).f1))] (spec_l1Num.calls k (IntKind.u64.wrap ((rd_T59 l0 a1).f1)) t894 _ A12.out) fun w15 hb => ?_; replace BK890 := am_ (blk_below (g := gb890) (o := .cells #[.int .i64 ((rd_T59 l0 a1).f0), .int .i64 ((rd_T59 l0 a1).f1)] 59 (0, 0)) (by refine Sh.pl ?_; refine blk_put (cs := #[.int .i64 ((rd_T59 l0 a1).f0), .int .i64 0]) ?_ 1 _ rfl; refine Sh.pl ?_; refine blk_put (cs := #[.int .i64 0, .int .i64 0]) ?_ 0 _ rfl; refine Sh.pl ?_; exact BK890.out) hb); replace HB := Sh.hb hb; (try clear hb); (try clear hb2); (try clear hk); (try clear hi)))
     go_ret
     exact ⟨Sh.eR, Sh.bw⟩
    ·rw [if_neg c11] at H
     have c11b0 : (((rd_T59 l0 a1).f0) == 2) = false := beq_eq_false_iff_ne.mpr c11
     have c11b1 : (((rd_T59 l0 a1).f0) != 2) = true := bne_iff_ne.mpr c11
     by_cases c16 : ((rd_T59 l0 a1).f0) = 3
     ·rw [if_pos c16] at H
      have c16b0 : (((rd_T59 l0 a1).f0) == 3) = true := beq_iff_eq.mpr c16
      have c16b1 : (((rd_T59 l0 a1).f0) != 3) = false := bne_eq_false_iff_eq.mpr c16
      clear c16
      obtain ⟨t895, A17, H⟩ := Sh.ba H
      by_cases c18 : 1 + t895.size ≤ 9223372036854775807
      ·rw [if_pos c18] at H
       have c18b0 := eq_true c18
       have c18b1 := decide_eq_true c18
       try have c18b2 : (9223372036854775807 < 1 + t895.size) = False := eq_false (Nat.not_lt.2 c18)
       obtain rfl := Option.some.inj H
       have p889 : 0 ≤ (a1 : Int) := Sh.od
       have q889 : a1 < (l0.length : Int) := Sh.od
       obtain ⟨ad889, e889, hx889_0, hx889_1⟩ := at_T59 HR0.out a1 p889 q889
       cases e889
       replace p889 := eq_true p889
       replace q889 := eq_true q889
       go_enter Try.func64, Try.ntmps64
       go_wp2_with (first | ((with_reducible refine Sh.d 5 ?_); refine Sh.bz w (N := 5) (cs := #[.int .i64 0, .int .i64 0]) (t := 59) (h := ?_); clear HB; intro gb890 w19 BK890 GE890 HB; obtain ⟨hcz20_0, hcz20_1, hfz20_0, hfz20_1⟩ := Sh.b2 BK890.out) | ((with_reducible refine Sh.k 64 ?_); refine Sh.gL (some 31) Try.func64 #[.slice (some ad889) l0.length c0, .int .i64 (wrap64 (a1 - 1))] (h := ?_); (with_reducible refine (ih k (by omega) _ _ l0 (wrap64 (a1 - 1)) t895 _ (Sh.cB HR0.out) HC0.out A17.out).mono ?_); rintro e w21 ⟨rfl, hb⟩; refine ⟨_, rfl, ?_⟩; replace BK890 := am_ (blk_below (g := gb890) (o := .cells #[.int .i64 ((rd_T59 l0 a1).f0), .int .i64 ((rd_T59 l0 a1).f1)] 59 (0, 0)) (by refine Sh.pl ?_; refine blk_put (cs := #[.int .i64 ((rd_T59 l0 a1).f0), .int .i64 0]) ?_ 1 _ rfl; refine Sh.pl ?_; refine blk_put (cs := #[.int .i64 0, .int .i64 0]) ?_ 0 _ rfl; refine Sh.pl ?_; exact BK890.out) hb); replace HB := Sh.hb hb; (try clear hb); (try clear hb2); (try clear hk); (try clear hi)))
       go_ret
       exact ⟨Sh.eR, Sh.bw⟩
      ·rw [if_neg c18] at H
       exact absurd H (by simp)
     ·rw [if_neg c16] at H
      have c16b0 : (((rd_T59 l0 a1).f0) == 3) = false := beq_eq_false_iff_ne.mpr c16
      have c16b1 : (((rd_T59 l0 a1).f0) != 3) = true := bne_iff_ne.mpr c16
      by_cases c22 : ((rd_T59 l0 a1).f0) = 4
      ·rw [if_pos c22] at H
       have c22b0 : (((rd_T59 l0 a1).f0) == 4) = true := beq_iff_eq.mpr c22
       have c22b1 : (((rd_T59 l0 a1).f0) != 4) = false := bne_eq_false_iff_eq.mpr c22
       clear c22
       obtain ⟨t896, A23, H⟩ := Sh.ba H
       by_cases c24 : 1 + t896.size ≤ 9223372036854775807
       ·rw [if_pos c24] at H
        have c24b0 := eq_true c24
        have c24b1 := decide_eq_true c24
        try have c24b2 : (9223372036854775807 < 1 + t896.size) = False := eq_false (Nat.not_lt.2 c24)
        obtain rfl := Option.some.inj H
        have p889 : 0 ≤ (a1 : Int) := Sh.od
        have q889 : a1 < (l0.length : Int) := Sh.od
        obtain ⟨ad889, e889, hx889_0, hx889_1⟩ := at_T59 HR0.out a1 p889 q889
        cases e889
        replace p889 := eq_true p889
        replace q889 := eq_true q889
        go_enter Try.func64, Try.ntmps64
        go_wp2_with (first | ((with_reducible refine Sh.d 5 ?_); refine Sh.bz w (N := 5) (cs := #[.int .i64 0, .int .i64 0]) (t := 59) (h := ?_); clear HB; intro gb890 w25 BK890 GE890 HB; obtain ⟨hcz26_0, hcz26_1, hfz26_0, hfz26_1⟩ := Sh.b2 BK890.out) | ((with_reducible refine Sh.k 64 ?_); refine Sh.gL (some 38) Try.func64 #[.slice (some ad889) l0.length c0, .int .i64 (wrap64 (a1 - 1))] (h := ?_); (with_reducible refine (ih k (by omega) _ _ l0 (wrap64 (a1 - 1)) t896 _ (Sh.cB HR0.out) HC0.out A23.out).mono ?_); rintro e w27 ⟨rfl, hb⟩; refine ⟨_, rfl, ?_⟩; replace BK890 := am_ (blk_below (g := gb890) (o := .cells #[.int .i64 ((rd_T59 l0 a1).f0), .int .i64 ((rd_T59 l0 a1).f1)] 59 (0, 0)) (by refine Sh.pl ?_; refine blk_put (cs := #[.int .i64 ((rd_T59 l0 a1).f0), .int .i64 0]) ?_ 1 _ rfl; refine Sh.pl ?_; refine blk_put (cs := #[.int .i64 0, .int .i64 0]) ?_ 0 _ rfl; refine Sh.pl ?_; exact BK890.out) hb); replace HB := Sh.hb hb; (try clear hb); (try clear hb2); (try clear hk); (try clear hi)))
        go_ret
        exact ⟨Sh.eR, Sh.bw⟩
       ·rw [if_neg c24] at H
        exact absurd H (by simp)
      ·rw [if_neg c22] at H
       have c22b0 : (((rd_T59 l0 a1).f0) == 4) = false := beq_eq_false_iff_ne.mpr c22
       have c22b1 : (((rd_T59 l0 a1).f0) != 4) = true := bne_iff_ne.mpr c22
       obtain ⟨t897, A28, H⟩ := Sh.ba H
       obtain ⟨t898, A29, H⟩ := Sh.ba H
       by_cases c30 : 1 + t898.size ≤ 9223372036854775807
       ·rw [if_pos c30] at H
        have c30b0 := eq_true c30
        have c30b1 := decide_eq_true c30
        try have c30b2 : (9223372036854775807 < 1 + t898.size) = False := eq_false (Nat.not_lt.2 c30)
        obtain ⟨ji31, hj1⟩ : ∃ j_ : Int, (wrap64 (((rd_T59 l0 a1).f0) - 5)) = j_ := ⟨_, rfl⟩
        replace H : (if 0 ≤ (ji31) then (if (ji31) ≤ (wrap64 ((ji31) + 1)) then (if (wrap64 ((ji31) + 1)) ≤ 4 then (if ((⟨#[40]⟩ : ByteArray) ++ t898).size + ((⟨#[38, 124, 85, 82]⟩ : ByteArray).extract ((ji31) : Int).toNat ((wrap64 ((ji31) + 1)) : Int).toNat).size ≤ 9223372036854775807 then ((spec_l10Text.f k l0 (wrap64 (a1 - 1))).bind fun t899 => (if (((⟨#[40]⟩ : ByteArray) ++ t898) ++ ((⟨#[38, 124, 85, 82]⟩ : ByteArray).extract ((ji31) : Int).toNat ((wrap64 ((ji31) + 1)) : Int).toNat)).size + t899.size ≤ 9223372036854775807 then (if ((((⟨#[40]⟩ : ByteArray) ++ t898) ++ ((⟨#[38, 124, 85, 82]⟩ : ByteArray).extract ((ji31) : Int).toNat ((wrap64 ((ji31) + 1)) : Int).toNat)) ++ t899).size + 1 ≤ 9223372036854775807 then (some (((((⟨#[40]⟩ : ByteArray) ++ t898) ++ ((⟨#[38, 124, 85, 82]⟩ : ByteArray).extract ((ji31) : Int).toNat ((wrap64 ((ji31) + 1)) : Int).toNat)) ++ t899) ++ (⟨#[41]⟩ : ByteArray))) else (none)) else (none))) else (none)) else (none)) else (none)) else (none)) = some r := by first | (rw [hj1] at H; exact H) | (simp only [hj1] at H ⊢; exact H)
        (try rw [hj1] at A28)
        (try rw [hj1] at A29)
        have hji31w : (IntKind.i64.wrap (((rd_T59 l0 a1).f0) - 5)) = ji31 := (i64_w _).trans hj1
        by_cases c32 : 0 ≤ (ji31)
        ·rw [if_pos c32] at H
         have c32b0 := eq_true c32
         have c32b1 := decide_eq_true c32
         clear c32
         by_cases c33 : (ji31) ≤ (wrap64 ((ji31) + 1))
         ·rw [if_pos c33] at H
          have c33b0 := eq_true c33
          have c33b1 := decide_eq_true c33
          by_cases c34 : (wrap64 ((ji31) + 1)) ≤ 4
          ·rw [if_pos c34] at H
           have c34b0 := eq_true c34
           have c34b1 := decide_eq_true c34
           by_cases c35 : ((⟨#[40]⟩ : ByteArray) ++ t898).size + ((⟨#[38, 124, 85, 82]⟩ : ByteArray).extract ((ji31) : Int).toNat ((wrap64 ((ji31) + 1)) : Int).toNat).size ≤ 9223372036854775807
           ·rw [if_pos c35] at H
            have c35b0 := eq_true c35
            have c35b1 := decide_eq_true c35
            try have c35b2 : (9223372036854775807 < ((⟨#[40]⟩ : ByteArray) ++ t898).size + ((⟨#[38, 124, 85, 82]⟩ : ByteArray).extract ((ji31) : Int).toNat ((wrap64 ((ji31) + 1)) : Int).toNat).size) = False := eq_false (Nat.not_lt.2 c35)
            obtain ⟨t899, A36, H⟩ := Sh.ba H
            by_cases c37 : (((⟨#[40]⟩ : ByteArray) ++ t898) ++ ((⟨#[38, 124, 85, 82]⟩ : ByteArray).extract ((ji31) : Int).toNat ((wrap64 ((ji31) + 1)) : Int).toNat)).size + t899.size ≤ 9223372036854775807
            ·rw [if_pos c37] at H
             have c37b0 := eq_true c37
             have c37b1 := decide_eq_true c37
             try have c37b2 : (9223372036854775807 < (((⟨#[40]⟩ : ByteArray) ++ t898) ++ ((⟨#[38, 124, 85, 82]⟩ : ByteArray).extract ((ji31) : Int).toNat ((wrap64 ((ji31) + 1)) : Int).toNat)).size + t899.size) = False := eq_false (Nat.not_lt.2 c37)
             by_cases c38 : ((((⟨#[40]⟩ : ByteArray) ++ t898) ++ ((⟨#[38, 124, 85, 82]⟩ : ByteArray).extract ((ji31) : Int).toNat ((wrap64 ((ji31) + 1)) : Int).toNat)) ++ t899).size + 1 ≤ 9223372036854775807
             ·rw [if_pos c38] at H
              have c38b0 := eq_true c38
              have c38b1 := decide_eq_true c38
              try have c38b2 : (9223372036854775807 < ((((⟨#[40]⟩ : ByteArray) ++ t898) ++ ((⟨#[38, 124, 85, 82]⟩ : ByteArray).extract ((ji31) : Int).toNat ((wrap64 ((ji31) + 1)) : Int).toNat)) ++ t899).size + 1) = False := eq_false (Nat.not_lt.2 c38)
              obtain rfl := Option.some.inj H
              have hs1_ : ((⟨#[40]⟩ : ByteArray) ++ t898).size = 1 + t898.size := ByteArray.size_append
              have hs2_ : ((⟨#[38, 124, 85, 82]⟩ : ByteArray).extract ((ji31) : Int).toNat ((wrap64 ((ji31) + 1)) : Int).toNat).size = ((wrap64 (ji31 + 1)).toNat - ji31.toNat) := by rw [ByteArray.size_extract]; show min _ 4 - _ = _; rw [Nat.min_eq_left (by omega)]
              have hs6_ := c35
              have hs7_ := c37
              have hs8_ := c38
              rw [hs1_, hs2_] at hs6_
              rw [ByteArray.size_append, hs1_, hs2_] at hs7_
              rw [ByteArray.size_append, ByteArray.size_append, hs1_, hs2_] at hs8_
              have hs3_ : (9223372036854775807 < 1 + t898.size + ((wrap64 (ji31 + 1)).toNat - ji31.toNat)) = False := eq_false (Nat.not_lt.2 hs6_)
              have hs4_ : (9223372036854775807 < 1 + t898.size + ((wrap64 (ji31 + 1)).toNat - ji31.toNat) + t899.size) = False := eq_false (Nat.not_lt.2 hs7_)
              have hs5_ : (9223372036854775807 < 1 + t898.size + ((wrap64 (ji31 + 1)).toNat - ji31.toNat) + t899.size + 1) = False := eq_false (Nat.not_lt.2 hs8_)
              clear hs6_ hs7_ hs8_ hs1_ hs2_
              have p889 : 0 ≤ (a1 : Int) := Sh.od
              have q889 : a1 < (l0.length : Int) := Sh.od
              obtain ⟨ad889, e889, hx889_0, hx889_1⟩ := at_T59 HR0.out a1 p889 q889
              cases e889
              replace p889 := eq_true p889
              replace q889 := eq_true q889
              go_enter Try.func64, Try.ntmps64
              try go_wp2_with (first | ((with_reducible refine Sh.d 5 ?_); refine Sh.bz w (N := 5) (cs := #[.int .i64 0, .int .i64 0]) (t := 59) (h := ?_); clear HB; intro gb890 w39 BK890 GE890 HB; obtain ⟨hcz40_0, hcz40_1, hfz40_0, hfz40_1⟩ := Sh.b2 BK890.out))
              have n0_ : Aside0 (((w39.setCell ⟨gb890, 0, none⟩ (.int .i64 ((rd_T59 l0 a1).f0))).setCell ⟨gb890, 1, none⟩ (.int .i64 ((rd_T59 l0 a1).f1))).heap[gb890]? = some (.cells #[.int .i64 ((rd_T59 l0 a1).f0), .int .i64 ((rd_T59 l0 a1).f1)] 59 (0, 0))) := ⟨by refine Sh.pl ?_; refine blk_put (cs := #[.int .i64 ((rd_T59 l0 a1).f0), .int .i64 0]) ?_ 1 _ rfl; refine Sh.pl ?_; refine blk_put (cs := #[.int .i64 0, .int .i64 0]) ?_ 0 _ rfl; refine Sh.pl ?_; exact BK890.out⟩
              have n1_ : Aside0 (Below w.heap.size w ((w39.setCell ⟨gb890, 0, none⟩ (.int .i64 ((rd_T59 l0 a1).f0))).setCell ⟨gb890, 1, none⟩ (.int .i64 ((rd_T59 l0 a1).f1)))) := ⟨Sh.bw⟩
              (try clear BK890)
              (try clear HB)
              generalize ((w39.setCell ⟨gb890, 0, none⟩ (.int .i64 ((rd_T59 l0 a1).f0))).setCell ⟨gb890, 1, none⟩ (.int .i64 ((rd_T59 l0 a1).f1))) = w41 at n0_ n1_ ⊢
              have BK890 := n0_
              have HB := n1_
              clear n0_ n1_
              replace BK890 := am_ (blk_drew BK890.out)
              replace HB := am_ (below_drew1 HB.out)
              refine start_ (n := 24) (S := fun w' => w'.cell? ⟨gb890, 0, none⟩ = some (.int .i64 ((rd_T59 l0 a1).f0)) ∧ w'.cell? ⟨gb890, 1, none⟩ = some (.int .i64 ((rd_T59 l0 a1).f1))) (ds := []) (Sh.nm 24 0) (by kernel_rfl) rfl rfl Sh.cs (fun hHeld => ?_); refine with_tabW spec_l10Text.tab11 spec_l10Text.bits11 (fun HT_ HW_ => ?_)
              generalize w41.drew = w42 at BK890 HB hHeld ⊢
              refine Sh.qA 0 ?_; refine Sh.qA 1 ?_; refine Sh.qA 2 ?_; refine Sh.qA 3 ?_; refine Sh.qA 8 ?_; refine Sh.qA 11 ?_; refine Sh.qA 17 ?_; refine Sh.qA 18 ?_; refine Sh.qA 19 ?_; refine Sh.qT 9 hHeld ?_; refine Sh.qA 10 ?_; refine Sh.qT 12 hHeld ?_; refine Sh.qA 13 ?_; refine Sh.qA 14 ?_; refine Sh.qA 15 ?_
              refine Sh.oC 4 Try.func83 #[.slice (some ad889) l0.length c0, .int .i64 (wrap64 (a1 - 1))] fun K hK => ?_
              with_reducible refine (spec_l10From.calls k _ _ l0 (wrap64 (a1 - 1)) t897 _ (Sh.cB HR0.out) HC0.out A28.out).mono ?_
              rintro e w' ⟨rfl, ⟨nd, rfl⟩⟩
              refine ⟨_, rfl, ?_⟩
              refine Sh.kN hK Sh.cs fun hHeld => ?_
              clear hK K
              refine Sh.qA 5 ?_
              refine Sh.oC 6 Try.func64 #[.slice (some ad889) l0.length c0, .int .i64 (wrap64 (t897 - 1))] fun K hK => ?_
              with_reducible refine (ih k (by omega) _ _ l0 (wrap64 (t897 - 1)) t898 _ ?side1 ?side2 A29.out).mono ?_
              (case side1 => repeat (first | exact (Kd.C_below HR0.out Sh.bw) | (with_reducible first | refine Kd.C_alloc ?_ _ | refine Kd.C_drewN ?_ _ | refine Kd.C_drew ?_)))
              (case side2 => exact HC0.out)
              rintro e w43 ⟨rfl, hb⟩
              refine ⟨_, rfl, ?_⟩
              replace BK890 := Sh.ab BK890 hb
              replace HB := Sh.hb hb
              (try clear hb)
              (try clear hb2)
              (try clear hk)
              (try clear hi)
              refine Sh.kN hK Sh.cs fun hHeld => ?_
              clear hK K
              refine Sh.qA 7 ?_; refine Sh.qA 16 ?_
              refine Sh.oC 20 Try.func64 #[.slice (some ad889) l0.length c0, .int .i64 (wrap64 (a1 - 1))] fun K hK => ?_
              with_reducible refine (ih k (by omega) _ _ l0 (wrap64 (a1 - 1)) t899 _ ?side1 ?side2 A36.out).mono ?_
              (case side1 => repeat (first | exact (Kd.C_below HR0.out HB.out) | (with_reducible first | refine Kd.C_alloc ?_ _ | refine Kd.C_drewN ?_ _ | refine Kd.C_drew ?_)))
              (case side2 => exact HC0.out)
              rintro e w44 ⟨rfl, hb⟩
              refine ⟨_, rfl, ?_⟩
              replace BK890 := Sh.ab BK890 hb
              replace HB := Sh.hb hb
              (try clear hb)
              (try clear hb2)
              (try clear hk)
              (try clear hi)
              refine Sh.kN hK Sh.cs fun hHeld => ?_
              clear hK K
              refine Sh.qA 21 ?_; refine Sh.qA 22 ?_; refine Sh.qA 23 ?_
              refine done_ (done_of HT_.out (by kernel_rfl)) ?_
              try go_wp2
              go_ret
              exact ⟨by first | rfl | (simp [errW_none, errW_some] <;> rfl) | (simp only [← hj1]; first | rfl | (simp [errW_none, errW_some] <;> rfl)) | (simp [*, errW_none, errW_some] <;> rfl), Sh.bw⟩
             ·rw [if_neg c38] at H
              exact absurd H (by simp)
            ·rw [if_neg c37] at H
             exact absurd H (by simp)
           ·rw [if_neg c35] at H
            exact absurd H (by simp)
          ·rw [if_neg c34] at H
           exact absurd H (by simp)
         ·rw [if_neg c33] at H
          exact absurd H (by simp)
        ·rw [if_neg c32] at H
         exact absurd H (by simp)
       ·rw [if_neg c30] at H
        exact absurd H (by simp)
  ·rw [if_neg c4] at H
   exact absurd H (by simp)
 ·rw [if_neg c3] at H
  exact absurd H (by simp)

end Go.Proofs.Ytaacldndbjmekaa.P
