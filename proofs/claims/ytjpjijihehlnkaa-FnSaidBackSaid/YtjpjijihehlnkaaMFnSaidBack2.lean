/- Go functions of this seat as Lean functions, and the proofs that the calls come to what these say; printed by a program of this session. No condition. -/
import Derived.Test.YtjpjijihehlnkaaP0
import Derived.Test.YtjpjijihehlnkaaMFnSaidBack1
set_option linter.unusedVariables false
set_option linter.unusedSimpArgs false
set_option maxHeartbeats 40000000
set_option maxRecDepth 100000
namespace Go.Proofs.Ytjpjijihehlnkaa.P
open Go.RowKit Go.Proofs.YtjpjijihehlnkaaW.PrintWords Go.Proofs.YtjpjijihehlnkaaW.PrintLast Go.Proofs.YtjpjijihehlnkaaW.PrintMore Go.Proofs.Ytjpjijihehlnkaa.Hof
attribute [local go_sem] max2_int min2_int max_two min_two max_three min_three max_four min_four
mutual
def spec_l10From.l0 : Nat → List (S35) → Int → Int → Option (Int)
 | 0, _, _, _ => none
 | k + 1, x0, x5, x6 => if x6 > 0 then ((spec_l10From.f k x0 (wrap64 (x5 - 1))).bind fun t253 => (spec_l10From.l0 k x0 t253 (wrap64 (x6 - 1)))) else (some x5)
def spec_l10From.f : Nat → List (S35) → Int → Option (Int)
 | 0, _, _ => none
 | k + 1, l0, a1 => if 0 ≤ a1 then (if a1 < (l0.length : Int) then ((spec_l10Need.f k ((rd_T35 l0 a1).f0)).bind fun t252 => (spec_l10From.l0 k l0 a1 t252)) else (none)) else (none)
end
theorem spec_l10From.mono_l : ∀ k, (∀ y0 y1, LeO (spec_l10From.f k y0 y1) (spec_l10From.f (k + 1) y0 y1)) ∧ (∀ y0 y1 y2, LeO (spec_l10From.l0 k y0 y1 y2) (spec_l10From.l0 (k + 1) y0 y1 y2))
 | 0 => ⟨fun _ _ r h => by simp [spec_l10From.f] at h, fun _ _ _ r h => by simp [spec_l10From.l0] at h⟩
 | k + 1 => by
  obtain ⟨ih0, ih1⟩ := spec_l10From.mono_l k
  and_intros <;> intros
  all_goals (first | unfold spec_l10From.f | unfold spec_l10From.l0)
  all_goals repeat' with_reducible first | apply ih0 | apply ih1 | apply spec_l10Need.mono | exact LeO.refl _ | exact LeO.none _ | apply LeO.ite | refine LeO.bind ?_ fun _ => ?_
theorem spec_l10From.mono : ∀ a0 a1 k, LeO (spec_l10From.f k a0 a1) (spec_l10From.f (k + 1) a0 a1) := by
 intro a0 a1 k
 obtain ⟨ih0, ih1⟩ := spec_l10From.mono_l k
 exact ih0 a0 a1
theorem spec_l10From.calls (k : Nat) : ∀ (A0 : Option Addr) (c0 : Nat) (l0 : List (S35)) (a1 : Int) (r : Int) (w : World) (hr0 : Kd.C k35 w A0 l0.length l0) (hc0 : l0.length ≤ c0) (h : spec_l10From.f k l0 a1 = some r),
  Calls Try.prog 28 #[.slice A0 l0.length c0, .int .i64 a1] w fun e w' => e = .returned (.int .i64 r) ∧ Drawn0 w w' := by
 induction k using Nat.strongRecOn with
 | _ k ih =>
 intro A0 c0 l0 a1 r w hr0 hc0 h
 cases k with
 | zero => exact absurd h (by simp [spec_l10From.f])
 | succ k =>
 simp only [spec_l10From.f] at h
 have HR0 := am_ hr0
 have HC0 := am_ hc0
 clear hr0 hc0
 have H : (if 0 ≤ a1 then (if a1 < (l0.length : Int) then ((spec_l10Need.f k ((rd_T35 l0 a1).f0)).bind fun t252 => (spec_l10From.l0 k l0 a1 t252)) else (none)) else (none)) = some r := h
 clear h
 by_cases c3 : 0 ≤ a1
 ·rw [if_pos c3] at H
  have c3b0 := decide_eq_true c3
  clear c3
  by_cases c4 : a1 < (l0.length : Int)
  ·rw [if_pos c4] at H
   have c4b0 := decide_eq_true c4
   clear c4
   obtain ⟨t252, A5, H⟩ := Sh.ba H
   have H' := am_ H
   clear H
   have p251 : 0 ≤ (a1 : Int) := Sh.od
   have q251 : a1 < (l0.length : Int) := Sh.od
   obtain ⟨ad251, e251, hx251_0, hx251_1⟩ := at_T35 HR0.out a1 p251 q251
   cases e251
   replace p251 := eq_true p251
   replace q251 := eq_true q251
   go_enter Try.func28, Try.ntmps28
   go_wp2_with (first | ((with_reducible refine Sh.k 25 ?_); refine Sh.gD (some 13) Try.func25 #[.int .i64 ((rd_T35 l0 a1).f0)] (spec_l10Need.calls k ((rd_T35 l0 a1).f0) t252 _ A5.out) fun nd => ?_))
   go_loopg [5, 6] k (fun kq v5 v6 w' => ∃ (x5_1 : Int) (x6_1 : Int), v5 = .int .i64 x5_1 ∧ v6 = .int .i64 x6_1 ∧ Aside0 (spec_l10From.l0 kq l0 x5_1 x6_1 = some r) ∧ Aside0 (kq ≤ k) ∧ Drawn0 w w')
   case atStart => exact ⟨(a1), (t252), (Sh.es), (Sh.es), H', ⟨Nat.le_refl _⟩, Sh.dr⟩
   case round =>
    clear H'
    try clear hx2
    try clear hx251_0
    try clear hx251_1
    obtain ⟨x5_1, x6_1, rfl, rfl, HA, HK1, ⟨m1, rfl⟩⟩ := hrel
    cases gk with
    | zero => exact absurd HA.out (by simp [spec_l10From.l0])
    | succ k1 =>
     have H := HA.out
     clear HA
     simp only [spec_l10From.l0] at H
     by_cases c6 : x6_1 > 0
     ·rw [if_pos c6] at H
      have c6b0 : decide (0 < x6_1) = true := decide_eq_true c6
      clear c6
      obtain ⟨t253, A7, H⟩ := Sh.ba H
      have H' := am_ H
      clear H
      go_wp2_with (first | ((with_reducible refine Sh.k 28 ?_); refine Sh.gL (some 21) Try.func28 #[.slice (some ad251) l0.length c0, .int .i64 (wrap64 (x5_1 - 1))] (h := ?_); (with_reducible refine (ih k1 (by have := HK1.out; omega) _ _ l0 (wrap64 (x5_1 - 1)) t253 _ ?side1 ?side2 A7.out).mono ?_); (case side1 => repeat (first | exact HR0.out | (with_reducible first | refine Kd.C_alloc ?_ _ | refine Kd.C_drewN ?_ _ | refine Kd.C_drew ?_))); (case side2 => exact HC0.out); rintro e w' ⟨rfl, ⟨nd, rfl⟩⟩; refine ⟨_, rfl, ?_⟩))
      go_roundg k1
      case measure => have := HK1.out; omega
      case rel => exact ⟨(t253), (wrap64 (x6_1 - 1)), (Sh.es), (Sh.es), H', ⟨by have := HK1.out; omega⟩, Sh.dr⟩
     ·rw [if_neg c6] at H
      have c6b0 : decide (0 < x6_1) = false := decide_eq_false c6
      clear c6
      obtain rfl := Option.some.inj H
      go_wp2
      go_ret
      exact ⟨Sh.es, Sh.dr⟩
  ·rw [if_neg c4] at H
   exact absurd H (by simp)
 ·rw [if_neg c3] at H
  exact absurd H (by simp)
def spec_l10Text.f : Nat → List (S35) → Int → Option (ByteArray)
 | 0, _, _ => none
 | k + 1, l0, a1 => if 0 ≤ a1 then (if a1 < (l0.length : Int) then (if ((rd_T35 l0 a1).f0) = 1 then (some (strOfNums (([(wrap64 (112 + ((rd_T35 l0 a1).f1))) % 256] : List Int)))) else (if ((rd_T35 l0 a1).f0) = 2 then ((spec_l1Num.f k (IntKind.u64.wrap ((rd_T35 l0 a1).f1))).bind fun t259 => (some t259)) else (if ((rd_T35 l0 a1).f0) = 3 then ((spec_l10Text.f k l0 (wrap64 (a1 - 1))).bind fun t260 => (if 1 + t260.size ≤ 9223372036854775807 then (some ((⟨#[33]⟩ : ByteArray) ++ t260)) else (none))) else (if ((rd_T35 l0 a1).f0) = 4 then ((spec_l10Text.f k l0 (wrap64 (a1 - 1))).bind fun t261 => (if 1 + t261.size ≤ 9223372036854775807 then (some ((⟨#[88]⟩ : ByteArray) ++ t261)) else (none))) else ((spec_l10From.f k l0 (wrap64 (a1 - 1))).bind fun t262 => ((spec_l10Text.f k l0 (wrap64 (t262 - 1))).bind fun t263 => (if 1 + t263.size ≤ 9223372036854775807 then (if 0 ≤ (wrap64 (((rd_T35 l0 a1).f0) - 5)) then (if (wrap64 (((rd_T35 l0 a1).f0) - 5)) ≤ (wrap64 ((wrap64 (((rd_T35 l0 a1).f0) - 5)) + 1)) then (if (wrap64 ((wrap64 (((rd_T35 l0 a1).f0) - 5)) + 1)) ≤ 4 then (if ((⟨#[40]⟩ : ByteArray) ++ t263).size + ((⟨#[38, 124, 85, 82]⟩ : ByteArray).extract ((wrap64 (((rd_T35 l0 a1).f0) - 5)) : Int).toNat ((wrap64 ((wrap64 (((rd_T35 l0 a1).f0) - 5)) + 1)) : Int).toNat).size ≤ 9223372036854775807 then ((spec_l10Text.f k l0 (wrap64 (a1 - 1))).bind fun t264 => (if (((⟨#[40]⟩ : ByteArray) ++ t263) ++ ((⟨#[38, 124, 85, 82]⟩ : ByteArray).extract ((wrap64 (((rd_T35 l0 a1).f0) - 5)) : Int).toNat ((wrap64 ((wrap64 (((rd_T35 l0 a1).f0) - 5)) + 1)) : Int).toNat)).size + t264.size ≤ 9223372036854775807 then (if ((((⟨#[40]⟩ : ByteArray) ++ t263) ++ ((⟨#[38, 124, 85, 82]⟩ : ByteArray).extract ((wrap64 (((rd_T35 l0 a1).f0) - 5)) : Int).toNat ((wrap64 ((wrap64 (((rd_T35 l0 a1).f0) - 5)) + 1)) : Int).toNat)) ++ t264).size + 1 ≤ 9223372036854775807 then (some (((((⟨#[40]⟩ : ByteArray) ++ t263) ++ ((⟨#[38, 124, 85, 82]⟩ : ByteArray).extract ((wrap64 (((rd_T35 l0 a1).f0) - 5)) : Int).toNat ((wrap64 ((wrap64 (((rd_T35 l0 a1).f0) - 5)) + 1)) : Int).toNat)) ++ t264) ++ (⟨#[41]⟩ : ByteArray))) else (none)) else (none))) else (none)) else (none)) else (none)) else (none)) else (none)))))))) else (none)) else (none)
theorem spec_l10Text.mono_l : ∀ k, (∀ y0 y1, LeO (spec_l10Text.f k y0 y1) (spec_l10Text.f (k + 1) y0 y1))
 | 0 => fun _ _ r h => by simp [spec_l10Text.f] at h
 | k + 1 => by
  have ih0 := spec_l10Text.mono_l k
  ·intro y0 y1
   unfold spec_l10Text.f
   repeat' with_reducible first | apply ih0 | apply spec_l10From.mono | apply spec_l1Num.mono | exact LeO.refl _ | exact LeO.none _ | apply LeO.ite | refine LeO.bind ?_ fun _ => ?_
theorem spec_l10Text.mono : ∀ a0 a1 k, LeO (spec_l10Text.f k a0 a1) (spec_l10Text.f (k + 1) a0 a1) := by
 intro a0 a1 k
 have ih0 := spec_l10Text.mono_l k
 exact ih0 a0 a1
def spec_l10Text.T11 : Bool × List (List Nat × List Nat) := (true, [([], []), ([], []), ([], []), ([2], [2]), ([1, 3], [1, 3]), ([4], [4]), ([0, 5, 4], [0, 5]), ([6], [6]), ([], []), ([8], [8]), ([9], [9]), ([], []), ([11], [11]), ([12], [12]), ([13], [13]), ([10, 14], [10, 14]), ([7, 15], [7, 15]), ([], []), ([], []), ([18], [18]), ([17, 19, 6], [17, 19]), ([16, 20], [16, 20]), ([21], [21]), ([22, 20, 0, 1, 2, 3, 4, 5, 6, 7, 8, 9, 10, 11, 12, 13, 14, 15, 16, 17, 18, 19, 20, 21, 22], [22])])
def spec_l10Text.B11 : List Nat := [0, 0, 0, 4, 14, 30, 63, 127, 0, 256, 768, 0, 2048, 6144, 14336, 32512, 65535, 0, 0, 262144, 917631, 2097151, 4194303, 8388607]
theorem spec_l10Text.tab11 : rtab .any (opsOf Try.f16 11) = spec_l10Text.T11 := by kernel_rfl
theorem spec_l10Text.bits11 : waitsOk spec_l10Text.T11.2 spec_l10Text.B11 = true := by kernel_rfl
theorem spec_l10Text.calls (k : Nat) : ∀ (A0 : Option Addr) (c0 : Nat) (l0 : List (S35)) (a1 : Int) (r : ByteArray) (w : World) (hr0 : Kd.C k35 w A0 l0.length l0) (hc0 : l0.length ≤ c0) (h : spec_l10Text.f k l0 a1 = some r),
  Calls Try.prog 16 #[.slice A0 l0.length c0, .int .i64 a1] w fun e w' => e = .returned (.string r) ∧ Below w.heap.size w w' := by
 induction k using Nat.strongRecOn with
 | _ k ih =>
 intro A0 c0 l0 a1 r w hr0 hc0 h
 cases k with
 | zero => exact absurd h (by simp [spec_l10Text.f])
 | succ k =>
 simp only [spec_l10Text.f] at h
 have hu35 := Try.underlying35
 have HR0 := am_ hr0
 have HC0 := am_ hc0
 clear hr0 hc0
 have HB := am_ (Below.refl w.heap.size w)
 have H : (if 0 ≤ a1 then (if a1 < (l0.length : Int) then (if ((rd_T35 l0 a1).f0) = 1 then (some (strOfNums (([(wrap64 (112 + ((rd_T35 l0 a1).f1))) % 256] : List Int)))) else (if ((rd_T35 l0 a1).f0) = 2 then ((spec_l1Num.f k (IntKind.u64.wrap ((rd_T35 l0 a1).f1))).bind fun t259 => (some t259)) else (if ((rd_T35 l0 a1).f0) = 3 then ((spec_l10Text.f k l0 (wrap64 (a1 - 1))).bind fun t260 => (if 1 + t260.size ≤ 9223372036854775807 then (some ((⟨#[33]⟩ : ByteArray) ++ t260)) else (none))) else (if ((rd_T35 l0 a1).f0) = 4 then ((spec_l10Text.f k l0 (wrap64 (a1 - 1))).bind fun t261 => (if 1 + t261.size ≤ 9223372036854775807 then (some ((⟨#[88]⟩ : ByteArray) ++ t261)) else (none))) else ((spec_l10From.f k l0 (wrap64 (a1 - 1))).bind fun t262 => ((spec_l10Text.f k l0 (wrap64 (t262 - 1))).bind fun t263 => (if 1 + t263.size ≤ 9223372036854775807 then (if 0 ≤ (wrap64 (((rd_T35 l0 a1).f0) - 5)) then (if (wrap64 (((rd_T35 l0 a1).f0) - 5)) ≤ (wrap64 ((wrap64 (((rd_T35 l0 a1).f0) - 5)) + 1)) then (if (wrap64 ((wrap64 (((rd_T35 l0 a1).f0) - 5)) + 1)) ≤ 4 then (if ((⟨#[40]⟩ : ByteArray) ++ t263).size + ((⟨#[38, 124, 85, 82]⟩ : ByteArray).extract ((wrap64 (((rd_T35 l0 a1).f0) - 5)) : Int).toNat ((wrap64 ((wrap64 (((rd_T35 l0 a1).f0) - 5)) + 1)) : Int).toNat).size ≤ 9223372036854775807 then ((spec_l10Text.f k l0 (wrap64 (a1 - 1))).bind fun t264 => (if (((⟨#[40]⟩ : ByteArray) ++ t263) ++ ((⟨#[38, 124, 85, 82]⟩ : ByteArray).extract ((wrap64 (((rd_T35 l0 a1).f0) - 5)) : Int).toNat ((wrap64 ((wrap64 (((rd_T35 l0 a1).f0) - 5)) + 1)) : Int).toNat)).size + t264.size ≤ 9223372036854775807 then (if ((((⟨#[40]⟩ : ByteArray) ++ t263) ++ ((⟨#[38, 124, 85, 82]⟩ : ByteArray).extract ((wrap64 (((rd_T35 l0 a1).f0) - 5)) : Int).toNat ((wrap64 ((wrap64 (((rd_T35 l0 a1).f0) - 5)) + 1)) : Int).toNat)) ++ t264).size + 1 ≤ 9223372036854775807 then (some (((((⟨#[40]⟩ : ByteArray) ++ t263) ++ ((⟨#[38, 124, 85, 82]⟩ : ByteArray).extract ((wrap64 (((rd_T35 l0 a1).f0) - 5)) : Int).toNat ((wrap64 ((wrap64 (((rd_T35 l0 a1).f0) - 5)) + 1)) : Int).toNat)) ++ t264) ++ (⟨#[41]⟩ : ByteArray))) else (none)) else (none))) else (none)) else (none)) else (none)) else (none)) else (none)))))))) else (none)) else (none)) = some r := h
 clear h
 by_cases c3 : 0 ≤ a1
 ·rw [if_pos c3] at H
  have c3b0 := decide_eq_true c3
  clear c3
  by_cases c4 : a1 < (l0.length : Int)
  ·rw [if_pos c4] at H
   have c4b0 := decide_eq_true c4
   clear c4
   by_cases c5 : ((rd_T35 l0 a1).f0) = 1
   ·rw [if_pos c5] at H
    have c5b0 : (((rd_T35 l0 a1).f0) == 1) = true := beq_iff_eq.mpr c5
    have c5b1 : (((rd_T35 l0 a1).f0) != 1) = false := bne_eq_false_iff_eq.mpr c5
    clear c5
    obtain ⟨y256, hy256⟩ : ∃ y_ : List Int, y_ = (([(wrap64 (112 + ((rd_T35 l0 a1).f1))) % 256] : List Int)) := ⟨_, rfl⟩
    replace H : (some (strOfNums y256)) = some r := by first | (rw [hy256]; with_reducible exact H) | (have H2_ := (Option.bind_some _ _).symm.trans H; rw [hy256]; with_reducible exact H2_) | (have H2_ := (Option.bind_some _ _).symm.trans H; with_reducible exact H2_) | with_reducible exact H | (rw [hy256]; exact H) | exact H
    have Ny256 := am_ hy256
    clear hy256
    obtain rfl := Option.some.inj H
    have p254 : 0 ≤ (a1 : Int) := Sh.od
    have q254 : a1 < (l0.length : Int) := Sh.od
    obtain ⟨ad254, e254, hx254_0, hx254_1⟩ := at_T35 HR0.out a1 p254 q254
    cases e254
    replace p254 := eq_true p254
    replace q254 := eq_true q254
    go_enter Try.func16, Try.ntmps16
    go_wp2_with (first | ((with_reducible refine Sh.d 5 ?_); refine Sh.bz w (N := 5) (cs := #[.int .i64 0, .int .i64 0]) (t := 35) (h := ?_); clear HB; intro gb255 w6 BK255 GE255 HB; obtain ⟨hcz7_0, hcz7_1, hfz7_0, hfz7_1⟩ := Sh.b2 BK255.out) | ((with_reducible refine Sh.d 18 ?_); refine Kd.R_lit (Kd.int .u8) _ 5 ?hg (N := 18) ?hd (xs := ([(wrap64 (112 + ((rd_T35 l0 a1).f1))) % 256] : List Int)) (inner := [.int .u8 ((wrap64 (112 + ((rd_T35 l0 a1).f1))) % 256)]) (ok := fun _ => True) (okp := fun _ => True) ?hr ?hp (fun _ hk => hk) trivial (Below.refl _ _) (Nat.le_refl _) (by simp) ?_; (case hd => rfl); (case hg => rfl); (case hr => first | (go_simp; done) | (go_simp; rfl)); (case hp => exact (Reps.one (show Kd.M (Kd.int .u8) _ _ _ ((wrap64 (112 + ((rd_T35 l0 a1).f1))) % 256) [.int .u8 ((wrap64 (112 + ((rd_T35 l0 a1).f1))) % 256)] from rfl) (Reps.none _ _))); intro v257 w8 ho9 hb hg_ hnew_; clear hg_ hnew_; (first | rw [← Ny256.out] at ho9 | (simp only [Int.reduceToNat] at ho9; rw [← Ny256.out] at ho9)); have HO258 := am_ (Kd.R_lower ho9 (below_size Sh.bw)); replace BK255 := am_ (blk_below (g := gb255) (o := .cells #[.int .i64 ((rd_T35 l0 a1).f0), .int .i64 ((rd_T35 l0 a1).f1)] 35 (0, 0)) (by refine Sh.pl ?_; refine blk_put (cs := #[.int .i64 ((rd_T35 l0 a1).f0), .int .i64 0]) ?_ 1 _ rfl; refine Sh.pl ?_; refine blk_put (cs := #[.int .i64 0, .int .i64 0]) ?_ 0 _ rfl; refine Sh.pl ?_; exact BK255.out) hb); replace HB := Sh.hb hb; clear hb ho9; have hcv10 := own_string (P := Try.prog) Try.underlying22 Try.underlying5 Try.underlying9 (Kd.own_of_R HO258.out)))
    go_ret
    exact ⟨Sh.eR, Sh.bw⟩
   ·rw [if_neg c5] at H
    have c5b0 : (((rd_T35 l0 a1).f0) == 1) = false := beq_eq_false_iff_ne.mpr c5
    have c5b1 : (((rd_T35 l0 a1).f0) != 1) = true := bne_iff_ne.mpr c5
    by_cases c11 : ((rd_T35 l0 a1).f0) = 2
    ·rw [if_pos c11] at H
     have c11b0 : (((rd_T35 l0 a1).f0) == 2) = true := beq_iff_eq.mpr c11
     have c11b1 : (((rd_T35 l0 a1).f0) != 2) = false := bne_eq_false_iff_eq.mpr c11
     clear c11
     obtain ⟨t259, A12, H⟩ := Sh.ba H
     obtain rfl := Option.some.inj H
     have p254 : 0 ≤ (a1 : Int) := Sh.od
     have q254 : a1 < (l0.length : Int) := Sh.od
     obtain ⟨ad254, e254, hx254_0, hx254_1⟩ := at_T35 HR0.out a1 p254 q254
     cases e254
     replace p254 := eq_true p254
     replace q254 := eq_true q254
     go_enter Try.func16, Try.ntmps16
     go_wp2_with (first | ((with_reducible refine Sh.d 5 ?_); refine Sh.bz w (N := 5) (cs := #[.int .i64 0, .int .i64 0]) (t := 35) (h := ?_); clear HB; intro gb255 w13 BK255 GE255 HB; obtain ⟨hcz14_0, hcz14_1, hfz14_0, hfz14_1⟩ := Sh.b2 BK255.out) | ((with_reducible refine Sh.k 27 ?_); refine Sh.gB (some 25) Try.func27 #[.int .u64 (IntKind.u64.wrap ((rd_T35 l0 a1).f1))] (spec_l1Num.calls k (IntKind.u64.wrap ((rd_T35 l0 a1).f1)) t259 _ A12.out) fun w15 hb => ?_; replace BK255 := am_ (blk_below (g := gb255) (o := .cells #[.int .i64 ((rd_T35 l0 a1).f0), .int .i64 ((rd_T35 l0 a1).f1)] 35 (0, 0)) (by refine Sh.pl ?_; refine blk_put (cs := #[.int .i64 ((rd_T35 l0 a1).f0), .int .i64 0]) ?_ 1 _ rfl; refine Sh.pl ?_; refine blk_put (cs := #[.int .i64 0, .int .i64 0]) ?_ 0 _ rfl; refine Sh.pl ?_; exact BK255.out) hb); replace HB := Sh.hb hb; (try clear hb); (try clear hb2); (try clear hk); (try clear hi)))
     go_ret
     exact ⟨Sh.eR, Sh.bw⟩
    ·rw [if_neg c11] at H
     have c11b0 : (((rd_T35 l0 a1).f0) == 2) = false := beq_eq_false_iff_ne.mpr c11
     have c11b1 : (((rd_T35 l0 a1).f0) != 2) = true := bne_iff_ne.mpr c11
     by_cases c16 : ((rd_T35 l0 a1).f0) = 3
     ·rw [if_pos c16] at H
      have c16b0 : (((rd_T35 l0 a1).f0) == 3) = true := beq_iff_eq.mpr c16
      have c16b1 : (((rd_T35 l0 a1).f0) != 3) = false := bne_eq_false_iff_eq.mpr c16
      clear c16
      obtain ⟨t260, A17, H⟩ := Sh.ba H
      by_cases c18 : 1 + t260.size ≤ 9223372036854775807
      ·rw [if_pos c18] at H
       have c18b0 := eq_true c18
       have c18b1 := decide_eq_true c18
       try have c18b2 : (9223372036854775807 < 1 + t260.size) = False := eq_false (Nat.not_lt.2 c18)
       obtain rfl := Option.some.inj H
       have p254 : 0 ≤ (a1 : Int) := Sh.od
       have q254 : a1 < (l0.length : Int) := Sh.od
       obtain ⟨ad254, e254, hx254_0, hx254_1⟩ := at_T35 HR0.out a1 p254 q254
       cases e254
       replace p254 := eq_true p254
       replace q254 := eq_true q254
       go_enter Try.func16, Try.ntmps16
       go_wp2_with (first | ((with_reducible refine Sh.d 5 ?_); refine Sh.bz w (N := 5) (cs := #[.int .i64 0, .int .i64 0]) (t := 35) (h := ?_); clear HB; intro gb255 w19 BK255 GE255 HB; obtain ⟨hcz20_0, hcz20_1, hfz20_0, hfz20_1⟩ := Sh.b2 BK255.out) | ((with_reducible refine Sh.k 16 ?_); refine Sh.gL (some 31) Try.func16 #[.slice (some ad254) l0.length c0, .int .i64 (wrap64 (a1 - 1))] (h := ?_); (with_reducible refine (ih k (by omega) _ _ l0 (wrap64 (a1 - 1)) t260 _ (Sh.cB HR0.out) HC0.out A17.out).mono ?_); rintro e w21 ⟨rfl, hb⟩; refine ⟨_, rfl, ?_⟩; replace BK255 := am_ (blk_below (g := gb255) (o := .cells #[.int .i64 ((rd_T35 l0 a1).f0), .int .i64 ((rd_T35 l0 a1).f1)] 35 (0, 0)) (by refine Sh.pl ?_; refine blk_put (cs := #[.int .i64 ((rd_T35 l0 a1).f0), .int .i64 0]) ?_ 1 _ rfl; refine Sh.pl ?_; refine blk_put (cs := #[.int .i64 0, .int .i64 0]) ?_ 0 _ rfl; refine Sh.pl ?_; exact BK255.out) hb); replace HB := Sh.hb hb; (try clear hb); (try clear hb2); (try clear hk); (try clear hi)))
       go_ret
       exact ⟨Sh.eR, Sh.bw⟩
      ·rw [if_neg c18] at H
       exact absurd H (by simp)
     ·rw [if_neg c16] at H
      have c16b0 : (((rd_T35 l0 a1).f0) == 3) = false := beq_eq_false_iff_ne.mpr c16
      have c16b1 : (((rd_T35 l0 a1).f0) != 3) = true := bne_iff_ne.mpr c16
      by_cases c22 : ((rd_T35 l0 a1).f0) = 4
      ·rw [if_pos c22] at H
       have c22b0 : (((rd_T35 l0 a1).f0) == 4) = true := beq_iff_eq.mpr c22
       have c22b1 : (((rd_T35 l0 a1).f0) != 4) = false := bne_eq_false_iff_eq.mpr c22
       clear c22
       obtain ⟨t261, A23, H⟩ := Sh.ba H
       by_cases c24 : 1 + t261.size ≤ 9223372036854775807
       ·rw [if_pos c24] at H
        have c24b0 := eq_true c24
        have c24b1 := decide_eq_true c24
        try have c24b2 : (9223372036854775807 < 1 + t261.size) = False := eq_false (Nat.not_lt.2 c24)
        obtain rfl := Option.some.inj H
        have p254 : 0 ≤ (a1 : Int) := Sh.od
        have q254 : a1 < (l0.length : Int) := Sh.od
        obtain ⟨ad254, e254, hx254_0, hx254_1⟩ := at_T35 HR0.out a1 p254 q254
        cases e254
        replace p254 := eq_true p254
        replace q254 := eq_true q254
        go_enter Try.func16, Try.ntmps16
        go_wp2_with (first | ((with_reducible refine Sh.d 5 ?_); refine Sh.bz w (N := 5) (cs := #[.int .i64 0, .int .i64 0]) (t := 35) (h := ?_); clear HB; intro gb255 w25 BK255 GE255 HB; obtain ⟨hcz26_0, hcz26_1, hfz26_0, hfz26_1⟩ := Sh.b2 BK255.out) | ((with_reducible refine Sh.k 16 ?_); refine Sh.gL (some 38) Try.func16 #[.slice (some ad254) l0.length c0, .int .i64 (wrap64 (a1 - 1))] (h := ?_); (with_reducible refine (ih k (by omega) _ _ l0 (wrap64 (a1 - 1)) t261 _ (Sh.cB HR0.out) HC0.out A23.out).mono ?_); rintro e w27 ⟨rfl, hb⟩; refine ⟨_, rfl, ?_⟩; replace BK255 := am_ (blk_below (g := gb255) (o := .cells #[.int .i64 ((rd_T35 l0 a1).f0), .int .i64 ((rd_T35 l0 a1).f1)] 35 (0, 0)) (by refine Sh.pl ?_; refine blk_put (cs := #[.int .i64 ((rd_T35 l0 a1).f0), .int .i64 0]) ?_ 1 _ rfl; refine Sh.pl ?_; refine blk_put (cs := #[.int .i64 0, .int .i64 0]) ?_ 0 _ rfl; refine Sh.pl ?_; exact BK255.out) hb); replace HB := Sh.hb hb; (try clear hb); (try clear hb2); (try clear hk); (try clear hi)))
        go_ret
        exact ⟨Sh.eR, Sh.bw⟩
       ·rw [if_neg c24] at H
        exact absurd H (by simp)
      ·rw [if_neg c22] at H
       have c22b0 : (((rd_T35 l0 a1).f0) == 4) = false := beq_eq_false_iff_ne.mpr c22
       have c22b1 : (((rd_T35 l0 a1).f0) != 4) = true := bne_iff_ne.mpr c22
       obtain ⟨t262, A28, H⟩ := Sh.ba H
       obtain ⟨t263, A29, H⟩ := Sh.ba H
       by_cases c30 : 1 + t263.size ≤ 9223372036854775807
       ·rw [if_pos c30] at H
        have c30b0 := eq_true c30
        have c30b1 := decide_eq_true c30
        try have c30b2 : (9223372036854775807 < 1 + t263.size) = False := eq_false (Nat.not_lt.2 c30)
        obtain ⟨ji31, hj1⟩ : ∃ j_ : Int, (wrap64 (((rd_T35 l0 a1).f0) - 5)) = j_ := ⟨_, rfl⟩
        replace H : (if 0 ≤ (ji31) then (if (ji31) ≤ (wrap64 ((ji31) + 1)) then (if (wrap64 ((ji31) + 1)) ≤ 4 then (if ((⟨#[40]⟩ : ByteArray) ++ t263).size + ((⟨#[38, 124, 85, 82]⟩ : ByteArray).extract ((ji31) : Int).toNat ((wrap64 ((ji31) + 1)) : Int).toNat).size ≤ 9223372036854775807 then ((spec_l10Text.f k l0 (wrap64 (a1 - 1))).bind fun t264 => (if (((⟨#[40]⟩ : ByteArray) ++ t263) ++ ((⟨#[38, 124, 85, 82]⟩ : ByteArray).extract ((ji31) : Int).toNat ((wrap64 ((ji31) + 1)) : Int).toNat)).size + t264.size ≤ 9223372036854775807 then (if ((((⟨#[40]⟩ : ByteArray) ++ t263) ++ ((⟨#[38, 124, 85, 82]⟩ : ByteArray).extract ((ji31) : Int).toNat ((wrap64 ((ji31) + 1)) : Int).toNat)) ++ t264).size + 1 ≤ 9223372036854775807 then (some (((((⟨#[40]⟩ : ByteArray) ++ t263) ++ ((⟨#[38, 124, 85, 82]⟩ : ByteArray).extract ((ji31) : Int).toNat ((wrap64 ((ji31) + 1)) : Int).toNat)) ++ t264) ++ (⟨#[41]⟩ : ByteArray))) else (none)) else (none))) else (none)) else (none)) else (none)) else (none)) = some r := by first | (rw [hj1] at H; exact H) | (simp only [hj1] at H ⊢; exact H)
        (try rw [hj1] at A28)
        (try rw [hj1] at A29)
        have hji31w : (IntKind.i64.wrap (((rd_T35 l0 a1).f0) - 5)) = ji31 := (i64_w _).trans hj1
        by_cases c32 : 0 ≤ (ji31)
        ·rw [if_pos c32] at H
         have c32b0 := eq_true c32
         have c32b1 := decide_eq_true c32
         clear c32
         by_cases c33 : (ji31) ≤ (wrap64 ((ji31) + 1))
         ·rw [if_pos c33] at H
          have c33b0 := eq_true c33
          have c33b1 := decide_eq_true c33
          by_cases c34 : (wrap64 ((ji31) + 1)) ≤ 4
          ·rw [if_pos c34] at H
           have c34b0 := eq_true c34
           have c34b1 := decide_eq_true c34
           by_cases c35 : ((⟨#[40]⟩ : ByteArray) ++ t263).size + ((⟨#[38, 124, 85, 82]⟩ : ByteArray).extract ((ji31) : Int).toNat ((wrap64 ((ji31) + 1)) : Int).toNat).size ≤ 9223372036854775807
           ·rw [if_pos c35] at H
            have c35b0 := eq_true c35
            have c35b1 := decide_eq_true c35
            try have c35b2 : (9223372036854775807 < ((⟨#[40]⟩ : ByteArray) ++ t263).size + ((⟨#[38, 124, 85, 82]⟩ : ByteArray).extract ((ji31) : Int).toNat ((wrap64 ((ji31) + 1)) : Int).toNat).size) = False := eq_false (Nat.not_lt.2 c35)
            obtain ⟨t264, A36, H⟩ := Sh.ba H
            by_cases c37 : (((⟨#[40]⟩ : ByteArray) ++ t263) ++ ((⟨#[38, 124, 85, 82]⟩ : ByteArray).extract ((ji31) : Int).toNat ((wrap64 ((ji31) + 1)) : Int).toNat)).size + t264.size ≤ 9223372036854775807
            ·rw [if_pos c37] at H
             have c37b0 := eq_true c37
             have c37b1 := decide_eq_true c37
             try have c37b2 : (9223372036854775807 < (((⟨#[40]⟩ : ByteArray) ++ t263) ++ ((⟨#[38, 124, 85, 82]⟩ : ByteArray).extract ((ji31) : Int).toNat ((wrap64 ((ji31) + 1)) : Int).toNat)).size + t264.size) = False := eq_false (Nat.not_lt.2 c37)
             by_cases c38 : ((((⟨#[40]⟩ : ByteArray) ++ t263) ++ ((⟨#[38, 124, 85, 82]⟩ : ByteArray).extract ((ji31) : Int).toNat ((wrap64 ((ji31) + 1)) : Int).toNat)) ++ t264).size + 1 ≤ 9223372036854775807
             ·rw [if_pos c38] at H
              have c38b0 := eq_true c38
              have c38b1 := decide_eq_true c38
              try have c38b2 : (9223372036854775807 < ((((⟨#[40]⟩ : ByteArray) ++ t263) ++ ((⟨#[38, 124, 85, 82]⟩ : ByteArray).extract ((ji31) : Int).toNat ((wrap64 ((ji31) + 1)) : Int).toNat)) ++ t264).size + 1) = False := eq_false (Nat.not_lt.2 c38)
              obtain rfl := Option.some.inj H
              have hs1_ : ((⟨#[40]⟩ : ByteArray) ++ t263).size = 1 + t263.size := ByteArray.size_append
              have hs2_ : ((⟨#[38, 124, 85, 82]⟩ : ByteArray).extract ((ji31) : Int).toNat ((wrap64 ((ji31) + 1)) : Int).toNat).size = ((wrap64 (ji31 + 1)).toNat - ji31.toNat) := by rw [ByteArray.size_extract]; show min _ 4 - _ = _; rw [Nat.min_eq_left (by omega)]
              have hs6_ := c35
              have hs7_ := c37
              have hs8_ := c38
              rw [hs1_, hs2_] at hs6_
              rw [ByteArray.size_append, hs1_, hs2_] at hs7_
              rw [ByteArray.size_append, ByteArray.size_append, hs1_, hs2_] at hs8_
              have hs3_ : (9223372036854775807 < 1 + t263.size + ((wrap64 (ji31 + 1)).toNat - ji31.toNat)) = False := eq_false (Nat.not_lt.2 hs6_)
              have hs4_ : (9223372036854775807 < 1 + t263.size + ((wrap64 (ji31 + 1)).toNat - ji31.toNat) + t264.size) = False := eq_false (Nat.not_lt.2 hs7_)
              have hs5_ : (9223372036854775807 < 1 + t263.size + ((wrap64 (ji31 + 1)).toNat - ji31.toNat) + t264.size + 1) = False := eq_false (Nat.not_lt.2 hs8_)
              clear hs6_ hs7_ hs8_ hs1_ hs2_
              have p254 : 0 ≤ (a1 : Int) := Sh.od
              have q254 : a1 < (l0.length : Int) := Sh.od
              obtain ⟨ad254, e254, hx254_0, hx254_1⟩ := at_T35 HR0.out a1 p254 q254
              cases e254
              replace p254 := eq_true p254
              replace q254 := eq_true q254
              go_enter Try.func16, Try.ntmps16
              try go_wp2_with (first | ((with_reducible refine Sh.d 5 ?_); refine Sh.bz w (N := 5) (cs := #[.int .i64 0, .int .i64 0]) (t := 35) (h := ?_); clear HB; intro gb255 w39 BK255 GE255 HB; obtain ⟨hcz40_0, hcz40_1, hfz40_0, hfz40_1⟩ := Sh.b2 BK255.out))
              have n0_ : Aside0 (((w39.setCell ⟨gb255, 0, none⟩ (.int .i64 ((rd_T35 l0 a1).f0))).setCell ⟨gb255, 1, none⟩ (.int .i64 ((rd_T35 l0 a1).f1))).heap[gb255]? = some (.cells #[.int .i64 ((rd_T35 l0 a1).f0), .int .i64 ((rd_T35 l0 a1).f1)] 35 (0, 0))) := ⟨by refine Sh.pl ?_; refine blk_put (cs := #[.int .i64 ((rd_T35 l0 a1).f0), .int .i64 0]) ?_ 1 _ rfl; refine Sh.pl ?_; refine blk_put (cs := #[.int .i64 0, .int .i64 0]) ?_ 0 _ rfl; refine Sh.pl ?_; exact BK255.out⟩
              have n1_ : Aside0 (Below w.heap.size w ((w39.setCell ⟨gb255, 0, none⟩ (.int .i64 ((rd_T35 l0 a1).f0))).setCell ⟨gb255, 1, none⟩ (.int .i64 ((rd_T35 l0 a1).f1)))) := ⟨Sh.bw⟩
              (try clear BK255)
              (try clear HB)
              generalize ((w39.setCell ⟨gb255, 0, none⟩ (.int .i64 ((rd_T35 l0 a1).f0))).setCell ⟨gb255, 1, none⟩ (.int .i64 ((rd_T35 l0 a1).f1))) = w41 at n0_ n1_ ⊢
              have BK255 := n0_
              have HB := n1_
              clear n0_ n1_
              replace BK255 := am_ (blk_drew BK255.out)
              replace HB := am_ (below_drew1 HB.out)
              refine start_ (n := 24) (S := fun w' => w'.cell? ⟨gb255, 0, none⟩ = some (.int .i64 ((rd_T35 l0 a1).f0)) ∧ w'.cell? ⟨gb255, 1, none⟩ = some (.int .i64 ((rd_T35 l0 a1).f1))) (ds := []) (Sh.nm 24 0) (by kernel_rfl) rfl rfl Sh.cs (fun hHeld => ?_); refine with_tabW spec_l10Text.tab11 spec_l10Text.bits11 (fun HT_ HW_ => ?_)
              generalize w41.drew = w42 at BK255 HB hHeld ⊢
              refine Sh.qA 0 ?_; refine Sh.qA 1 ?_; refine Sh.qA 2 ?_; refine Sh.qA 3 ?_; refine Sh.qA 8 ?_; refine Sh.qA 11 ?_; refine Sh.qA 17 ?_; refine Sh.qA 18 ?_; refine Sh.qA 19 ?_; refine Sh.qT 9 hHeld ?_; refine Sh.qA 10 ?_; refine Sh.qT 12 hHeld ?_; refine Sh.qA 13 ?_; refine Sh.qA 14 ?_; refine Sh.qA 15 ?_
              refine Sh.oC 4 Try.func28 #[.slice (some ad254) l0.length c0, .int .i64 (wrap64 (a1 - 1))] fun K hK => ?_
              with_reducible refine (spec_l10From.calls k _ _ l0 (wrap64 (a1 - 1)) t262 _ (Sh.cB HR0.out) HC0.out A28.out).mono ?_
              rintro e w' ⟨rfl, ⟨nd, rfl⟩⟩
              refine ⟨_, rfl, ?_⟩
              refine Sh.kN hK Sh.cs fun hHeld => ?_
              clear hK K
              refine Sh.qA 5 ?_
              refine Sh.oC 6 Try.func16 #[.slice (some ad254) l0.length c0, .int .i64 (wrap64 (t262 - 1))] fun K hK => ?_
              with_reducible refine (ih k (by omega) _ _ l0 (wrap64 (t262 - 1)) t263 _ ?side1 ?side2 A29.out).mono ?_
              (case side1 => repeat (first | exact (Kd.C_below HR0.out Sh.bw) | (with_reducible first | refine Kd.C_alloc ?_ _ | refine Kd.C_drewN ?_ _ | refine Kd.C_drew ?_)))
              (case side2 => exact HC0.out)
              rintro e w43 ⟨rfl, hb⟩
              refine ⟨_, rfl, ?_⟩
              replace BK255 := Sh.ab BK255 hb
              replace HB := Sh.hb hb
              (try clear hb)
              (try clear hb2)
              (try clear hk)
              (try clear hi)
              refine Sh.kN hK Sh.cs fun hHeld => ?_
              clear hK K
              refine Sh.qA 7 ?_; refine Sh.qA 16 ?_
              refine Sh.oC 20 Try.func16 #[.slice (some ad254) l0.length c0, .int .i64 (wrap64 (a1 - 1))] fun K hK => ?_
              with_reducible refine (ih k (by omega) _ _ l0 (wrap64 (a1 - 1)) t264 _ ?side1 ?side2 A36.out).mono ?_
              (case side1 => repeat (first | exact (Kd.C_below HR0.out HB.out) | (with_reducible first | refine Kd.C_alloc ?_ _ | refine Kd.C_drewN ?_ _ | refine Kd.C_drew ?_)))
              (case side2 => exact HC0.out)
              rintro e w44 ⟨rfl, hb⟩
              refine ⟨_, rfl, ?_⟩
              replace BK255 := Sh.ab BK255 hb
              replace HB := Sh.hb hb
              (try clear hb)
              (try clear hb2)
              (try clear hk)
              (try clear hi)
              refine Sh.kN hK Sh.cs fun hHeld => ?_
              clear hK K
              refine Sh.qA 21 ?_; refine Sh.qA 22 ?_; refine Sh.qA 23 ?_
              refine done_ (done_of HT_.out (by kernel_rfl)) ?_
              try go_wp2
              go_ret
              exact ⟨by first | rfl | (simp [errW_none, errW_some] <;> rfl) | (simp only [← hj1]; first | rfl | (simp [errW_none, errW_some] <;> rfl)) | (simp [*, errW_none, errW_some] <;> rfl), Sh.bw⟩
             ·rw [if_neg c38] at H
              exact absurd H (by simp)
            ·rw [if_neg c37] at H
             exact absurd H (by simp)
           ·rw [if_neg c35] at H
            exact absurd H (by simp)
          ·rw [if_neg c34] at H
           exact absurd H (by simp)
         ·rw [if_neg c33] at H
          exact absurd H (by simp)
        ·rw [if_neg c32] at H
         exact absurd H (by simp)
       ·rw [if_neg c30] at H
        exact absurd H (by simp)
  ·rw [if_neg c4] at H
   exact absurd H (by simp)
 ·rw [if_neg c3] at H
  exact absurd H (by simp)
def spec_SaidText.f (k : Nat) (l0 : List (S35)) : Option (ByteArray × Bool) := (spec_GoodSaid.f k l0).bind fun t265 => (if t265 = true then ((spec_l10Text.f k l0 (wrap64 ((l0.length : Int) - 1))).bind fun t266 => (some (t266, true))) else (some ((⟨#[]⟩ : ByteArray), false)))
theorem spec_SaidText.mono : ∀ a0 k, LeO (spec_SaidText.f k a0) (spec_SaidText.f (k + 1) a0) := by
 intro a0 k
 unfold spec_SaidText.f
 repeat' with_reducible first | apply spec_GoodSaid.mono | apply spec_l10Text.mono | exact LeO.refl _ | exact LeO.none _ | apply LeO.ite | refine LeO.bind ?_ fun _ => ?_
theorem spec_SaidText.calls (k : Nat) (A0 : Option Addr) (c0 : Nat) (l0 : List (S35)) (r1 : ByteArray) (r2 : Bool) (w : World) (hr0 : Kd.C k35 w A0 l0.length l0) (hc0 : l0.length ≤ c0) (h : spec_SaidText.f k l0 = some (r1, r2)) :
  Calls Try.prog 7 #[.slice A0 l0.length c0] w fun e w' => e = .returned (.tuple #[.string r1, .bool r2]) ∧ Below w.heap.size w w' := by
 have HR0 := am_ hr0
 have HC0 := am_ hc0
 clear hr0 hc0
 have HB := am_ (Below.refl w.heap.size w)
 have H := h
 clear h
 unfold spec_SaidText.f at H
 obtain ⟨t265, A2, H⟩ := Sh.ba H
 by_cases c3 : t265 = true
 ·subst c3
  rw [if_pos rfl] at H
  obtain ⟨t266, A4, H⟩ := Sh.ba H
  simp only [Option.some.injEq, Prod.mk.injEq] at H
  obtain ⟨rfl, rfl⟩ := H
  go_enter Try.func7, Try.ntmps7
  go_wp2_with (first | ((with_reducible refine Sh.k 15 ?_); refine Sh.gL (some 5) Try.func15 #[.slice A0 l0.length c0] (h := ?_); (with_reducible refine (spec_GoodSaid.calls k _ _ l0 true _ ?side1 ?side2 A2.out).mono ?_); (case side1 => repeat (first | exact HR0.out | (with_reducible first | refine Kd.C_alloc ?_ _ | refine Kd.C_drewN ?_ _ | refine Kd.C_drew ?_))); (case side2 => exact HC0.out); rintro e w5 ⟨rfl, hb⟩; refine ⟨_, rfl, ?_⟩; replace HB := Sh.hb hb; (try clear hb); (try clear hb2); (try clear hk); (try clear hi)) | ((with_reducible refine Sh.k 16 ?_); refine Sh.gB (some 11) Try.func16 #[.slice A0 l0.length c0, .int .i64 (wrap64 ((l0.length : Int) - 1))] (spec_l10Text.calls k _ _ l0 (wrap64 ((l0.length : Int) - 1)) t266 _ (Sh.cB HR0.out) HC0.out A4.out) fun w6 hb => ?_; replace HB := Sh.hb hb; (try clear hb); (try clear hb2); (try clear hk); (try clear hi)))
  go_ret2
  exact ⟨Sh.eR, Sh.bw⟩
 ·replace c3 := Bool.eq_false_iff.mpr c3
  subst c3
  rw [Sh.nf] at H
  simp only [Option.some.injEq, Prod.mk.injEq] at H
  obtain ⟨rfl, rfl⟩ := H
  go_enter Try.func7, Try.ntmps7
  go_wp2_with (first | ((with_reducible refine Sh.k 15 ?_); refine Sh.gL (some 5) Try.func15 #[.slice A0 l0.length c0] (h := ?_); (with_reducible refine (spec_GoodSaid.calls k _ _ l0 false _ ?side1 ?side2 A2.out).mono ?_); (case side1 => repeat (first | exact HR0.out | (with_reducible first | refine Kd.C_alloc ?_ _ | refine Kd.C_drewN ?_ _ | refine Kd.C_drew ?_))); (case side2 => exact HC0.out); rintro e w7 ⟨rfl, hb⟩; refine ⟨_, rfl, ?_⟩; replace HB := Sh.hb hb; (try clear hb); (try clear hb2); (try clear hk); (try clear hi)))
  go_ret2
  exact ⟨Sh.eR, Sh.bw⟩
def strings_IndexByte.f (a0 : ByteArray) (a1 : Int) : Option Int := some (Go.Lib.indexByte a0.data.toList a1.toNat.toUInt8)
theorem strings_IndexByte.calls (a0 : ByteArray) (a1 : Int) (r : Int) (w : World) (h : strings_IndexByte.f a0 a1 = some r) :
  Calls Try.prog 34 #[.string a0, .int .u8 a1] w fun e w' => e = .returned (.int .i64 r) ∧ Drawn0 w w' := by
 obtain rfl := Option.some.inj h
 refine (Try.strings_IndexByte a0 a1 w).mono ?_
 rintro e w' ⟨rfl, rfl⟩
 exact ⟨rfl, Drawn0.refl _⟩
/-- A state of type 41 at block g of W; what its slices lead to came in by w0. -/
def IsS41 (w0 W : World) (g : Nat) (f0 : ByteArray) (f1 : Int) (f2 : Bool) : Prop := W.heap[g]? = some (.cells #[.string f0, .int .i64 f1, .bool f2] 41 (0, 0)) ∧ w0.heap.size ≤ g
theorem IsS41.grown {w0 W : World} {g : Nat} {f0 : ByteArray} {f1 : Int} {f2 : Bool} {W1 : World} {row : Option Nat} (h : IsS41 w0 W g f0 f1 f2) (hw : W.grownBy W1 row) (hne : some g ≠ row) : IsS41 w0 W1 g f0 f1 f2 := by
 obtain ⟨hb, hg⟩ := h
 exact ⟨blk_grown hb hw hne, hg⟩
theorem IsS41.own_neN {w0 W : World} {g : Nat} {f0 : ByteArray} {f1 : Int} {f2 : Bool} {α : Type} {d : Kd α} {e : Nat} {base : Nat} {ok : Nat → Prop} {v : Value} {xs : List α} (h : IsS41 w0 W g f0 f1 f2) (ho : Kd.N d e W base ok v xs) (ht : e ≠ 41) : some g ≠ v.ownBlock := by
 obtain ⟨hb, hg⟩ := h
 exact Kd.N_ne ho hb ht
theorem IsS41.fresh {w0 W : World} {g : Nat} {f0 : ByteArray} {f1 : Int} {f2 : Bool} (h : IsS41 w0 W g f0 f1 f2) : ∀ k, W.heap.size ≤ k → k ≠ g := by
 obtain ⟨hb, hg⟩ := h
 exact Kd.freshB hb
theorem IsS41.kept {w0 W : World} {g : Nat} {f0 : ByteArray} {f1 : Int} {f2 : Bool} {W1 : World} {S : Nat → Prop} (h : IsS41 w0 W g f0 f1 f2) (hk : Kept W W1 S) (hne : ¬ S g) : IsS41 w0 W1 g f0 f1 f2 := by
 obtain ⟨hb, hg⟩ := h
 exact ⟨blk_kept hb hk hne, hg⟩
theorem IsS41.below {w0 W : World} {g : Nat} {f0 : ByteArray} {f1 : Int} {f2 : Bool} {W1 : World} (h : IsS41 w0 W g f0 f1 f2) (hw : Below W.heap.size W W1) : IsS41 w0 W1 g f0 f1 f2 := h.grown (grown_of_below hw none) (by simp)
theorem IsS41.alloc {w0 W : World} {g : Nat} {f0 : ByteArray} {f1 : Int} {f2 : Bool} (h : IsS41 w0 W g f0 f1 f2) (o : Obj) : IsS41 w0 (W.alloc o) g f0 f1 f2 := h.below (below_alloc (Below.refl _ _) o)
theorem IsS41.drewN {w0 W : World} {g : Nat} {f0 : ByteArray} {f1 : Int} {f2 : Bool} (h : IsS41 w0 W g f0 f1 f2) (m : Nat) : IsS41 w0 (W.drewN m) g f0 f1 f2 := h
theorem IsS41.drew {w0 W : World} {g : Nat} {f0 : ByteArray} {f1 : Int} {f2 : Bool} (h : IsS41 w0 W g f0 f1 f2) : IsS41 w0 W.drew g f0 f1 f2 := h
theorem IsS41.at_ {w0 W : World} {g : Nat} {f0 : ByteArray} {f1 : Int} {f2 : Bool} {w' : World} {m : Nat} (hq : W.drewN m = w') (h : IsS41 w0 W g f0 f1 f2) : IsS41 w0 w' g f0 f1 f2 := by subst hq; exact IsS41.drewN h m
theorem IsS41.apart {w0 W : World} {g : Nat} {f0 : ByteArray} {f1 : Int} {f2 : Bool} {α : Type} {d : Kd α} {e : Nat} {base : Nat} {ok : Nat → Prop} {v : Value} {xs : List α} (h : IsS41 w0 W g f0 f1 f2) (ho : d.R e W base ok v xs) (ht : ∀ q, q ∈ e :: d.E → q ≠ 41) : d.R e W base (fun k => ok k ∧ k ≠ g) v xs := by
 obtain ⟨hb, hg⟩ := h
 exact Kd.R_types ho hb ht
theorem IsS41.own_ne {w0 W : World} {g : Nat} {f0 : ByteArray} {f1 : Int} {f2 : Bool} {α : Type} {d : Kd α} {e : Nat} {base : Nat} {ok : Nat → Prop} {v : Value} {xs : List α} (h : IsS41 w0 W g f0 f1 f2) (ho : d.R e W base ok v xs) (ht : e ≠ 41) : some g ≠ v.ownBlock := by
 obtain ⟨hb, hg⟩ := h
 exact Kd.R_ne ho hb ht
theorem IsS41.apartQ {w0 W : World} {g : Nat} {f0 : ByteArray} {f1 : Int} {f2 : Bool} {α : Type} {d : Kd α} {e : Nat} {base : Nat} {ok : Nat → Prop} {v : Value} {xs : List α} (h : IsS41 w0 W g f0 f1 f2) (ho : d.Q e W base ok v xs) (ht : ∀ q, q ∈ e :: d.E → q ≠ 41) : d.Q e W base (fun k => ok k ∧ k ≠ g) v xs := by
 obtain ⟨hb, hg⟩ := h
 exact Kd.Q_types ho hb ht
theorem IsS41.own_neQ {w0 W : World} {g : Nat} {f0 : ByteArray} {f1 : Int} {f2 : Bool} {α : Type} {d : Kd α} {e : Nat} {base : Nat} {ok : Nat → Prop} {v : Value} {xs : List α} (h : IsS41 w0 W g f0 f1 f2) (ho : d.Q e W base ok v xs) (ht : e ≠ 41) : some g ≠ v.ownBlock := by
 obtain ⟨hb, hg⟩ := h
 exact Kd.Q_ne ho hb ht
theorem IsS41.apartS {w0 W : World} {g : Nat} {f0 : ByteArray} {f1 : Int} {f2 : Bool} {α : Type} {d : Kd α} {e : Nat} {base : Nat} {ok : Nat → Prop} {v : Value} {xs : List α} (h : IsS41 w0 W g f0 f1 f2) (ho : d.S e W base ok v xs) (ht : ∀ q, q ∈ e :: d.E → q ≠ 41) : d.S e W base (fun k => ok k ∧ k ≠ g) v xs := by
 obtain ⟨hb, hg⟩ := h
 exact Kd.S_types ho hb ht
theorem IsS41.own_neS {w0 W : World} {g : Nat} {f0 : ByteArray} {f1 : Int} {f2 : Bool} {α : Type} {d : Kd α} {e : Nat} {base : Nat} {ok : Nat → Prop} {v : Value} {xs : List α} (h : IsS41 w0 W g f0 f1 f2) (ho : d.S e W base ok v xs) (ht : e ≠ 41) : some g ≠ v.ownBlock := by
 obtain ⟨hb, hg⟩ := h
 exact Kd.S_ne ho hb ht
theorem IsS41.lt {w0 W : World} {g : Nat} {f0 : ByteArray} {f1 : Int} {f2 : Bool} (h : IsS41 w0 W g f0 f1 f2) : g < W.heap.size := by
 obtain ⟨hb, hg⟩ := h
 exact blk_lt hb
theorem IsS41.ge {w0 W : World} {g : Nat} {f0 : ByteArray} {f1 : Int} {f2 : Bool} (h : IsS41 w0 W g f0 f1 f2) : w0.heap.size ≤ g := by
 obtain ⟨hb, hg⟩ := h
 exact hg
theorem IsS41.ne_blk {w0 W : World} {g : Nat} {f0 : ByteArray} {f1 : Int} {f2 : Bool} {a : Nat} {cs : Array Value} {t : TypeId} {fr : Nat × Nat} (h : IsS41 w0 W g f0 f1 f2) (hb2 : W.heap[a]? = some (.cells cs t fr)) (ht : t ≠ 41) : g ≠ a := by
 obtain ⟨hb, hg⟩ := h
 rintro rfl
 rw [hb] at hb2
 injection hb2 with hb2
 injection hb2 with _ ht2
 exact ht ht2.symm
theorem IsS41.far {w0 W : World} {g : Nat} {f0 : ByteArray} {f1 : Int} {f2 : Bool} {p : Addr} (h : IsS41 w0 W g f0 f1 f2) (hne : g ≠ p.block) (u : Value) : IsS41 w0 (W.setCell p u) g f0 f1 f2 := by
 obtain ⟨hb, hg⟩ := h
 exact ⟨blk_far hb hne u, hg⟩
theorem cellS41_0 {W : World} {g : Nat} {f0 : ByteArray} {f1 : Int} {f2 : Bool} (h : W.heap[g]? = some (.cells #[.string f0, .int .i64 f1, .bool f2] 41 (0, 0))) : W.cell? ⟨g, 0, none⟩ = some (.string f0) := (blk_cell h 0).trans rfl
theorem IsS41.set_0 {w0 W : World} {g : Nat} {f0 : ByteArray} {f1 : Int} {f2 : Bool} (h : IsS41 w0 W g f0 f1 f2) (x : ByteArray) : IsS41 w0 (W.setCell ⟨g, 0, none⟩ (.string x)) g x f1 f2 := by
 obtain ⟨hb, hg⟩ := h
 exact ⟨by simpa using blk_set hb 0 (.string x), hg⟩
theorem cellS41_1 {W : World} {g : Nat} {f0 : ByteArray} {f1 : Int} {f2 : Bool} (h : W.heap[g]? = some (.cells #[.string f0, .int .i64 f1, .bool f2] 41 (0, 0))) : W.cell? ⟨g, 1, none⟩ = some (.int .i64 f1) := (blk_cell h 1).trans rfl
theorem IsS41.set_1 {w0 W : World} {g : Nat} {f0 : ByteArray} {f1 : Int} {f2 : Bool} (h : IsS41 w0 W g f0 f1 f2) (x : Int) : IsS41 w0 (W.setCell ⟨g, 1, none⟩ (.int .i64 x)) g f0 x f2 := by
 obtain ⟨hb, hg⟩ := h
 exact ⟨by simpa using blk_set hb 1 (.int .i64 x), hg⟩
theorem cellS41_2 {W : World} {g : Nat} {f0 : ByteArray} {f1 : Int} {f2 : Bool} (h : W.heap[g]? = some (.cells #[.string f0, .int .i64 f1, .bool f2] 41 (0, 0))) : W.cell? ⟨g, 2, none⟩ = some (.bool f2) := (blk_cell h 2).trans rfl
theorem IsS41.set_2 {w0 W : World} {g : Nat} {f0 : ByteArray} {f1 : Int} {f2 : Bool} (h : IsS41 w0 W g f0 f1 f2) (x : Bool) : IsS41 w0 (W.setCell ⟨g, 2, none⟩ (.bool x)) g f0 f1 x := by
 obtain ⟨hb, hg⟩ := h
 exact ⟨by simpa using blk_set hb 2 (.bool x), hg⟩
theorem IsS41.new (w0 W : World) (f0 : ByteArray) (f1 : Int) (f2 : Bool) (hB : Below w0.heap.size w0 W) : IsS41 w0 (W.alloc (.cells #[.string f0, .int .i64 f1, .bool f2] 41)) W.heap.size f0 f1 f2 := ⟨by simpa using heap_alloc_new W _, hB.size⟩

def impl_saidReader_take.j0 : Nat → ByteArray → Bool → ByteArray → Int → Bool → Option (Int × ByteArray × Int × Bool)
 | 0, _, _, _, _, _ => none
 | k + 1, x1, x21, x1000, x1001, x1002 => if x21 = true then (some ((-1), x1000, x1001, true)) else (if 0 ≤ x1001 then (if x1001 < (x1000.size : Int) then ((strings_IndexByte.f x1 (bt x1000 x1001)).bind fun t267 => (if t267 < 0 then (some ((-1), x1000, x1001, true)) else (some (t267, x1000, wrap64 (x1001 + 1), x1002)))) else (none)) else (none))
def impl_saidReader_take.f (k : Nat) (s0_0 : ByteArray) (s0_1 : Int) (s0_2 : Bool) (a1 : ByteArray) : Option (Int × ByteArray × Int × Bool) := if s0_2 = true then (impl_saidReader_take.j0 k a1 true s0_0 s0_1 s0_2) else (impl_saidReader_take.j0 k a1 (s0_1 == (s0_0.size : Int)) s0_0 s0_1 s0_2)
theorem impl_saidReader_take.mono_l : ∀ k, (∀ y0 y1 y2 y3 y4, LeO (impl_saidReader_take.j0 k y0 y1 y2 y3 y4) (impl_saidReader_take.j0 (k + 1) y0 y1 y2 y3 y4))
 | 0 => fun _ _ _ _ _ r h => by simp [impl_saidReader_take.j0] at h
 | k + 1 => by
  have ih0 := impl_saidReader_take.mono_l k
  ·intro y0 y1 y2 y3 y4
   unfold impl_saidReader_take.j0
   repeat' with_reducible first | apply ih0 | exact LeO.refl _ | exact LeO.none _ | apply LeO.ite | refine LeO.bind ?_ fun _ => ?_
theorem impl_saidReader_take.mono : ∀ a0 a1 a2 a3 k, LeO (impl_saidReader_take.f k a0 a1 a2 a3) (impl_saidReader_take.f (k + 1) a0 a1 a2 a3) := by
 intro a0 a1 a2 a3 k
 have ih0 := impl_saidReader_take.mono_l k
 unfold impl_saidReader_take.f
 repeat' with_reducible first | apply ih0 | exact LeO.refl _ | exact LeO.none _ | apply LeO.ite | refine LeO.bind ?_ fun _ => ?_
theorem impl_saidReader_take.calls (k : Nat) (g : Nat) (s0_0 : ByteArray) (s0_1 : Int) (s0_2 : Bool) (a1 : ByteArray) (r1 : Int) (r2 : ByteArray) (r3 : Int) (r4 : Bool) (w0 w : World) (hI : IsS41 w0 w g s0_0 s0_1 s0_2) (hB : Below w0.heap.size w0 w) (h : impl_saidReader_take.f k s0_0 s0_1 s0_2 a1 = some (r1, r2, r3, r4)) :
  Calls Try.prog 29 #[.pointer (some ⟨g, 0, none⟩), .string a1] w fun e w' => e = .returned (.int .i64 r1) ∧ IsS41 w0 w' g r2 r3 r4 ∧ Below w0.heap.size w0 w' ∧ KeepBut w w' g none := by
 have HI0 := am_ hI
 have HK := am_ (KeepBut.refl w g none)
 have HL := am_ hB.size
 clear hI
 have HW0 := am_ hB.size
 have HB := am_ hB
 clear hB
 have H := h
 clear h
 unfold impl_saidReader_take.f at H
 have HC3 := am_ H
 clear H
 go_enter Try.func29, Try.ntmps29
 go_upto_region 1 with (fail)
 repeat (go_quiet (fail); go_upto_region 1 with (fail))
 go_cut [21] (fun v21 wc => ∃ (kq : Nat) (x21_2 : Bool), v21 = .bool x21_2 ∧ Aside0 (impl_saidReader_take.j0 kq a1 x21_2 s0_0 s0_1 s0_2 = some (r1, r2, r3, r4)) ∧ Aside0 (kq ≤ k) ∧ Aside0 (IsS41 w0 wc g s0_0 s0_1 s0_2) ∧ Aside0 (KeepBut w wc g none) ∧ Aside0 (Below w0.heap.size w0 wc))
 case first =>
  have H := HC3.out
  clear HC3
  by_cases c4 : s0_2 = true
  ·subst c4
   rw [if_pos rfl] at H
   have H' := am_ H
   clear H
   obtain ⟨HGz5, hgz5⟩ := HI0.out
   have hcz5_0 := cellS41_0 HGz5
   have hcz5_1 := cellS41_1 HGz5
   have hcz5_2 := cellS41_2 HGz5
   have hfz5_0 := blk_frozen HGz5 0
   have hfz5_1 := blk_frozen HGz5 1
   have hfz5_2 := blk_frozen HGz5 2
   clear HGz5 hgz5
   go_wp2
   repeat (go_quiet (fail); try go_wp2)
   go_meet
   case rel => exact ⟨_, (true), (Sh.es), H', ⟨Sh.om⟩, ⟨by repeat (first | (with_reducible first | exact HI0.out | apply IsS41.alloc | apply IsS41.drewN | apply IsS41.drew | apply IsS41.set_0 | apply IsS41.set_1 | apply IsS41.set_2) | exact HI0.out)⟩, ⟨by repeat (first | (with_reducible first | exact HK.out | apply KeepBut.set_ | apply keep_drewN | apply keep_drew | apply keep_alloc) | exact HK.out)⟩, ⟨by repeat (first | (with_reducible first | exact HB.out | apply below_alloc | apply pw_below_drewN | apply below_drew1 | refine below_set ?_ (IsS41.ge HI0.out)) | exact HB.out)⟩⟩
  ·replace c4 := Bool.eq_false_iff.mpr c4
   subst c4
   rw [Sh.nf] at H
   have H' := am_ H
   clear H
   obtain ⟨HGz6, hgz6⟩ := HI0.out
   have hcz6_0 := cellS41_0 HGz6
   have hcz6_1 := cellS41_1 HGz6
   have hcz6_2 := cellS41_2 HGz6
   have hfz6_0 := blk_frozen HGz6 0
   have hfz6_1 := blk_frozen HGz6 1
   have hfz6_2 := blk_frozen HGz6 2
   clear HGz6 hgz6
   go_wp2
   repeat (go_quiet (fail); try go_wp2)
   go_meet
   case rel => exact ⟨_, ((s0_1 == (s0_0.size : Int))), (Sh.es), H', ⟨Sh.om⟩, ⟨by repeat (first | (with_reducible first | exact HI0.out | apply IsS41.alloc | apply IsS41.drewN | apply IsS41.drew | apply IsS41.set_0 | apply IsS41.set_1 | apply IsS41.set_2) | exact HI0.out)⟩, ⟨by repeat (first | (with_reducible first | exact HK.out | apply KeepBut.set_ | apply keep_drewN | apply keep_drew | apply keep_alloc) | exact HK.out)⟩, ⟨by repeat (first | (with_reducible first | exact HB.out | apply below_alloc | apply pw_below_drewN | apply below_drew1 | refine below_set ?_ (IsS41.ge HI0.out)) | exact HB.out)⟩⟩
 case rest =>
  clear HC3
  try clear hcz5_0
  try clear hcz5_1
  try clear hcz5_2
  try clear hcz6_0
  try clear hcz6_1
  try clear hcz6_2
  try clear hfz5_0
  try clear hfz5_1
  try clear hfz5_2
  try clear hfz6_0
  try clear hfz6_1
  try clear hfz6_2
  obtain ⟨kq, x21_2, rfl, HA, HJ2, HI0, HK, HB⟩ := hcut
  cases kq with
  | zero => exact absurd HA.out (by simp [impl_saidReader_take.j0])
  | succ kj2 =>
   have H := HA.out
   clear HA
   simp only [impl_saidReader_take.j0] at H
   by_cases c7 : x21_2 = true
   ·subst c7
    rw [if_pos rfl] at H
    simp only [Option.some.injEq, Prod.mk.injEq] at H
    obtain ⟨rfl, rfl, rfl, rfl⟩ := H
    obtain ⟨HGz8, hgz8⟩ := HI0.out
    have hcz8_0 := cellS41_0 HGz8
    have hcz8_1 := cellS41_1 HGz8
    have hcz8_2 := cellS41_2 HGz8
    have hfz8_0 := blk_frozen HGz8 0
    have hfz8_1 := blk_frozen HGz8 1
    have hfz8_2 := blk_frozen HGz8 2
    clear HGz8 hgz8
    go_wp2
    repeat (go_quiet (fail); try go_wp2)
    go_ret
    exact ⟨Sh.eR, by repeat (first | (with_reducible first | exact HI0.out | apply IsS41.alloc | apply IsS41.drewN | apply IsS41.drew | apply IsS41.set_0 | apply IsS41.set_1 | apply IsS41.set_2) | exact HI0.out), by repeat (first | (with_reducible first | exact HB.out | apply below_alloc | apply pw_below_drewN | apply below_drew1 | refine below_set ?_ (IsS41.ge HI0.out)) | exact HB.out), by repeat (first | (with_reducible first | exact HK.out | apply KeepBut.set_ | apply keep_drewN | apply keep_drew | apply keep_alloc) | exact HK.out)⟩
   ·replace c7 := Bool.eq_false_iff.mpr c7
    subst c7
    rw [Sh.nf] at H
    by_cases c9 : 0 ≤ s0_1
    ·rw [if_pos c9] at H
     have c9b0 := decide_eq_true c9
     clear c9
     by_cases c10 : s0_1 < (s0_0.size : Int)
     ·rw [if_pos c10] at H
      have c10b0 := decide_eq_true c10
      clear c10
      obtain ⟨t267, A12, H⟩ := Sh.ba H
      by_cases c13 : t267 < 0
      ·rw [if_pos c13] at H
       have c13b0 := decide_eq_true c13
       clear c13
       simp only [Option.some.injEq, Prod.mk.injEq] at H
       obtain ⟨rfl, rfl, rfl, rfl⟩ := H
       obtain ⟨HGz14, hgz14⟩ := HI0.out
       have hcz14_0 := cellS41_0 HGz14
       have hcz14_1 := cellS41_1 HGz14
       have hcz14_2 := cellS41_2 HGz14
       have hfz14_0 := blk_frozen HGz14 0
       have hfz14_1 := blk_frozen HGz14 1
       have hfz14_2 := blk_frozen HGz14 2
       clear HGz14 hgz14
       have p11 : 0 ≤ (s0_1 : Int) := Sh.od
       have q11 : s0_1 < (s0_0.size : Int) := Sh.od
       have hx11 := bt_at s0_0 s0_1
       replace p11 := eq_true p11
       replace q11 := eq_true q11
       go_wp2_with (first | (go_at_call 34; (with_reducible refine (strings_IndexByte.calls a1 (bt s0_0 s0_1) t267 _ A12.out).mono ?_); rintro e w' ⟨rfl, ⟨nd, rfl⟩⟩; (try first | exact ⟨rfl, _, World.drewN_drewN _ _ _⟩ | exact ⟨rfl, _, Eq.trans (World.drewN_drewN _ _ _) (congrArg (World.drewN _) (Nat.add_assoc _ _ _))⟩)))
       repeat (go_quiet (first | (go_at_call 34; (with_reducible refine (strings_IndexByte.calls a1 (bt s0_0 s0_1) t267 _ A12.out).mono ?_); rintro e w' ⟨rfl, ⟨nd, rfl⟩⟩; (try first | exact ⟨rfl, _, World.drewN_drewN _ _ _⟩ | exact ⟨rfl, _, Eq.trans (World.drewN_drewN _ _ _) (congrArg (World.drewN _) (Nat.add_assoc _ _ _))⟩))); try go_wp2_with (first | (go_at_call 34; (with_reducible refine (strings_IndexByte.calls a1 (bt s0_0 s0_1) t267 _ A12.out).mono ?_); rintro e w' ⟨rfl, ⟨nd, rfl⟩⟩; (try first | exact ⟨rfl, _, World.drewN_drewN _ _ _⟩ | exact ⟨rfl, _, Eq.trans (World.drewN_drewN _ _ _) (congrArg (World.drewN _) (Nat.add_assoc _ _ _))⟩))))
       go_ret
       exact ⟨Sh.eR, by repeat (first | (with_reducible first | exact HI0.out | apply IsS41.alloc | apply IsS41.drewN | apply IsS41.drew | apply IsS41.set_0 | apply IsS41.set_1 | apply IsS41.set_2) | exact HI0.out), by repeat (first | (with_reducible first | exact HB.out | apply below_alloc | apply pw_below_drewN | apply below_drew1 | refine below_set ?_ (IsS41.ge HI0.out)) | exact HB.out), by repeat (first | (with_reducible first | exact HK.out | apply KeepBut.set_ | apply keep_drewN | apply keep_drew | apply keep_alloc) | exact HK.out)⟩
      ·rw [if_neg c13] at H
       have c13b0 := decide_eq_false c13
       clear c13
       simp only [Option.some.injEq, Prod.mk.injEq] at H
       obtain ⟨rfl, rfl, rfl, rfl⟩ := H
       obtain ⟨HGz15, hgz15⟩ := HI0.out
       have hcz15_0 := cellS41_0 HGz15
       have hcz15_1 := cellS41_1 HGz15
       have hcz15_2 := cellS41_2 HGz15
       have hfz15_0 := blk_frozen HGz15 0
       have hfz15_1 := blk_frozen HGz15 1
       have hfz15_2 := blk_frozen HGz15 2
       clear HGz15 hgz15
       have p11 : 0 ≤ (s0_1 : Int) := Sh.od
       have q11 : s0_1 < (s0_0.size : Int) := Sh.od
       have hx11 := bt_at s0_0 s0_1
       replace p11 := eq_true p11
       replace q11 := eq_true q11
       go_wp2_with (first | (go_at_call 34; (with_reducible refine (strings_IndexByte.calls a1 (bt s0_0 s0_1) t267 _ A12.out).mono ?_); rintro e w' ⟨rfl, ⟨nd, rfl⟩⟩; (try first | exact ⟨rfl, _, World.drewN_drewN _ _ _⟩ | exact ⟨rfl, _, Eq.trans (World.drewN_drewN _ _ _) (congrArg (World.drewN _) (Nat.add_assoc _ _ _))⟩)))
       repeat (go_quiet (first | (go_at_call 34; (with_reducible refine (strings_IndexByte.calls a1 (bt s0_0 s0_1) t267 _ A12.out).mono ?_); rintro e w' ⟨rfl, ⟨nd, rfl⟩⟩; (try first | exact ⟨rfl, _, World.drewN_drewN _ _ _⟩ | exact ⟨rfl, _, Eq.trans (World.drewN_drewN _ _ _) (congrArg (World.drewN _) (Nat.add_assoc _ _ _))⟩))); try go_wp2_with (first | (go_at_call 34; (with_reducible refine (strings_IndexByte.calls a1 (bt s0_0 s0_1) t267 _ A12.out).mono ?_); rintro e w' ⟨rfl, ⟨nd, rfl⟩⟩; (try first | exact ⟨rfl, _, World.drewN_drewN _ _ _⟩ | exact ⟨rfl, _, Eq.trans (World.drewN_drewN _ _ _) (congrArg (World.drewN _) (Nat.add_assoc _ _ _))⟩))))
       go_ret
       exact ⟨Sh.eR, by repeat (first | (with_reducible first | exact HI0.out | apply IsS41.alloc | apply IsS41.drewN | apply IsS41.drew | apply IsS41.set_0 | apply IsS41.set_1 | apply IsS41.set_2) | exact HI0.out), by repeat (first | (with_reducible first | exact HB.out | apply below_alloc | apply pw_below_drewN | apply below_drew1 | refine below_set ?_ (IsS41.ge HI0.out)) | exact HB.out), by repeat (first | (with_reducible first | exact HK.out | apply KeepBut.set_ | apply keep_drewN | apply keep_drew | apply keep_alloc) | exact HK.out)⟩
     ·rw [if_neg c10] at H
      exact absurd H (by simp)
    ·rw [if_neg c9] at H
     exact absurd H (by simp)
def impl_Said_35.f (n : Int) : Option (List (S35)) := if 0 ≤ n then (if n.toNat < 8796093022208 then some [] else none) else none
theorem impl_Said_35.calls (a1 : Int) (r : List (S35)) (w : World) (h : impl_Said_35.f a1 = some r) :
  Calls Try.prog 35 #[.slice none 0 0, .int .i64 a1] w fun e w' => ∃ v0_ : Value, e = .returned (v0_) ∧ Kd.R k35 35 w' w.heap.size (fun _ => True) v0_ r ∧ Below w.heap.size w w' := by
 have h0 : 0 ≤ a1 := by
  rcases Int.lt_or_le a1 0 with h1 | h1
  ·rw [impl_Said_35.f, if_neg (by omega)] at h; cases h
  ·exact h1
 have hlim : a1.toNat < 8796093022208 := by
  rcases Nat.lt_or_ge a1.toNat 8796093022208 with h1 | h1
  ·exact h1
  ·rw [impl_Said_35.f, if_pos h0, if_neg (by omega)] at h; cases h
 rw [impl_Said_35.f, if_pos h0, if_pos hlim] at h
 obtain rfl := Option.some.inj h
 clear h
 have n0 : ¬ (a1 < 0) := by omega
 have ew : wrap64 a1 = a1 := by unfold wrap64; omega
 by_cases hp : a1 > 0
 ·have HB := am_ (Below.refl w.heap.size w)
  have LM := am_ hlim
  clear hlim n0
  obtain ⟨i0, hi0, _, hsz, _⟩ := info_parts info35
  have hcut := cut_to (P := Try.prog) 24 35 .i64 Try.underlying24 hi0 none 0 0 0 (by omega) (by omega) (by omega)
  clear hsz
  have HI := am_ hi0
  clear hi0
  go_enter Try.func35, Try.ntmps35
  go_wp2_with (first | (at_builtin; refine Kd.R_append_zeros k35 (w0 := w) w.heap.size rfl (.tmp 20) (.tmp 21) 24 3 35 (.agg #[(.int .i64 0), (.int .i64 0)]) 16 rfl Try.underlying24 Try.underlying3 info35 rfl (by decide) (by omega) (.slice none 0 0) [] z35 (wrap64 a1) (fun _ => True) rfl rfl (k35_mkM _ _ _ z35) ?aF ?aO (by rw [ew]; exact h0) ?aB ?aS ?aL ?_; (case aF => exact (fun _ _ => trivial)); (case aO => exact (Kd.R_nil _ _ _ _ _)); (case aB => exact HB.out); (case aS => exact Nat.le_refl _); (case aL => have := LM.out; rw [ew]; simp only [List.length_nil]; omega); intro v1 w1 ho hb hg hat; clear hg hat HB; obtain ⟨A1, c1, e1⟩ := Kd.R_slice ho; subst e1; have hcut2 := cut_to (P := Try.prog) 24 35 .i64 Try.underlying24 HI.out A1 _ c1 0 (by omega) (by omega) (Kd.R_reads' ho).2.1; have HO := am_ (Kd.R_take (m := 0) ho (Nat.zero_le _)); clear ho; have HB := am_ hb; clear hb))
  go_ret
  exact ⟨_, rfl, HO.out, HB.out⟩
 ·have ha : a1 = 0 := by omega
  subst ha
  go_enter Try.func35, Try.ntmps35
  go_wp2
  go_ret
  exact ⟨_, rfl, Kd.R_nil _ _ _ _ _, Below.refl _ _⟩
mutual
def impl_Said_30.l0 : Nat → List (List (S35)) → Int → List (List (S35)) → Int → Int → Option ((List (S35)))
 | 0, _, _, _, _, _ => none
 | k + 1, x0, x3, x9, x10, x11 => if x11 < x10 then (if 0 ≤ x11 then (if x11 < (x9.length : Int) then (if (wrap64 (x3 + ((rd_L4 x9 x11).length : Int))) < 0 then (none) else (impl_Said_30.l0 k x0 (wrap64 (x3 + ((rd_L4 x9 x11).length : Int))) x9 x10 (wrap64 (x11 + 1)))) else (none)) else (none)) else ((impl_Said_35.f x3).bind fun t269 => (impl_Said_30.l1 k t269 x0 (x0.length : Int) 0))
def impl_Said_30.l1 : Nat → List (S35) → List (List (S35)) → Int → Int → Option ((List (S35)))
 | 0, _, _, _, _ => none
 | k + 1, x6, x25, x26, x27 => if x27 < x26 then (if 0 ≤ x27 then (if x27 < (x25.length : Int) then (if x6.length + (rd_L4 x25 x27).length < 8796093022208 then (impl_Said_30.l1 k (x6 ++ (rd_L4 x25 x27)) x25 x26 (wrap64 (x27 + 1))) else (none)) else (none)) else (none)) else (some x6)
end
def impl_Said_30.f (k : Nat) (l0 : List (List (S35))) : Option ((List (S35))) := impl_Said_30.l0 k l0 0 l0 (l0.length : Int) 0
theorem impl_Said_30.mono_l : ∀ k, (∀ y0 y1 y2 y3 y4, LeO (impl_Said_30.l0 k y0 y1 y2 y3 y4) (impl_Said_30.l0 (k + 1) y0 y1 y2 y3 y4)) ∧ (∀ y0 y1 y2 y3, LeO (impl_Said_30.l1 k y0 y1 y2 y3) (impl_Said_30.l1 (k + 1) y0 y1 y2 y3))
 | 0 => ⟨fun _ _ _ _ _ r h => by simp [impl_Said_30.l0] at h, fun _ _ _ _ r h => by simp [impl_Said_30.l1] at h⟩
 | k + 1 => by
  obtain ⟨ih0, ih1⟩ := impl_Said_30.mono_l k
  and_intros <;> intros
  all_goals (first | unfold impl_Said_30.l0 | unfold impl_Said_30.l1)
  all_goals repeat' with_reducible first | apply ih0 | apply ih1 | exact LeO.refl _ | exact LeO.none _ | apply LeO.ite | refine LeO.bind ?_ fun _ => ?_
theorem impl_Said_30.mono : ∀ a0 k, LeO (impl_Said_30.f k a0) (impl_Said_30.f (k + 1) a0) := by
 intro a0 k
 obtain ⟨ih0, ih1⟩ := impl_Said_30.mono_l k
 unfold impl_Said_30.f
 repeat' with_reducible first | apply ih0 | apply ih1 | exact LeO.refl _ | exact LeO.none _ | apply LeO.ite | refine LeO.bind ?_ fun _ => ?_
theorem impl_Said_30.calls (k : Nat) (A0 : Option Addr) (c0 : Nat) (l0 : List (List (S35))) (r : List (S35)) (w : World) (hr0 : Kd.C (Kd.slice 35 k35) w A0 l0.length l0) (hc0 : l0.length ≤ c0) (h : impl_Said_30.f k l0 = some r) :
  Calls Try.prog 30 #[.slice A0 l0.length c0] w fun e w' => ∃ v0_ : Value, e = .returned (v0_) ∧ Kd.R k35 35 w' w.heap.size (fun _ => True) v0_ r ∧ Below w.heap.size w w' := by
 have HR0 := am_ hr0
 have HC0 := am_ hc0
 clear hr0 hc0
 have HB := am_ (Below.refl w.heap.size w)
 have H := h
 clear h
 unfold impl_Said_30.f at H
 have H' := am_ H
 clear H
 go_enter Try.func30, Try.ntmps30
 go_wp2
 go_loopg [3, 11] k (fun kq v3 v11 w' => ∃ (x3_1 : Int) (x11_1 : Int), v3 = .int .i64 x3_1 ∧ v11 = .int .i64 x11_1 ∧ Aside0 (impl_Said_30.l0 kq l0 x3_1 l0 (l0.length : Int) x11_1 = some r) ∧ Aside0 (kq ≤ k) ∧ Aside0 (Below w.heap.size w w'))
 case atStart => exact ⟨(0), (0), (Sh.es), (Sh.es), H', ⟨Nat.le_refl _⟩, ⟨Sh.bw⟩⟩
 case round =>
  clear H'
  obtain ⟨x3_1, x11_1, rfl, rfl, HA, HK1, HB⟩ := hrel
  cases gk with
  | zero => exact absurd HA.out (by simp [impl_Said_30.l0])
  | succ k1 =>
   have H := HA.out
   clear HA
   simp only [impl_Said_30.l0] at H
   by_cases c2 : x11_1 < (l0.length : Int)
   ·rw [if_pos c2] at H
    have c2b0 := decide_eq_true c2
    clear c2
    by_cases c3 : 0 ≤ x11_1
    ·rw [if_pos c3] at H
     have c3b0 := decide_eq_true c3
     clear c3
     by_cases c4 : x11_1 < (l0.length : Int)
     ·rw [if_pos c4] at H
      have c4b0 := decide_eq_true c4
      clear c4
      by_cases c5 : (wrap64 (x3_1 + ((rd_L4 l0 x11_1).length : Int))) < 0
      ·rw [if_pos c5] at H
       exact absurd H (by simp)
      ·rw [if_neg c5] at H
       have c5b0 := decide_eq_false c5
       clear c5
       have H' := am_ H
       clear H
       have p268 : 0 ≤ (x11_1 : Int) := Sh.od
       have q268 : x11_1 < (l0.length : Int) := Sh.od
       obtain ⟨ad268, A268_0, c268_0, e268, hx268_0, hl268_0, hi268_0⟩ := at_L4 HR0.out x11_1 p268 q268
       cases e268
       try replace hx268_0 := Sh.cw hx268_0
       have HR268_0 := am_ hi268_0
       have HC268_0 := am_ hl268_0
       clear hi268_0 hl268_0
       replace p268 := eq_true p268
       replace q268 := eq_true q268
       go_wp2
       go_roundg k1
       case measure => have := HK1.out; omega
       case rel => exact ⟨(wrap64 (x3_1 + ((rd_L4 l0 x11_1).length : Int))), (wrap64 (x11_1 + 1)), (Sh.es), (Sh.es), H', ⟨by have := HK1.out; omega⟩, ⟨Sh.bw⟩⟩
     ·rw [if_neg c4] at H
      exact absurd H (by simp)
    ·rw [if_neg c3] at H
     exact absurd H (by simp)
   ·rw [if_neg c2] at H
    have c2b0 := decide_eq_false c2
    clear c2
    obtain ⟨t269, A6, H⟩ := Sh.ba H
    have H' := am_ H
    clear H
    go_wp2_with (first | ((with_reducible refine Sh.k 35 ?_); refine Sh.gL (some 24) Try.func35 #[.slice none 0 0, .int .i64 x3_1] (h := ?_); (with_reducible refine (impl_Said_35.calls  x3_1 t269 _ A6.out).mono ?_); rintro e w7 ⟨v270, rfl, ho0, hb⟩; refine ⟨_, rfl, ?_⟩; have HO271 := am_ (Kd.R_lower ho0 (below_size Sh.bw)); replace HB := Sh.hb hb; (try clear hb); (try clear hb2); (try clear hk); (try clear hi); (try clear ho0)))
    go_loopg [6, 27] k1 (fun kq v6 v27 w' => ∃ (x6_2 : List (S35)) (x27_2 : Int), v27 = .int .i64 x27_2 ∧ Aside0 (impl_Said_30.l1 kq x6_2 l0 (l0.length : Int) x27_2 = some r) ∧ Aside0 (kq ≤ k1) ∧ Aside0 (Kd.R k35 35 w' w.heap.size (fun _ => True) v6 x6_2) ∧ Aside0 (Below w.heap.size w w'))
    case atStart => exact ⟨(t269), (0), (Sh.es), H', ⟨Nat.le_refl _⟩, ⟨Sh.rl HO271.out⟩, ⟨Sh.bw⟩⟩
    case round =>
     clear H'
     try clear hx2
     try clear hx268_0
     obtain ⟨x6_2, x27_2, rfl, HA, HK2, HO_6, HB⟩ := hrel
     cases gk with
     | zero => exact absurd HA.out (by simp [impl_Said_30.l1])
     | succ k2 =>
      have H := HA.out
      clear HA
      simp only [impl_Said_30.l1] at H
      by_cases c8 : x27_2 < (l0.length : Int)
      ·rw [if_pos c8] at H
       have c8b0 := decide_eq_true c8
       clear c8
       by_cases c9 : 0 ≤ x27_2
       ·rw [if_pos c9] at H
        have c9b0 := decide_eq_true c9
        clear c9
        by_cases c10 : x27_2 < (l0.length : Int)
        ·rw [if_pos c10] at H
         have c10b0 := decide_eq_true c10
         clear c10
         by_cases c11 : x6_2.length + (rd_L4 l0 x27_2).length < 8796093022208
         ·rw [if_pos c11] at H
          have LMc11 := am_ c11
          clear c11
          obtain ⟨y273, hy273⟩ : ∃ y_ : List (S35), y_ = (x6_2 ++ (rd_L4 l0 x27_2)) := ⟨_, rfl⟩
          replace H : (impl_Said_30.l1 k2 y273 l0 (l0.length : Int) (wrap64 (x27_2 + 1))) = some r := by first | (rw [hy273]; with_reducible exact H) | (have H2_ := (Option.bind_some _ _).symm.trans H; rw [hy273]; with_reducible exact H2_) | (have H2_ := (Option.bind_some _ _).symm.trans H; with_reducible exact H2_) | with_reducible exact H | (rw [hy273]; exact H) | exact H
          have Ny273 := am_ hy273
          clear hy273
          have H' := am_ H
          clear H
          have p272 : 0 ≤ (x27_2 : Int) := Sh.od
          have q272 : x27_2 < (l0.length : Int) := Sh.od
          obtain ⟨ad272, A272_0, c272_0, e272, hx272_0, hl272_0, hi272_0⟩ := at_L4 HR0.out x27_2 p272 q272
          cases e272
          try replace hx272_0 := Sh.cw hx272_0
          have HR272_0 := am_ hi272_0
          have HC272_0 := am_ hl272_0
          clear hi272_0 hl272_0
          replace p272 := eq_true p272
          replace q272 := eq_true q272
          go_wp2_with (first | ((with_reducible refine gate_builtin (b := .append) (xs := #[.tmp 31, .tmp 32]) rfl ?_); at_builtin; refine Kd.R_append_rows k35 (w0 := w) w.heap.size rfl (.tmp 31) (.tmp 32) 24 35 (.agg #[(.int .i64 0), (.int .i64 0)]) 16 rfl Try.underlying24 info35 rfl (by decide) (by omega) u6 x6_2 (rd_L4 l0 x27_2) _ _ _ (fun _ => True) (fun _ => False) rfl rfl ?aO ?aR (fun _ _ h => h) (fun _ h => h.elim) ?aF ?aB ?aS ?aL ?_; (case aR => repeat (first | exact (Kd.C_below HR272_0.out HB.out) | (with_reducible first | refine Kd.C_alloc ?_ _ | refine Kd.C_drewN ?_ _ | refine Kd.C_drew ?_))); (case aB => exact Sh.bw); (case aF => exact (fun _ _ => trivial)); (case aO => exact (Sh.rl HO_6.out)); (case aS => exact (below_size Sh.bw)); (case aL => have := LMc11.out; omega); intro v274 w12 ho hb hg hat; rw [← Ny273.out] at ho; have n0_ := am_ hb; have n1_ := am_ ho; clear HB; clear HO_6; have HB := n0_; have HO275 := n1_; clear n0_ n1_; clear ho hb hg hat))
          go_roundg k2
          case measure => have := HK1.out; have := HK2.out; omega
          case rel => exact ⟨(y273), (wrap64 (x27_2 + 1)), (Sh.es), H', ⟨by have := HK1.out; have := HK2.out; omega⟩, ⟨Sh.rl HO275.out⟩, ⟨Sh.bw⟩⟩
         ·rw [if_neg c11] at H
          exact absurd H (by simp)
        ·rw [if_neg c10] at H
         exact absurd H (by simp)
       ·rw [if_neg c9] at H
        exact absurd H (by simp)
      ·rw [if_neg c8] at H
       have c8b0 := decide_eq_false c8
       clear c8
       obtain rfl := Option.some.inj H
       go_wp2
       go_ret
       exact ⟨_, Sh.eR, Sh.rl HO_6.out, Sh.bw⟩
def impl_saidReader_said.f : Nat → ByteArray → Int → Bool → Option ((List (S35)) × ByteArray × Int × Bool)
 | 0, _, _, _ => none
 | k + 1, s0_0, s0_1, s0_2 => (impl_saidReader_take.f k s0_0 s0_1 s0_2 (⟨#[112, 113, 114, 48, 49, 33, 88, 40]⟩ : ByteArray)).bind fun bt276 => (if bt276.1 < 0 then (some (([] : List (S35)), bt276.2.1, bt276.2.2.1, bt276.2.2.2)) else (if bt276.1 < 3 then (some ((([(⟨1, bt276.1⟩ : S35)] : List (S35))), bt276.2.1, bt276.2.2.1, bt276.2.2.2)) else (if bt276.1 < 5 then (some ((([(⟨2, wrap64 (bt276.1 - 3)⟩ : S35)] : List (S35))), bt276.2.1, bt276.2.2.1, bt276.2.2.2)) else (if bt276.1 < 7 then ((impl_saidReader_said.f k bt276.2.1 bt276.2.2.1 bt276.2.2.2).bind fun bt286 => (if bt286.1.length < 8796093022208 then (some ((bt286.1 ++ [(⟨wrap64 ((wrap64 (3 + bt276.1)) - 5), 0⟩ : S35)]), bt286.2.1, bt286.2.2.1, bt286.2.2.2)) else (none))) else ((impl_saidReader_said.f k bt276.2.1 bt276.2.2.1 bt276.2.2.2).bind fun bt295 => ((impl_saidReader_take.f k bt295.2.1 bt295.2.2.1 bt295.2.2.2 (⟨#[38, 124, 85, 82]⟩ : ByteArray)).bind fun bt301 => ((impl_saidReader_said.f k bt301.2.1 bt301.2.2.1 bt301.2.2.2).bind fun bt305 => ((impl_saidReader_take.f k bt305.2.1 bt305.2.2.1 bt305.2.2.2 (⟨#[41]⟩ : ByteArray)).bind fun bt311 => ((impl_Said_30.f k (([bt295.1, bt305.1, (([(⟨wrap64 (5 + bt301.1), 0⟩ : S35)] : List (S35)))] : List (List (S35))))).bind fun t321 => (some (t321, bt311.2.1, bt311.2.2.1, bt311.2.2.2)))))))))))
theorem impl_saidReader_said.mono_l : ∀ k, (∀ y0 y1 y2, LeO (impl_saidReader_said.f k y0 y1 y2) (impl_saidReader_said.f (k + 1) y0 y1 y2))
 | 0 => fun _ _ _ r h => by simp [impl_saidReader_said.f] at h
 | k + 1 => by
  have ih0 := impl_saidReader_said.mono_l k
  ·intro y0 y1 y2
   unfold impl_saidReader_said.f
   repeat' with_reducible first | apply ih0 | apply impl_Said_30.mono | apply impl_saidReader_take.mono | exact LeO.refl _ | exact LeO.none _ | apply LeO.ite | refine LeO.bind ?_ fun _ => ?_
theorem impl_saidReader_said.mono : ∀ a0 a1 a2 k, LeO (impl_saidReader_said.f k a0 a1 a2) (impl_saidReader_said.f (k + 1) a0 a1 a2) := by
 intro a0 a1 a2 k
 have ih0 := impl_saidReader_said.mono_l k
 exact ih0 a0 a1 a2
theorem impl_saidReader_said.calls (k : Nat) : ∀ (g : Nat) (s0_0 : ByteArray) (s0_1 : Int) (s0_2 : Bool) (r1 : List (S35)) (r2 : ByteArray) (r3 : Int) (r4 : Bool) (w0 w : World) (hI : IsS41 w0 w g s0_0 s0_1 s0_2) (hB : Below w0.heap.size w0 w) (h : impl_saidReader_said.f k s0_0 s0_1 s0_2 = some (r1, r2, r3, r4)),
  Calls Try.prog 17 #[.pointer (some ⟨g, 0, none⟩)] w fun e w' => ∃ v0_ : Value, e = .returned (v0_) ∧ Kd.R k35 35 w' w.heap.size (fun _ => True) v0_ r1 ∧ IsS41 w0 w' g r2 r3 r4 ∧ Below w0.heap.size w0 w' ∧ KeepBut w w' g none := by
 induction k using Nat.strongRecOn with
 | _ k ih =>
 intro g s0_0 s0_1 s0_2 r1 r2 r3 r4 w0 w hI hB h
 cases k with
 | zero => exact absurd h (by simp [impl_saidReader_said.f])
 | succ k =>
 simp only [impl_saidReader_said.f] at h
 have hu35 := Try.underlying35
 have HI0 := am_ hI
 have HK := am_ (KeepBut.refl w g none)
 have HL := am_ hB.size
 clear hI
 have HW0 := am_ hB.size
 have HB := am_ hB
 clear hB
 have H : ((impl_saidReader_take.f k s0_0 s0_1 s0_2 (⟨#[112, 113, 114, 48, 49, 33, 88, 40]⟩ : ByteArray)).bind fun bt276 => (if bt276.1 < 0 then (some (([] : List (S35)), bt276.2.1, bt276.2.2.1, bt276.2.2.2)) else (if bt276.1 < 3 then (some ((([(⟨1, bt276.1⟩ : S35)] : List (S35))), bt276.2.1, bt276.2.2.1, bt276.2.2.2)) else (if bt276.1 < 5 then (some ((([(⟨2, wrap64 (bt276.1 - 3)⟩ : S35)] : List (S35))), bt276.2.1, bt276.2.2.1, bt276.2.2.2)) else (if bt276.1 < 7 then ((impl_saidReader_said.f k bt276.2.1 bt276.2.2.1 bt276.2.2.2).bind fun bt286 => (if bt286.1.length < 8796093022208 then (some ((bt286.1 ++ [(⟨wrap64 ((wrap64 (3 + bt276.1)) - 5), 0⟩ : S35)]), bt286.2.1, bt286.2.2.1, bt286.2.2.2)) else (none))) else ((impl_saidReader_said.f k bt276.2.1 bt276.2.2.1 bt276.2.2.2).bind fun bt295 => ((impl_saidReader_take.f k bt295.2.1 bt295.2.2.1 bt295.2.2.2 (⟨#[38, 124, 85, 82]⟩ : ByteArray)).bind fun bt301 => ((impl_saidReader_said.f k bt301.2.1 bt301.2.2.1 bt301.2.2.2).bind fun bt305 => ((impl_saidReader_take.f k bt305.2.1 bt305.2.2.1 bt305.2.2.2 (⟨#[41]⟩ : ByteArray)).bind fun bt311 => ((impl_Said_30.f k (([bt295.1, bt305.1, (([(⟨wrap64 (5 + bt301.1), 0⟩ : S35)] : List (S35)))] : List (List (S35))))).bind fun t321 => (some (t321, bt311.2.1, bt311.2.2.1, bt311.2.2.2)))))))))))) = some (r1, r2, r3, r4) := h
 clear h
 obtain ⟨⟨t276, t277, t278, t279⟩, A20, H⟩ := Sh.bd H
 have A2 := am_ A20
 clear A20
 by_cases c3 : t276 < 0
 ·rw [if_pos c3] at H
  have c3b0 := decide_eq_true c3
  clear c3
  simp only [Option.some.injEq, Prod.mk.injEq] at H
  obtain ⟨rfl, rfl, rfl, rfl⟩ := H
  go_enter Try.func17, Try.ntmps17
  go_wp2_with (first | ((with_reducible refine Sh.k 29 ?_); refine Sh.gL (some 8) Try.func29 #[.pointer (some ⟨g, 0, none⟩), .string (⟨#[112, 113, 114, 48, 49, 33, 88, 40]⟩ : ByteArray)] (h := ?_); (with_reducible refine (impl_saidReader_take.calls k g s0_0 s0_1 s0_2 (⟨#[112, 113, 114, 48, 49, 33, 88, 40]⟩ : ByteArray) t276 t277 t278 t279 w0 _ ?side1 ?side2 A2.out).mono ?_); (case side1 => repeat (first | (with_reducible first | exact HI0.out | apply IsS41.alloc | apply IsS41.drewN | apply IsS41.drew | apply IsS41.set_0 | apply IsS41.set_1 | apply IsS41.set_2) | exact HI0.out)); (case side2 => repeat (first | (with_reducible first | exact HB.out | apply below_alloc | apply pw_below_drewN | apply below_drew1 | refine below_set ?_ (IsS41.ge HI0.out)) | exact HB.out)); rintro e w4 ⟨rfl, hi, hb, hk⟩; refine ⟨_, rfl, ?_⟩; replace HK := am_ (KeepBut.trans (by repeat (first | (with_reducible first | exact HK.out | apply KeepBut.set_ | apply keep_drewN | apply keep_drew | apply keep_alloc) | exact HK.out)) hk (.inl rfl)); replace HB := am_ hb; replace HI0 := am_ hi; (try clear hb); (try clear hb2); (try clear hk); (try clear hi)))
  go_ret
  exact ⟨_, Sh.eR, by first | exact Kd.R_nil _ _ _ _ _ | exact Kd.N_nil _ _ _ _ _ | exact Kd.V_nil _ _ _ _ _ | exact Kd.Q_nil _ _ _ _ _ | exact Kd.S_nil _ _ _ _ _, by repeat (first | (with_reducible first | exact HI0.out | apply IsS41.alloc | apply IsS41.drewN | apply IsS41.drew | apply IsS41.set_0 | apply IsS41.set_1 | apply IsS41.set_2) | exact HI0.out), by repeat (first | (with_reducible first | exact HB.out | apply below_alloc | apply pw_below_drewN | apply below_drew1 | refine below_set ?_ (IsS41.ge HI0.out)) | exact HB.out), by repeat (first | (with_reducible first | exact HK.out | apply KeepBut.set_ | apply keep_drewN | apply keep_drew | apply keep_alloc) | exact HK.out)⟩
 ·rw [if_neg c3] at H
  have c3b0 := decide_eq_false c3
  clear c3
  by_cases c5 : t276 < 3
  ·rw [if_pos c5] at H
   have c5b0 := decide_eq_true c5
   clear c5
   obtain ⟨y280, hy280⟩ : ∃ y_ : List (S35), y_ = (([(⟨1, t276⟩ : S35)] : List (S35))) := ⟨_, rfl⟩
   replace H : (some (y280, t277, t278, t279)) = some (r1, r2, r3, r4) := by first | (rw [hy280]; with_reducible exact H) | (have H2_ := (Option.bind_some _ _).symm.trans H; rw [hy280]; with_reducible exact H2_) | (have H2_ := (Option.bind_some _ _).symm.trans H; with_reducible exact H2_) | with_reducible exact H | (rw [hy280]; exact H) | exact H
   have Ny280 := am_ hy280
   clear hy280
   simp only [Option.some.injEq, Prod.mk.injEq] at H
   obtain ⟨rfl, rfl, rfl, rfl⟩ := H
   go_enter Try.func17, Try.ntmps17
   go_wp2_with (first | ((with_reducible refine Sh.k 29 ?_); refine Sh.gL (some 8) Try.func29 #[.pointer (some ⟨g, 0, none⟩), .string (⟨#[112, 113, 114, 48, 49, 33, 88, 40]⟩ : ByteArray)] (h := ?_); (with_reducible refine (impl_saidReader_take.calls k g s0_0 s0_1 s0_2 (⟨#[112, 113, 114, 48, 49, 33, 88, 40]⟩ : ByteArray) t276 t277 t278 t279 w0 _ ?side1 ?side2 A2.out).mono ?_); (case side1 => repeat (first | (with_reducible first | exact HI0.out | apply IsS41.alloc | apply IsS41.drewN | apply IsS41.drew | apply IsS41.set_0 | apply IsS41.set_1 | apply IsS41.set_2) | exact HI0.out)); (case side2 => repeat (first | (with_reducible first | exact HB.out | apply below_alloc | apply pw_below_drewN | apply below_drew1 | refine below_set ?_ (IsS41.ge HI0.out)) | exact HB.out)); rintro e w6 ⟨rfl, hi, hb, hk⟩; refine ⟨_, rfl, ?_⟩; replace HK := am_ (KeepBut.trans (by repeat (first | (with_reducible first | exact HK.out | apply KeepBut.set_ | apply keep_drewN | apply keep_drew | apply keep_alloc) | exact HK.out)) hk (.inl rfl)); replace HB := am_ hb; replace HI0 := am_ hi; (try clear hb); (try clear hb2); (try clear hk); (try clear hi)) | ((with_reducible refine Sh.d 17 ?_); refine Kd.R_lit k35 _ 35 ?hg (N := 17) ?hd (xs := ([(⟨1, t276⟩ : S35)] : List (S35))) (inner := [.int .i64 1, .int .i64 t276]) (ok := fun _ => True) (okp := fun _ => True) ?hr ?hp (fun _ hk => hk) trivial (Below.refl _ _) (Nat.le_refl _) (by simp) ?_; (case hd => rfl); (case hg => rfl); (case hr => first | (go_simp; done) | (go_simp; rfl)); (case hp => exact (Reps.c2 (show Kd.M k35 _ _ _ (⟨1, t276⟩ : S35) [.int .i64 1, .int .i64 t276] from (k35_mkM _ _ _ (⟨1, t276⟩ : S35) )) (Reps.none _ _))); intro v281 w7 ho8 hb hg_ hnew_; clear hg_ hnew_; (first | rw [← Ny280.out] at ho8 | (simp only [Int.reduceToNat] at ho8; rw [← Ny280.out] at ho8)); have HO282 := am_ (Kd.R_lower ho8 (keep_size (w := w) (g := g) (row := none) (by repeat (first | (with_reducible first | exact HK.out | apply KeepBut.set_ | apply keep_drewN | apply keep_drew | apply keep_alloc) | exact HK.out)))); replace HK := am_ (KeepBut.trans (by repeat (first | (with_reducible first | exact HK.out | apply KeepBut.set_ | apply keep_drewN | apply keep_drew | apply keep_alloc) | exact HK.out)) (KeepBut.of_below hb g none) (.inl rfl)); replace HB := am_ (below_step (by repeat (first | (with_reducible first | exact HB.out | apply below_alloc | apply pw_below_drewN | apply below_drew1 | refine below_set ?_ (IsS41.ge HI0.out)) | exact HB.out)) hb); replace HI0 := am_ (IsS41.below (by repeat (first | (with_reducible first | exact HI0.out | apply IsS41.alloc | apply IsS41.drewN | apply IsS41.drew | apply IsS41.set_0 | apply IsS41.set_1 | apply IsS41.set_2) | exact HI0.out)) hb); clear hb ho8))
   go_ret
   exact ⟨_, Sh.eR, Sh.rl HO282.out, by repeat (first | (with_reducible first | exact HI0.out | apply IsS41.alloc | apply IsS41.drewN | apply IsS41.drew | apply IsS41.set_0 | apply IsS41.set_1 | apply IsS41.set_2) | exact HI0.out), by repeat (first | (with_reducible first | exact HB.out | apply below_alloc | apply pw_below_drewN | apply below_drew1 | refine below_set ?_ (IsS41.ge HI0.out)) | exact HB.out), by repeat (first | (with_reducible first | exact HK.out | apply KeepBut.set_ | apply keep_drewN | apply keep_drew | apply keep_alloc) | exact HK.out)⟩
  ·rw [if_neg c5] at H
   have c5b0 := decide_eq_false c5
   clear c5
   by_cases c9 : t276 < 5
   ·rw [if_pos c9] at H
    have c9b0 := decide_eq_true c9
    clear c9
    obtain ⟨y283, hy283⟩ : ∃ y_ : List (S35), y_ = (([(⟨2, wrap64 (t276 - 3)⟩ : S35)] : List (S35))) := ⟨_, rfl⟩
    replace H : (some (y283, t277, t278, t279)) = some (r1, r2, r3, r4) := by first | (rw [hy283]; with_reducible exact H) | (have H2_ := (Option.bind_some _ _).symm.trans H; rw [hy283]; with_reducible exact H2_) | (have H2_ := (Option.bind_some _ _).symm.trans H; with_reducible exact H2_) | with_reducible exact H | (rw [hy283]; exact H) | exact H
    have Ny283 := am_ hy283
    clear hy283
    simp only [Option.some.injEq, Prod.mk.injEq] at H
    obtain ⟨rfl, rfl, rfl, rfl⟩ := H
    go_enter Try.func17, Try.ntmps17
    go_wp2_with (first | ((with_reducible refine Sh.k 29 ?_); refine Sh.gL (some 8) Try.func29 #[.pointer (some ⟨g, 0, none⟩), .string (⟨#[112, 113, 114, 48, 49, 33, 88, 40]⟩ : ByteArray)] (h := ?_); (with_reducible refine (impl_saidReader_take.calls k g s0_0 s0_1 s0_2 (⟨#[112, 113, 114, 48, 49, 33, 88, 40]⟩ : ByteArray) t276 t277 t278 t279 w0 _ ?side1 ?side2 A2.out).mono ?_); (case side1 => repeat (first | (with_reducible first | exact HI0.out | apply IsS41.alloc | apply IsS41.drewN | apply IsS41.drew | apply IsS41.set_0 | apply IsS41.set_1 | apply IsS41.set_2) | exact HI0.out)); (case side2 => repeat (first | (with_reducible first | exact HB.out | apply below_alloc | apply pw_below_drewN | apply below_drew1 | refine below_set ?_ (IsS41.ge HI0.out)) | exact HB.out)); rintro e w10 ⟨rfl, hi, hb, hk⟩; refine ⟨_, rfl, ?_⟩; replace HK := am_ (KeepBut.trans (by repeat (first | (with_reducible first | exact HK.out | apply KeepBut.set_ | apply keep_drewN | apply keep_drew | apply keep_alloc) | exact HK.out)) hk (.inl rfl)); replace HB := am_ hb; replace HI0 := am_ hi; (try clear hb); (try clear hb2); (try clear hk); (try clear hi)) | ((with_reducible refine Sh.d 24 ?_); refine Kd.R_lit k35 _ 35 ?hg (N := 24) ?hd (xs := ([(⟨2, wrap64 (t276 - 3)⟩ : S35)] : List (S35))) (inner := [.int .i64 2, .int .i64 (wrap64 (t276 - 3))]) (ok := fun _ => True) (okp := fun _ => True) ?hr ?hp (fun _ hk => hk) trivial (Below.refl _ _) (Nat.le_refl _) (by simp) ?_; (case hd => rfl); (case hg => rfl); (case hr => first | (go_simp; done) | (go_simp; rfl)); (case hp => exact (Reps.c2 (show Kd.M k35 _ _ _ (⟨2, wrap64 (t276 - 3)⟩ : S35) [.int .i64 2, .int .i64 (wrap64 (t276 - 3))] from (k35_mkM _ _ _ (⟨2, wrap64 (t276 - 3)⟩ : S35) )) (Reps.none _ _))); intro v284 w11 ho12 hb hg_ hnew_; clear hg_ hnew_; (first | rw [← Ny283.out] at ho12 | (simp only [Int.reduceToNat] at ho12; rw [← Ny283.out] at ho12)); have HO285 := am_ (Kd.R_lower ho12 (keep_size (w := w) (g := g) (row := none) (by repeat (first | (with_reducible first | exact HK.out | apply KeepBut.set_ | apply keep_drewN | apply keep_drew | apply keep_alloc) | exact HK.out)))); replace HK := am_ (KeepBut.trans (by repeat (first | (with_reducible first | exact HK.out | apply KeepBut.set_ | apply keep_drewN | apply keep_drew | apply keep_alloc) | exact HK.out)) (KeepBut.of_below hb g none) (.inl rfl)); replace HB := am_ (below_step (by repeat (first | (with_reducible first | exact HB.out | apply below_alloc | apply pw_below_drewN | apply below_drew1 | refine below_set ?_ (IsS41.ge HI0.out)) | exact HB.out)) hb); replace HI0 := am_ (IsS41.below (by repeat (first | (with_reducible first | exact HI0.out | apply IsS41.alloc | apply IsS41.drewN | apply IsS41.drew | apply IsS41.set_0 | apply IsS41.set_1 | apply IsS41.set_2) | exact HI0.out)) hb); clear hb ho12))
    go_ret
    exact ⟨_, Sh.eR, Sh.rl HO285.out, by repeat (first | (with_reducible first | exact HI0.out | apply IsS41.alloc | apply IsS41.drewN | apply IsS41.drew | apply IsS41.set_0 | apply IsS41.set_1 | apply IsS41.set_2) | exact HI0.out), by repeat (first | (with_reducible first | exact HB.out | apply below_alloc | apply pw_below_drewN | apply below_drew1 | refine below_set ?_ (IsS41.ge HI0.out)) | exact HB.out), by repeat (first | (with_reducible first | exact HK.out | apply KeepBut.set_ | apply keep_drewN | apply keep_drew | apply keep_alloc) | exact HK.out)⟩
   ·rw [if_neg c9] at H
    have c9b0 := decide_eq_false c9
    clear c9
    by_cases c13 : t276 < 7
    ·rw [if_pos c13] at H
     have c13b0 := decide_eq_true c13
     clear c13
     obtain ⟨⟨t286, t289, t290, t291⟩, A140, H⟩ := Sh.bd H
     have A14 := am_ A140
     clear A140
     by_cases c15 : t286.length < 8796093022208
     ·rw [if_pos c15] at H
      have LMc15 := am_ c15
      clear c15
      obtain ⟨y292, hy292⟩ : ∃ y_ : List (S35), y_ = (t286 ++ [(⟨wrap64 ((wrap64 (3 + t276)) - 5), 0⟩ : S35)]) := ⟨_, rfl⟩
      replace H : (some (y292, t289, t290, t291)) = some (r1, r2, r3, r4) := by first | (rw [hy292]; with_reducible exact H) | (have H2_ := (Option.bind_some _ _).symm.trans H; rw [hy292]; with_reducible exact H2_) | (have H2_ := (Option.bind_some _ _).symm.trans H; with_reducible exact H2_) | with_reducible exact H | (rw [hy292]; exact H) | exact H
      have Ny292 := am_ hy292
      clear hy292
      simp only [Option.some.injEq, Prod.mk.injEq] at H
      obtain ⟨rfl, rfl, rfl, rfl⟩ := H
      go_enter Try.func17, Try.ntmps17
      go_wp2_with (first | ((with_reducible refine Sh.k 29 ?_); refine Sh.gL (some 8) Try.func29 #[.pointer (some ⟨g, 0, none⟩), .string (⟨#[112, 113, 114, 48, 49, 33, 88, 40]⟩ : ByteArray)] (h := ?_); (with_reducible refine (impl_saidReader_take.calls k g s0_0 s0_1 s0_2 (⟨#[112, 113, 114, 48, 49, 33, 88, 40]⟩ : ByteArray) t276 t277 t278 t279 w0 _ ?side1 ?side2 A2.out).mono ?_); (case side1 => repeat (first | (with_reducible first | exact HI0.out | apply IsS41.alloc | apply IsS41.drewN | apply IsS41.drew | apply IsS41.set_0 | apply IsS41.set_1 | apply IsS41.set_2) | exact HI0.out)); (case side2 => repeat (first | (with_reducible first | exact HB.out | apply below_alloc | apply pw_below_drewN | apply below_drew1 | refine below_set ?_ (IsS41.ge HI0.out)) | exact HB.out)); rintro e w16 ⟨rfl, hi, hb, hk⟩; refine ⟨_, rfl, ?_⟩; replace HK := am_ (KeepBut.trans (by repeat (first | (with_reducible first | exact HK.out | apply KeepBut.set_ | apply keep_drewN | apply keep_drew | apply keep_alloc) | exact HK.out)) hk (.inl rfl)); replace HB := am_ hb; replace HI0 := am_ hi; (try clear hb); (try clear hb2); (try clear hk); (try clear hi)) | ((with_reducible refine Sh.k 17 ?_); refine Sh.gL (some 29) Try.func17 #[.pointer (some ⟨g, 0, none⟩)] (h := ?_); (with_reducible refine (ih k (by omega) g t277 t278 t279 t286 t289 t290 t291 w0 _ ?side1 ?side2 A14.out).mono ?_); (case side1 => repeat (first | (with_reducible first | exact HI0.out | apply IsS41.alloc | apply IsS41.drewN | apply IsS41.drew | apply IsS41.set_0 | apply IsS41.set_1 | apply IsS41.set_2) | exact HI0.out)); (case side2 => repeat (first | (with_reducible first | exact HB.out | apply below_alloc | apply pw_below_drewN | apply below_drew1 | refine below_set ?_ (IsS41.ge HI0.out)) | exact HB.out)); rintro e w17 ⟨v287, rfl, ho0, hi, hb, hk⟩; refine ⟨_, rfl, ?_⟩; have HO288 := am_ (Kd.R_lower ho0 (keep_size (w := w) (g := g) (row := none) (by repeat (first | (with_reducible first | exact HK.out | apply KeepBut.set_ | apply keep_drewN | apply keep_drew | apply keep_alloc) | exact HK.out)))); replace HK := am_ (KeepBut.trans (by repeat (first | (with_reducible first | exact HK.out | apply KeepBut.set_ | apply keep_drewN | apply keep_drew | apply keep_alloc) | exact HK.out)) hk (.inl rfl)); replace HB := am_ hb; replace HI0 := am_ hi; (try clear hb); (try clear hb2); (try clear hk); (try clear hi); (try clear ho0)) | ((with_reducible refine gate_builtin (b := .append) (xs := #[.tmp 29, .tmp 34]) rfl ?_); at_builtin; refine Kd.R_append k35 w.heap.size rfl (.tmp 29) (.tmp 34) 24 35 (.agg #[(.int .i64 0), (.int .i64 0)]) 16 rfl Try.underlying24 info35 rfl (by decide) (by omega) v287 t286 (⟨wrap64 ((wrap64 (3 + t276)) - 5), 0⟩ : S35) [.int .i64 (wrap64 ((wrap64 (3 + t276)) - 5)), .int .i64 0] (fun _ => True) (fun _ => False) rfl rfl ?aP (fun _ hk => hk.elim) ?aF ?aO (Below.refl _ _) ?aS ?aL ?_; (case aP => exact k35_mkM _ _ _ (⟨wrap64 ((wrap64 (3 + t276)) - 5), 0⟩ : S35)); (case aF => exact (fun _ _ => trivial)); (case aO => exact (Sh.rl HO288.out)); (case aS => exact (keep_size (w := w) (g := g) (row := none) (by repeat (first | (with_reducible first | exact HK.out | apply KeepBut.set_ | apply keep_drewN | apply keep_drew | apply keep_alloc) | exact HK.out)))); (case aL => have := LMc15.out; omega); intro v293 w18 ho hb hg hat; rw [← Ny292.out] at ho; have n0_ := am_ (IsS41.grown (by repeat (first | (with_reducible first | exact HI0.out | apply IsS41.alloc | apply IsS41.drewN | apply IsS41.drew | apply IsS41.set_0 | apply IsS41.set_1 | apply IsS41.set_2) | exact HI0.out)) hg (IsS41.own_ne HI0.out HO288.out (by decide))); have n1_ := am_ (below_weaken (by repeat (first | (with_reducible first | exact HB.out | apply below_alloc | apply pw_below_drewN | apply below_drew1 | refine below_set ?_ (IsS41.ge HI0.out)) | exact HB.out)) HL.out hb); have n2_ := am_ (KeepBut.trans (by repeat (first | (with_reducible first | exact HK.out | apply KeepBut.set_ | apply keep_drewN | apply keep_drew | apply keep_alloc) | exact HK.out)) (KeepBut.of_grown hg g) (Kd.R_base2 HO288.out)); have n3_ := am_ ho; clear HI0; clear HB; clear HK; clear HO288; have HI0 := n0_; have HB := n1_; have HK := n2_; have HO294 := n3_; clear n0_ n1_ n2_ n3_; clear ho hb hg hat))
      go_ret
      exact ⟨_, Sh.eR, Sh.rl HO294.out, by repeat (first | (with_reducible first | exact HI0.out | apply IsS41.alloc | apply IsS41.drewN | apply IsS41.drew | apply IsS41.set_0 | apply IsS41.set_1 | apply IsS41.set_2) | exact HI0.out), by repeat (first | (with_reducible first | exact HB.out | apply below_alloc | apply pw_below_drewN | apply below_drew1 | refine below_set ?_ (IsS41.ge HI0.out)) | exact HB.out), by repeat (first | (with_reducible first | exact HK.out | apply KeepBut.set_ | apply keep_drewN | apply keep_drew | apply keep_alloc) | exact HK.out)⟩
     ·rw [if_neg c15] at H
      exact absurd H (by simp)
    ·rw [if_neg c13] at H
     have c13b0 := decide_eq_false c13
     clear c13
     obtain ⟨⟨t295, t298, t299, t300⟩, A190, H⟩ := Sh.bd H
     have A19 := am_ A190
     clear A190
     obtain ⟨⟨t301, t302, t303, t304⟩, A200, H⟩ := Sh.bd H
     have A20 := am_ A200
     clear A200
     obtain ⟨⟨t305, t308, t309, t310⟩, A210, H⟩ := Sh.bd H
     have A21 := am_ A210
     clear A210
     obtain ⟨⟨t311, t312, t313, t314⟩, A220, H⟩ := Sh.bd H
     have A22 := am_ A220
     clear A220
     obtain ⟨y315, hy315⟩ : ∃ y_ : List (S35), y_ = (([(⟨wrap64 (5 + t301), 0⟩ : S35)] : List (S35))) := ⟨_, rfl⟩
     replace H : ((impl_Said_30.f k (([t295, t305, y315] : List (List (S35))))).bind fun t321 => (some (t321, t312, t313, t314))) = some (r1, r2, r3, r4) := by first | (rw [hy315]; with_reducible exact H) | (have H2_ := (Option.bind_some _ _).symm.trans H; rw [hy315]; with_reducible exact H2_) | (have H2_ := (Option.bind_some _ _).symm.trans H; with_reducible exact H2_) | with_reducible exact H | (rw [hy315]; exact H) | exact H
     have Ny315 := am_ hy315
     clear hy315
     obtain ⟨y318, hy318⟩ : ∃ y_ : List (List (S35)), y_ = (([t295, t305, y315] : List (List (S35)))) := ⟨_, rfl⟩
     replace H : ((impl_Said_30.f k y318).bind fun t321 => (some (t321, t312, t313, t314))) = some (r1, r2, r3, r4) := by first | (rw [hy318]; with_reducible exact H) | (have H2_ := (Option.bind_some _ _).symm.trans H; rw [hy318]; with_reducible exact H2_) | (have H2_ := (Option.bind_some _ _).symm.trans H; with_reducible exact H2_) | with_reducible exact H | (rw [hy318]; exact H) | exact H
     have Ny318 := am_ hy318
     clear hy318
     obtain ⟨t321, A23, H⟩ := Sh.ba H
     simp only [Option.some.injEq, Prod.mk.injEq] at H
     obtain ⟨rfl, rfl, rfl, rfl⟩ := H
     go_enter Try.func17, Try.ntmps17
     go_wp2_with (first | ((with_reducible refine Sh.k 29 ?_); refine Sh.gL (some 8) Try.func29 #[.pointer (some ⟨g, 0, none⟩), .string (⟨#[112, 113, 114, 48, 49, 33, 88, 40]⟩ : ByteArray)] (h := ?_); (with_reducible refine (impl_saidReader_take.calls k g s0_0 s0_1 s0_2 (⟨#[112, 113, 114, 48, 49, 33, 88, 40]⟩ : ByteArray) t276 t277 t278 t279 w0 _ ?side1 ?side2 A2.out).mono ?_); (case side1 => repeat (first | (with_reducible first | exact HI0.out | apply IsS41.alloc | apply IsS41.drewN | apply IsS41.drew | apply IsS41.set_0 | apply IsS41.set_1 | apply IsS41.set_2) | exact HI0.out)); (case side2 => repeat (first | (with_reducible first | exact HB.out | apply below_alloc | apply pw_below_drewN | apply below_drew1 | refine below_set ?_ (IsS41.ge HI0.out)) | exact HB.out)); rintro e w24 ⟨rfl, hi, hb, hk⟩; refine ⟨_, rfl, ?_⟩; replace HK := am_ (KeepBut.trans (by repeat (first | (with_reducible first | exact HK.out | apply KeepBut.set_ | apply keep_drewN | apply keep_drew | apply keep_alloc) | exact HK.out)) hk (.inl rfl)); replace HB := am_ hb; replace HI0 := am_ hi; (try clear hb); (try clear hb2); (try clear hk); (try clear hi)) | ((with_reducible refine Sh.k 17 ?_); refine Sh.gL (some 37) Try.func17 #[.pointer (some ⟨g, 0, none⟩)] (h := ?_); (with_reducible refine (ih k (by omega) g t277 t278 t279 t295 t298 t299 t300 w0 _ ?side1 ?side2 A19.out).mono ?_); (case side1 => repeat (first | (with_reducible first | exact HI0.out | apply IsS41.alloc | apply IsS41.drewN | apply IsS41.drew | apply IsS41.set_0 | apply IsS41.set_1 | apply IsS41.set_2) | exact HI0.out)); (case side2 => repeat (first | (with_reducible first | exact HB.out | apply below_alloc | apply pw_below_drewN | apply below_drew1 | refine below_set ?_ (IsS41.ge HI0.out)) | exact HB.out)); rintro e w25 ⟨v296, rfl, ho0, hi, hb, hk⟩; refine ⟨_, rfl, ?_⟩; have HO297 := am_ (Kd.R_lower ho0 (keep_size (w := w) (g := g) (row := none) (by repeat (first | (with_reducible first | exact HK.out | apply KeepBut.set_ | apply keep_drewN | apply keep_drew | apply keep_alloc) | exact HK.out)))); replace HK := am_ (KeepBut.trans (by repeat (first | (with_reducible first | exact HK.out | apply KeepBut.set_ | apply keep_drewN | apply keep_drew | apply keep_alloc) | exact HK.out)) hk (.inl rfl)); replace HB := am_ hb; replace HI0 := am_ hi; (try clear hb); (try clear hb2); (try clear hk); (try clear hi); (try clear ho0)) | ((with_reducible refine Sh.k 29 ?_); refine Sh.gL (some 39) Try.func29 #[.pointer (some ⟨g, 0, none⟩), .string (⟨#[38, 124, 85, 82]⟩ : ByteArray)] (h := ?_); (with_reducible refine (impl_saidReader_take.calls k g t298 t299 t300 (⟨#[38, 124, 85, 82]⟩ : ByteArray) t301 t302 t303 t304 w0 _ ?side1 ?side2 A20.out).mono ?_); (case side1 => repeat (first | (with_reducible first | exact HI0.out | apply IsS41.alloc | apply IsS41.drewN | apply IsS41.drew | apply IsS41.set_0 | apply IsS41.set_1 | apply IsS41.set_2) | exact HI0.out)); (case side2 => repeat (first | (with_reducible first | exact HB.out | apply below_alloc | apply pw_below_drewN | apply below_drew1 | refine below_set ?_ (IsS41.ge HI0.out)) | exact HB.out)); rintro e w26 ⟨rfl, hi, hb, hk⟩; refine ⟨_, rfl, ?_⟩; replace HO297 := am_ (Kd.R_mono (Kd.R_keep (IsS41.apart (show IsS41 w0 _ g t298 t299 t300 from by repeat (first | (with_reducible first | exact HI0.out | apply IsS41.alloc | apply IsS41.drewN | apply IsS41.drew | apply IsS41.set_0 | apply IsS41.set_1 | apply IsS41.set_2) | exact HI0.out)) (Sh.rl HO297.out) (by decide)) hk (fun _ h => h.2)) (fun _ h => h.1)); replace HK := am_ (KeepBut.trans (by repeat (first | (with_reducible first | exact HK.out | apply KeepBut.set_ | apply keep_drewN | apply keep_drew | apply keep_alloc) | exact HK.out)) hk (.inl rfl)); replace HB := am_ hb; replace HI0 := am_ hi; (try clear hb); (try clear hb2); (try clear hk); (try clear hi)) | ((with_reducible refine Sh.k 17 ?_); refine Sh.gL (some 42) Try.func17 #[.pointer (some ⟨g, 0, none⟩)] (h := ?_); (with_reducible refine (ih k (by omega) g t302 t303 t304 t305 t308 t309 t310 w0 _ ?side1 ?side2 A21.out).mono ?_); (case side1 => repeat (first | (with_reducible first | exact HI0.out | apply IsS41.alloc | apply IsS41.drewN | apply IsS41.drew | apply IsS41.set_0 | apply IsS41.set_1 | apply IsS41.set_2) | exact HI0.out)); (case side2 => repeat (first | (with_reducible first | exact HB.out | apply below_alloc | apply pw_below_drewN | apply below_drew1 | refine below_set ?_ (IsS41.ge HI0.out)) | exact HB.out)); rintro e w27 ⟨v306, rfl, ho0, hi, hb, hk⟩; refine ⟨_, rfl, ?_⟩; have HO307 := am_ (Kd.R_lower (Kd.R_new' ho0 (Kd.R_lt (Sh.rl HO297.out))) (keep_size (w := w) (g := g) (row := none) (by repeat (first | (with_reducible first | exact HK.out | apply KeepBut.set_ | apply keep_drewN | apply keep_drew | apply keep_alloc) | exact HK.out)))); replace HO297 := am_ (Kd.R_mono (Kd.R_told (Kd.R_oldK (IsS41.apart (show IsS41 w0 _ g t302 t303 t304 from by repeat (first | (with_reducible first | exact HI0.out | apply IsS41.alloc | apply IsS41.drewN | apply IsS41.drew | apply IsS41.set_0 | apply IsS41.set_1 | apply IsS41.set_2) | exact HI0.out)) (Sh.rl HO297.out) (by decide)) hk) (Kd.R_base ho0)) (fun _ h_ => h_.1)); replace HK := am_ (KeepBut.trans (by repeat (first | (with_reducible first | exact HK.out | apply KeepBut.set_ | apply keep_drewN | apply keep_drew | apply keep_alloc) | exact HK.out)) hk (.inl rfl)); replace HB := am_ hb; replace HI0 := am_ hi; (try clear hb); (try clear hb2); (try clear hk); (try clear hi); (try clear ho0)) | ((with_reducible refine Sh.k 29 ?_); refine Sh.gL (some 44) Try.func29 #[.pointer (some ⟨g, 0, none⟩), .string (⟨#[41]⟩ : ByteArray)] (h := ?_); (with_reducible refine (impl_saidReader_take.calls k g t308 t309 t310 (⟨#[41]⟩ : ByteArray) t311 t312 t313 t314 w0 _ ?side1 ?side2 A22.out).mono ?_); (case side1 => repeat (first | (with_reducible first | exact HI0.out | apply IsS41.alloc | apply IsS41.drewN | apply IsS41.drew | apply IsS41.set_0 | apply IsS41.set_1 | apply IsS41.set_2) | exact HI0.out)); (case side2 => repeat (first | (with_reducible first | exact HB.out | apply below_alloc | apply pw_below_drewN | apply below_drew1 | refine below_set ?_ (IsS41.ge HI0.out)) | exact HB.out)); rintro e w28 ⟨rfl, hi, hb, hk⟩; refine ⟨_, rfl, ?_⟩; replace HO297 := am_ (Kd.R_mono (Kd.R_keep (IsS41.apart (show IsS41 w0 _ g t308 t309 t310 from by repeat (first | (with_reducible first | exact HI0.out | apply IsS41.alloc | apply IsS41.drewN | apply IsS41.drew | apply IsS41.set_0 | apply IsS41.set_1 | apply IsS41.set_2) | exact HI0.out)) (Sh.rl HO297.out) (by decide)) hk (fun _ h => h.2)) (fun _ h => h.1)); replace HO307 := am_ (Kd.R_mono (Kd.R_keep (IsS41.apart (show IsS41 w0 _ g t308 t309 t310 from by repeat (first | (with_reducible first | exact HI0.out | apply IsS41.alloc | apply IsS41.drewN | apply IsS41.drew | apply IsS41.set_0 | apply IsS41.set_1 | apply IsS41.set_2) | exact HI0.out)) (Sh.rl HO307.out) (by decide)) hk (fun _ h => h.2)) (fun _ h => h.1)); replace HK := am_ (KeepBut.trans (by repeat (first | (with_reducible first | exact HK.out | apply KeepBut.set_ | apply keep_drewN | apply keep_drew | apply keep_alloc) | exact HK.out)) hk (.inl rfl)); replace HB := am_ hb; replace HI0 := am_ hi; (try clear hb); (try clear hb2); (try clear hk); (try clear hi)) | ((with_reducible refine Sh.d 49 ?_); refine Kd.R_lit k35 _ 35 ?hg (N := 49) ?hd (xs := ([(⟨wrap64 (5 + t301), 0⟩ : S35)] : List (S35))) (inner := [.int .i64 (wrap64 (5 + t301)), .int .i64 0]) (ok := fun _ => True) (okp := fun _ => True) ?hr ?hp (fun _ hk => hk) trivial (Below.refl _ _) (Nat.le_refl _) (by simp) ?_; (case hd => rfl); (case hg => rfl); (case hr => first | (go_simp; done) | (go_simp; rfl)); (case hp => exact (Reps.c2 (show Kd.M k35 _ _ _ (⟨wrap64 (5 + t301), 0⟩ : S35) [.int .i64 (wrap64 (5 + t301)), .int .i64 0] from (k35_mkM _ _ _ (⟨wrap64 (5 + t301), 0⟩ : S35) )) (Reps.none _ _))); intro v316 w29 ho30 hb hg_ hnew_; clear hg_ hnew_; (first | rw [← Ny315.out] at ho30 | (simp only [Int.reduceToNat] at ho30; rw [← Ny315.out] at ho30)); have HO317 := am_ (Kd.R_lower (Kd.R_new' (Kd.R_new' ho30 (Kd.R_lt (Sh.rl HO297.out))) (Kd.R_lt (Sh.rl HO307.out))) (keep_size (w := w) (g := g) (row := none) (by repeat (first | (with_reducible first | exact HK.out | apply KeepBut.set_ | apply keep_drewN | apply keep_drew | apply keep_alloc) | exact HK.out)))); replace HO297 := am_ (Kd.R_elder' (Sh.rl HO297.out) (Kd.R_base ho30) hb); replace HO307 := am_ (Kd.R_elder' (Sh.rl HO307.out) (Kd.R_base ho30) hb); replace HK := am_ (KeepBut.trans (by repeat (first | (with_reducible first | exact HK.out | apply KeepBut.set_ | apply keep_drewN | apply keep_drew | apply keep_alloc) | exact HK.out)) (KeepBut.of_below hb g none) (.inl rfl)); replace HB := am_ (below_step (by repeat (first | (with_reducible first | exact HB.out | apply below_alloc | apply pw_below_drewN | apply below_drew1 | refine below_set ?_ (IsS41.ge HI0.out)) | exact HB.out)) hb); replace HI0 := am_ (IsS41.below (by repeat (first | (with_reducible first | exact HI0.out | apply IsS41.alloc | apply IsS41.drewN | apply IsS41.drew | apply IsS41.set_0 | apply IsS41.set_1 | apply IsS41.set_2) | exact HI0.out)) hb); clear hb ho30; obtain ⟨Ao31, co31, eo31⟩ := Kd.R_slice HO297.out; subst eo31; obtain ⟨Ao32, co32, eo32⟩ := Kd.R_slice HO307.out; subst eo32; obtain ⟨Ao33, co33, eo33⟩ := Kd.R_slice HO317.out; subst eo33) | ((with_reducible refine Sh.d 50 ?_); refine Kd.N_lit (Kd.slice 35 k35) _ 24 ?hg (N' := 50) ?hd (xs := ([t295, t305, y315] : List (List (S35)))) (inner := [.slice Ao31 t295.length co31, .slice Ao32 t305.length co32, .slice Ao33 y315.length co33]) (ok := (fun k_ => k_ ≠ g)) (okp := (fun k_ => k_ ≠ g)) ?hr ?hp (fun _ hk => hk) ((show ∀ k_, w29.heap.size ≤ k_ → (fun k_ => k_ ≠ g) k_ from fun k_ hk => IsS41.fresh (by repeat (first | (with_reducible first | exact HI0.out | apply IsS41.alloc | apply IsS41.drewN | apply IsS41.drew | apply IsS41.set_0 | apply IsS41.set_1 | apply IsS41.set_2) | exact HI0.out)) k_ hk) _ (Nat.le_refl _)) (Below.refl _ _) (Nat.le_refl _) (by simp) ?_; (case hd => rfl); (case hg => rfl); (case hr => first | (go_simp; done) | (go_simp; rfl)); (case hp => exact (Reps.one (show Kd.FK (Kd.slice 35 k35) _ _ t295 [.slice Ao31 t295.length co31] from (Kd.FK_slice_mk (Kd.R_reads' (Kd.R_mono (ok' := (fun k_ => k_ ≠ g)) (IsS41.apart HI0.out (HO297.out) (by decide)) (fun k_ hk => hk.2))).2.1 (Kd.R_F (Kd.R_mono (ok' := (fun k_ => k_ ≠ g)) (IsS41.apart HI0.out (HO297.out) (by decide)) (fun k_ hk => hk.2))))) (Reps.one (show Kd.FK (Kd.slice 35 k35) _ _ t305 [.slice Ao32 t305.length co32] from (Kd.FK_slice_mk (Kd.R_reads' (Kd.R_mono (ok' := (fun k_ => k_ ≠ g)) (IsS41.apart HI0.out (HO307.out) (by decide)) (fun k_ hk => hk.2))).2.1 (Kd.R_F (Kd.R_mono (ok' := (fun k_ => k_ ≠ g)) (IsS41.apart HI0.out (HO307.out) (by decide)) (fun k_ hk => hk.2))))) (Reps.one (show Kd.FK (Kd.slice 35 k35) _ _ y315 [.slice Ao33 y315.length co33] from (Kd.FK_slice_mk (Kd.R_reads' (Kd.R_mono (ok' := (fun k_ => k_ ≠ g)) (IsS41.apart HI0.out (HO317.out) (by decide)) (fun k_ hk => hk.2))).2.1 (Kd.R_F (Kd.R_mono (ok' := (fun k_ => k_ ≠ g)) (IsS41.apart HI0.out (HO317.out) (by decide)) (fun k_ hk => hk.2))))) (Reps.none _ _))))); intro v319 w34 ho35 hb hg_ hnew_; clear hg_ hnew_; (first | rw [← Ny318.out] at ho35 | (simp only [Int.reduceToNat] at ho35; rw [← Ny318.out] at ho35)); have n0_ := am_ (Kd.N_lower ho35 (keep_size (w := w) (g := g) (row := none) (by repeat (first | (with_reducible first | exact HK.out | apply KeepBut.set_ | apply keep_drewN | apply keep_drew | apply keep_alloc) | exact HK.out)))); have n1_ := am_ (IsS41.below (by repeat (first | (with_reducible first | exact HI0.out | apply IsS41.alloc | apply IsS41.drewN | apply IsS41.drew | apply IsS41.set_0 | apply IsS41.set_1 | apply IsS41.set_2) | exact HI0.out)) hb); have n2_ := am_ (KeepBut.trans (by repeat (first | (with_reducible first | exact HK.out | apply KeepBut.set_ | apply keep_drewN | apply keep_drew | apply keep_alloc) | exact HK.out)) (KeepBut.of_below hb g none) (.inl rfl)); have n3_ := am_ (below_step (by repeat (first | (with_reducible first | exact HB.out | apply below_alloc | apply pw_below_drewN | apply below_drew1 | refine below_set ?_ (IsS41.ge HI0.out)) | exact HB.out)) hb); clear HI0; clear HK; clear HB; clear HO297; clear HO307; clear HO317; have HO320 := n0_; have HI0 := n1_; have HK := n2_; have HB := n3_; clear n0_ n1_ n2_ n3_; clear hb ho35; obtain ⟨Ao36, co36, eo36⟩ := Kd.N_slice HO320.out; subst eo36) | ((with_reducible refine Sh.k 30 ?_); refine Sh.gL (some 51) Try.func30 #[.slice Ao36 y318.length co36] (h := ?_); (with_reducible refine (impl_Said_30.calls k _ _ y318 t321 _ (Sh.cR (Kd.N_reads' HO320.out).2.2) (Kd.N_reads' HO320.out).2.1 A23.out).mono ?_); rintro e w37 ⟨v322, rfl, ho0, hb⟩; refine ⟨_, rfl, ?_⟩; replace HO320 := am_ (Kd.N_elder' (by (with_reducible repeat (first | apply Kd.N_alloc | apply Kd.N_drewN | apply Kd.N_drew)); exact HO320.out) (Kd.R_base ho0) hb); have HO323 := am_ (Kd.R_lower ho0 (keep_size (w := w) (g := g) (row := none) (by repeat (first | (with_reducible first | exact HK.out | apply KeepBut.set_ | apply keep_drewN | apply keep_drew | apply keep_alloc) | exact HK.out)))); replace HK := am_ (KeepBut.trans (by repeat (first | (with_reducible first | exact HK.out | apply KeepBut.set_ | apply keep_drewN | apply keep_drew | apply keep_alloc) | exact HK.out)) (KeepBut.of_below hb g none) (.inl rfl)); replace HB := am_ (below_step (by repeat (first | (with_reducible first | exact HB.out | apply below_alloc | apply pw_below_drewN | apply below_drew1 | refine below_set ?_ (IsS41.ge HI0.out)) | exact HB.out)) hb); replace HI0 := am_ (IsS41.below (by repeat (first | (with_reducible first | exact HI0.out | apply IsS41.alloc | apply IsS41.drewN | apply IsS41.drew | apply IsS41.set_0 | apply IsS41.set_1 | apply IsS41.set_2) | exact HI0.out)) hb); (try clear hb); (try clear hb2); (try clear hk); (try clear hi); (try clear ho0)))
     go_ret
     exact ⟨_, Sh.eR, Sh.rl HO323.out, by repeat (first | (with_reducible first | exact HI0.out | apply IsS41.alloc | apply IsS41.drewN | apply IsS41.drew | apply IsS41.set_0 | apply IsS41.set_1 | apply IsS41.set_2) | exact HI0.out), by repeat (first | (with_reducible first | exact HB.out | apply below_alloc | apply pw_below_drewN | apply below_drew1 | refine below_set ?_ (IsS41.ge HI0.out)) | exact HB.out), by repeat (first | (with_reducible first | exact HK.out | apply KeepBut.set_ | apply keep_drewN | apply keep_drew | apply keep_alloc) | exact HK.out)⟩
def impl_ReadSaid.j0 : Nat → ByteArray → List (S35) → Bool → ByteArray → Int → Bool → Option ((List (S35)) × Int × Bool)
 | 0, _, _, _, _, _, _ => none
 | k + 1, x0, x6, x15, x325000, x325001, x325002 => if x15 = true then (some (([] : List (S35)), x325001, false)) else (if (x6.length : Int) > 16 then (some (([] : List (S35)), 0, false)) else (some (x6, (x0.size : Int), true)))
def impl_ReadSaid.f (k : Nat) (a0 : ByteArray) : Option ((List (S35)) × Int × Bool) := if (a0.size : Int) > 200 then (some (([] : List (S35)), 0, false)) else ((impl_saidReader_said.f k a0 0 false).bind fun bt325 => (if bt325.2.2.2 = true then (impl_ReadSaid.j0 k a0 bt325.1 true bt325.2.1 bt325.2.2.1 bt325.2.2.2) else (impl_ReadSaid.j0 k a0 bt325.1 (decide (bt325.2.2.1 < (a0.size : Int))) bt325.2.1 bt325.2.2.1 bt325.2.2.2)))
theorem impl_ReadSaid.mono_l : ∀ k, (∀ y0 y1 y2 y3 y4 y5, LeO (impl_ReadSaid.j0 k y0 y1 y2 y3 y4 y5) (impl_ReadSaid.j0 (k + 1) y0 y1 y2 y3 y4 y5))
 | 0 => fun _ _ _ _ _ _ r h => by simp [impl_ReadSaid.j0] at h
 | k + 1 => by
  have ih0 := impl_ReadSaid.mono_l k
  ·intro y0 y1 y2 y3 y4 y5
   unfold impl_ReadSaid.j0
   repeat' with_reducible first | apply ih0 | apply impl_saidReader_said.mono | exact LeO.refl _ | exact LeO.none _ | apply LeO.ite | refine LeO.bind ?_ fun _ => ?_
theorem impl_ReadSaid.mono : ∀ a0 k, LeO (impl_ReadSaid.f k a0) (impl_ReadSaid.f (k + 1) a0) := by
 intro a0 k
 have ih0 := impl_ReadSaid.mono_l k
 unfold impl_ReadSaid.f
 repeat' with_reducible first | apply ih0 | apply impl_saidReader_said.mono | exact LeO.refl _ | exact LeO.none _ | apply LeO.ite | refine LeO.bind ?_ fun _ => ?_
theorem impl_ReadSaid.calls (k : Nat) (a0 : ByteArray) (r1 : List (S35)) (r2 : Int) (r3 : Bool) (w : World) (h : impl_ReadSaid.f k a0 = some (r1, r2, r3)) :
  Calls Try.prog 8 #[.string a0] w fun e w' => ∃ v0_ : Value, e = .returned (.tuple #[v0_, .int .i64 r2, .bool r3]) ∧ Kd.R k35 35 w' w.heap.size (fun _ => True) v0_ r1 ∧ Below w.heap.size w w' := by
 have hu41 := Try.underlying41
 have HB := am_ (Below.refl w.heap.size w)
 have H := h
 clear h
 unfold impl_ReadSaid.f at H
 by_cases c2 : (a0.size : Int) > 200
 ·rw [if_pos c2] at H
  have c2b0 : decide (200 < (a0.size : Int)) = true := decide_eq_true c2
  have c2b1 : decide (200 < a0.size) = true := decide_eq_true (by omega)
  clear c2
  simp only [Option.some.injEq, Prod.mk.injEq] at H
  obtain ⟨rfl, rfl, rfl⟩ := H
  go_enter Try.func8, Try.ntmps8
  go_wp2
  repeat (go_quiet (fail); try go_wp2)
  go_ret3
  exact ⟨_, Sh.eR, by first | exact Kd.R_nil _ _ _ _ _ | exact Kd.N_nil _ _ _ _ _ | exact Kd.V_nil _ _ _ _ _ | exact Kd.Q_nil _ _ _ _ _ | exact Kd.S_nil _ _ _ _ _, Sh.bw⟩
 ·rw [if_neg c2] at H
  have c2b0 : decide (200 < (a0.size : Int)) = false := decide_eq_false c2
  have c2b1 : decide (200 < a0.size) = false := decide_eq_false (by omega)
  clear c2
  obtain ⟨⟨t325, t328, t329, t330⟩, A30, H⟩ := Sh.bd H
  have A3 := am_ A30
  clear A30
  have HC4 := am_ H
  clear H
  go_enter Try.func8, Try.ntmps8
  go_upto_region 5 with (first | ((with_reducible refine Sh.d 12 ?_); (try (refine gate_guard (by rfl) ?_; dsimp only)); refine Sh.bz w (N := 12) (cs := #[.string a0, .int .i64 0, .bool false]) (t := 41) (h := ?_); clear HB; intro gb324 w5 BK324 GE324 HB; have HI324 := am_ (show IsS41 w w5 gb324 a0 0 false from ⟨BK324.out, GE324.out⟩)) | (go_at_call 17; (with_reducible refine (impl_saidReader_said.calls k gb324 a0 0 false t325 t328 t329 t330 w _ ?side1 ?side2 A3.out).mono ?_); (case side1 => repeat (first | (with_reducible first | exact HI324.out | apply IsS41.alloc | apply IsS41.drewN | apply IsS41.drew | apply IsS41.set_0 | apply IsS41.set_1 | apply IsS41.set_2) | exact HI324.out)); (case side2 => repeat (first | (with_reducible first | exact HB.out | apply below_alloc | apply pw_below_drewN | apply below_drew1 | refine below_set ?_ (IsS41.ge HI324.out)) | exact HB.out)); rintro e w6 ⟨v326, rfl, ho0, hi, hb, hk⟩; have HO327 := am_ (Kd.R_lower ho0 (below_size (by repeat (first | (with_reducible first | exact HB.out | apply below_alloc | apply pw_below_drewN | apply below_drew1 | refine below_set ?_ (IsS41.ge HI324.out)) | exact HB.out)))); replace HB := am_ hb; replace HI324 := am_ hi; (try clear hb); (try clear hb2); (try clear hk); (try clear hi); (try clear ho0)))
  repeat (go_quiet (first | ((with_reducible refine Sh.d 12 ?_); (try (refine gate_guard (by rfl) ?_; dsimp only)); refine Sh.bz w (N := 12) (cs := #[.string a0, .int .i64 0, .bool false]) (t := 41) (h := ?_); clear HB; intro gb324 w5 BK324 GE324 HB; have HI324 := am_ (show IsS41 w w5 gb324 a0 0 false from ⟨BK324.out, GE324.out⟩)) | (go_at_call 17; (with_reducible refine (impl_saidReader_said.calls k gb324 a0 0 false t325 t328 t329 t330 w _ ?side1 ?side2 A3.out).mono ?_); (case side1 => repeat (first | (with_reducible first | exact HI324.out | apply IsS41.alloc | apply IsS41.drewN | apply IsS41.drew | apply IsS41.set_0 | apply IsS41.set_1 | apply IsS41.set_2) | exact HI324.out)); (case side2 => repeat (first | (with_reducible first | exact HB.out | apply below_alloc | apply pw_below_drewN | apply below_drew1 | refine below_set ?_ (IsS41.ge HI324.out)) | exact HB.out)); rintro e w6 ⟨v326, rfl, ho0, hi, hb, hk⟩; have HO327 := am_ (Kd.R_lower ho0 (below_size (by repeat (first | (with_reducible first | exact HB.out | apply below_alloc | apply pw_below_drewN | apply below_drew1 | refine below_set ?_ (IsS41.ge HI324.out)) | exact HB.out)))); replace HB := am_ hb; replace HI324 := am_ hi; (try clear hb); (try clear hb2); (try clear hk); (try clear hi); (try clear ho0))); go_upto_region 5 with (first | ((with_reducible refine Sh.d 12 ?_); (try (refine gate_guard (by rfl) ?_; dsimp only)); refine Sh.bz w (N := 12) (cs := #[.string a0, .int .i64 0, .bool false]) (t := 41) (h := ?_); clear HB; intro gb324 w5 BK324 GE324 HB; have HI324 := am_ (show IsS41 w w5 gb324 a0 0 false from ⟨BK324.out, GE324.out⟩)) | (go_at_call 17; (with_reducible refine (impl_saidReader_said.calls k gb324 a0 0 false t325 t328 t329 t330 w _ ?side1 ?side2 A3.out).mono ?_); (case side1 => repeat (first | (with_reducible first | exact HI324.out | apply IsS41.alloc | apply IsS41.drewN | apply IsS41.drew | apply IsS41.set_0 | apply IsS41.set_1 | apply IsS41.set_2) | exact HI324.out)); (case side2 => repeat (first | (with_reducible first | exact HB.out | apply below_alloc | apply pw_below_drewN | apply below_drew1 | refine below_set ?_ (IsS41.ge HI324.out)) | exact HB.out)); rintro e w6 ⟨v326, rfl, ho0, hi, hb, hk⟩; have HO327 := am_ (Kd.R_lower ho0 (below_size (by repeat (first | (with_reducible first | exact HB.out | apply below_alloc | apply pw_below_drewN | apply below_drew1 | refine below_set ?_ (IsS41.ge HI324.out)) | exact HB.out)))); replace HB := am_ hb; replace HI324 := am_ hi; (try clear hb); (try clear hb2); (try clear hk); (try clear hi); (try clear ho0))))
  (try simp only [Act.put, List.setIfInBounds_toArray, List.set_cons_zero, List.set_cons_succ])
  go_cut [15] (fun v15 wc => ∃ (kq : Nat) (x15_3 : Bool), v15 = .bool x15_3 ∧ Aside0 (impl_ReadSaid.j0 kq a0 t325 x15_3 t328 t329 t330 = some (r1, r2, r3)) ∧ Aside0 (kq ≤ k) ∧ Aside0 (Kd.R k35 35 wc w.heap.size (fun _ => True) v326 t325) ∧ Aside0 (IsS41 w wc gb324 t328 t329 t330) ∧ Aside0 (Below w.heap.size w wc))
  case first =>
   have H := HC4.out
   clear HC4
   by_cases c7 : t330 = true
   ·subst c7
    rw [if_pos rfl] at H
    have H' := am_ H
    clear H
    obtain ⟨HGz8, hgz8⟩ := HI324.out
    have hcz8_0 := cellS41_0 HGz8
    have hcz8_1 := cellS41_1 HGz8
    have hcz8_2 := cellS41_2 HGz8
    have hfz8_0 := blk_frozen HGz8 0
    have hfz8_1 := blk_frozen HGz8 1
    have hfz8_2 := blk_frozen HGz8 2
    clear HGz8 hgz8
    go_wp2
    repeat (go_quiet (fail); try go_wp2)
    go_meet
    case rel => exact ⟨_, (true), (Sh.es), H', ⟨Sh.om⟩, ⟨Sh.rl HO327.out⟩, ⟨by repeat (first | (with_reducible first | exact HI324.out | apply IsS41.alloc | apply IsS41.drewN | apply IsS41.drew | apply IsS41.set_0 | apply IsS41.set_1 | apply IsS41.set_2) | exact HI324.out)⟩, ⟨by repeat (first | (with_reducible first | exact HB.out | apply below_alloc | apply pw_below_drewN | apply below_drew1 | refine below_set ?_ (IsS41.ge HI324.out)) | exact HB.out)⟩⟩
   ·replace c7 := Bool.eq_false_iff.mpr c7
    subst c7
    rw [Sh.nf] at H
    have H' := am_ H
    clear H
    obtain ⟨HGz9, hgz9⟩ := HI324.out
    have hcz9_0 := cellS41_0 HGz9
    have hcz9_1 := cellS41_1 HGz9
    have hcz9_2 := cellS41_2 HGz9
    have hfz9_0 := blk_frozen HGz9 0
    have hfz9_1 := blk_frozen HGz9 1
    have hfz9_2 := blk_frozen HGz9 2
    clear HGz9 hgz9
    go_wp2
    repeat (go_quiet (fail); try go_wp2)
    go_meet
    case rel => exact ⟨_, (decide (t329 < (a0.size : Int))), (Sh.es), H', ⟨Sh.om⟩, ⟨Sh.rl HO327.out⟩, ⟨by repeat (first | (with_reducible first | exact HI324.out | apply IsS41.alloc | apply IsS41.drewN | apply IsS41.drew | apply IsS41.set_0 | apply IsS41.set_1 | apply IsS41.set_2) | exact HI324.out)⟩, ⟨by repeat (first | (with_reducible first | exact HB.out | apply below_alloc | apply pw_below_drewN | apply below_drew1 | refine below_set ?_ (IsS41.ge HI324.out)) | exact HB.out)⟩⟩
  case rest =>
   clear HC4
   try clear hcz8_0
   try clear hcz8_1
   try clear hcz8_2
   try clear hcz9_0
   try clear hcz9_1
   try clear hcz9_2
   try clear hfz8_0
   try clear hfz8_1
   try clear hfz8_2
   try clear hfz9_0
   try clear hfz9_1
   try clear hfz9_2
   obtain ⟨kq, x15_3, rfl, HA, HJ3, HO_6, HI324, HB⟩ := hcut
   cases kq with
   | zero => exact absurd HA.out (by simp [impl_ReadSaid.j0])
   | succ kj3 =>
    have H := HA.out
    clear HA
    simp only [impl_ReadSaid.j0] at H
    by_cases c10 : x15_3 = true
    ·subst c10
     rw [if_pos rfl] at H
     simp only [Option.some.injEq, Prod.mk.injEq] at H
     obtain ⟨rfl, rfl, rfl⟩ := H
     obtain ⟨HGz11, hgz11⟩ := HI324.out
     have hcz11_0 := cellS41_0 HGz11
     have hcz11_1 := cellS41_1 HGz11
     have hcz11_2 := cellS41_2 HGz11
     have hfz11_0 := blk_frozen HGz11 0
     have hfz11_1 := blk_frozen HGz11 1
     have hfz11_2 := blk_frozen HGz11 2
     clear HGz11 hgz11
     go_wp2
     repeat (go_quiet (fail); try go_wp2)
     go_ret3
     exact ⟨_, Sh.eR, by first | exact Kd.R_nil _ _ _ _ _ | exact Kd.N_nil _ _ _ _ _ | exact Kd.V_nil _ _ _ _ _ | exact Kd.Q_nil _ _ _ _ _ | exact Kd.S_nil _ _ _ _ _, by repeat (first | (with_reducible first | exact HB.out | apply below_alloc | apply pw_below_drewN | apply below_drew1 | refine below_set ?_ (IsS41.ge HI324.out)) | exact HB.out)⟩
    ·replace c10 := Bool.eq_false_iff.mpr c10
     subst c10
     rw [Sh.nf] at H
     by_cases c12 : (t325.length : Int) > 16
     ·rw [if_pos c12] at H
      have c12b0 : decide (16 < (t325.length : Int)) = true := decide_eq_true c12
      have c12b1 : decide (16 < t325.length) = true := decide_eq_true (by omega)
      clear c12
      simp only [Option.some.injEq, Prod.mk.injEq] at H
      obtain ⟨rfl, rfl, rfl⟩ := H
      obtain ⟨Ao13, co13, eo13⟩ := Kd.R_slice HO_6.out
      subst eo13
      go_wp2
      repeat (go_quiet (fail); try go_wp2)
      go_ret3
      exact ⟨_, Sh.eR, by first | exact Kd.R_nil _ _ _ _ _ | exact Kd.N_nil _ _ _ _ _ | exact Kd.V_nil _ _ _ _ _ | exact Kd.Q_nil _ _ _ _ _ | exact Kd.S_nil _ _ _ _ _, by repeat (first | (with_reducible first | exact HB.out | apply below_alloc | apply pw_below_drewN | apply below_drew1 | refine below_set ?_ (IsS41.ge HI324.out)) | exact HB.out)⟩
     ·rw [if_neg c12] at H
      have c12b0 : decide (16 < (t325.length : Int)) = false := decide_eq_false c12
      have c12b1 : decide (16 < t325.length) = false := decide_eq_false (by omega)
      clear c12
      simp only [Option.some.injEq, Prod.mk.injEq] at H
      obtain ⟨rfl, rfl, rfl⟩ := H
      obtain ⟨Ao14, co14, eo14⟩ := Kd.R_slice HO_6.out
      subst eo14
      go_wp2
      repeat (go_quiet (fail); try go_wp2)
      go_ret3
      exact ⟨_, Sh.eR, Sh.rl HO_6.out, by repeat (first | (with_reducible first | exact HB.out | apply below_alloc | apply pw_below_drewN | apply below_drew1 | refine below_set ?_ (IsS41.ge HI324.out)) | exact HB.out)⟩
attribute [local go_sem high] eqA35
def laws_sameSaid.l0 : Nat → List (S35) → List (S35) → Int → Int → Option (Bool)
 | 0, _, _, _, _ => none
 | k + 1, x0, x1, x12, x13 => if x13 < x12 then (if 0 ≤ x13 then (if x13 < (x0.length : Int) then (if x13 < (x1.length : Int) then (if (!(((rd_T35 x0 x13).f0) == ((rd_T35 x1 x13).f0)) || (!(((rd_T35 x0 x13).f1) == ((rd_T35 x1 x13).f1)))) = true then (some false) else (laws_sameSaid.l0 k x0 x1 x12 (wrap64 (x13 + 1)))) else (none)) else (none)) else (none)) else (some true)
def laws_sameSaid.f (k : Nat) (l0 : List (S35)) (l1 : List (S35)) : Option (Bool) := if (l0.length : Int) = (l1.length : Int) then (laws_sameSaid.l0 k l0 l1 (l0.length : Int) 0) else (some false)
theorem laws_sameSaid.mono_l : ∀ k, (∀ y0 y1 y2 y3, LeO (laws_sameSaid.l0 k y0 y1 y2 y3) (laws_sameSaid.l0 (k + 1) y0 y1 y2 y3))
 | 0 => fun _ _ _ _ r h => by simp [laws_sameSaid.l0] at h
 | k + 1 => by
  have ih0 := laws_sameSaid.mono_l k
  ·intro y0 y1 y2 y3
   unfold laws_sameSaid.l0
   repeat' with_reducible first | apply ih0 | exact LeO.refl _ | exact LeO.none _ | apply LeO.ite | refine LeO.bind ?_ fun _ => ?_
theorem laws_sameSaid.mono : ∀ a0 a1 k, LeO (laws_sameSaid.f k a0 a1) (laws_sameSaid.f (k + 1) a0 a1) := by
 intro a0 a1 k
 have ih0 := laws_sameSaid.mono_l k
 unfold laws_sameSaid.f
 repeat' with_reducible first | apply ih0 | exact LeO.refl _ | exact LeO.none _ | apply LeO.ite | refine LeO.bind ?_ fun _ => ?_
theorem laws_sameSaid.calls (k : Nat) (A0 : Option Addr) (c0 : Nat) (l0 : List (S35)) (A1 : Option Addr) (c1 : Nat) (l1 : List (S35)) (r : Bool) (w : World) (hr0 : Kd.C k35 w A0 l0.length l0) (hc0 : l0.length ≤ c0) (hr1 : Kd.C k35 w A1 l1.length l1) (hc1 : l1.length ≤ c1) (h : laws_sameSaid.f k l0 l1 = some r) :
  Calls Try.prog 9 #[.slice A0 l0.length c0, .slice A1 l1.length c1] w fun e w' => e = .returned (.bool r) ∧ Drawn0 w w' := by
 have hu35 := Try.underlying35
 have HR0 := am_ hr0
 have HC0 := am_ hc0
 clear hr0 hc0
 have HR1 := am_ hr1
 have HC1 := am_ hc1
 clear hr1 hc1
 have H := h
 clear h
 unfold laws_sameSaid.f at H
 by_cases c3 : (l0.length : Int) = (l1.length : Int)
 ·rw [if_pos c3] at H
  have c3b0 : ((l0.length : Int) == (l1.length : Int)) = true := beq_iff_eq.mpr c3
  have c3b1 : ((l0.length : Int) != (l1.length : Int)) = false := bne_eq_false_iff_eq.mpr c3
  have c3b2 : (l0.length == l1.length) = true := by first | simpa using c3 | (simp at c3 ⊢; omega)
  clear c3
  have H' := am_ H
  clear H
  go_enter Try.func9, Try.ntmps9
  go_wp2
  repeat (go_quiet (fail); try go_wp2)
  go_loopg [13] k (fun kq v13 w' => ∃ (x13_1 : Int), v13 = .int .i64 x13_1 ∧ Aside0 (laws_sameSaid.l0 kq l0 l1 (l0.length : Int) x13_1 = some r) ∧ Aside0 (kq ≤ k) ∧ Drawn0 w w')
  case atStart => exact ⟨(0), (Sh.es), H', ⟨Nat.le_refl _⟩, Sh.dr⟩
  case round =>
   clear H'
   obtain ⟨x13_1, rfl, HA, HK1, ⟨m1, rfl⟩⟩ := hrel
   cases gk with
   | zero => exact absurd HA.out (by simp [laws_sameSaid.l0])
   | succ k1 =>
    have H := HA.out
    clear HA
    simp only [laws_sameSaid.l0] at H
    by_cases c4 : x13_1 < (l0.length : Int)
    ·rw [if_pos c4] at H
     have c4b0 := decide_eq_true c4
     clear c4
     by_cases c5 : 0 ≤ x13_1
     ·rw [if_pos c5] at H
      have c5b0 := decide_eq_true c5
      clear c5
      by_cases c6 : x13_1 < (l0.length : Int)
      ·rw [if_pos c6] at H
       have c6b0 := decide_eq_true c6
       clear c6
       by_cases c7 : x13_1 < (l1.length : Int)
       ·rw [if_pos c7] at H
        have c7b0 := decide_eq_true c7
        clear c7
        by_cases c8 : (!(((rd_T35 l0 x13_1).f0) == ((rd_T35 l1 x13_1).f0)) || (!(((rd_T35 l0 x13_1).f1) == ((rd_T35 l1 x13_1).f1)))) = true
        ·rw [if_pos c8] at H
         have c8b0 : (!(((rd_T35 l0 x13_1).f0) == ((rd_T35 l1 x13_1).f0)) || (!(((rd_T35 l0 x13_1).f1) == ((rd_T35 l1 x13_1).f1)))) = true := c8
         clear c8
         obtain rfl := Option.some.inj H
         have p331 : 0 ≤ (x13_1 : Int) := Sh.od
         have q331 : x13_1 < (l0.length : Int) := Sh.od
         obtain ⟨ad331, e331, hx331_0, hx331_1⟩ := at_T35 HR0.out x13_1 p331 q331
         cases e331
         replace p331 := eq_true p331
         replace q331 := eq_true q331
         have p332 : 0 ≤ (x13_1 : Int) := Sh.od
         have q332 : x13_1 < (l1.length : Int) := Sh.od
         obtain ⟨ad332, e332, hx332_0, hx332_1⟩ := at_T35 HR1.out x13_1 p332 q332
         cases e332
         replace p332 := eq_true p332
         replace q332 := eq_true q332
         go_wp2
         repeat (go_quiet (fail); try go_wp2)
         go_ret
         exact ⟨Sh.es, Sh.dr⟩
        ·rw [if_neg c8] at H
         have c8b0 : (!(((rd_T35 l0 x13_1).f0) == ((rd_T35 l1 x13_1).f0)) || (!(((rd_T35 l0 x13_1).f1) == ((rd_T35 l1 x13_1).f1)))) = false := by simpa using c8
         clear c8
         have H' := am_ H
         clear H
         have p331 : 0 ≤ (x13_1 : Int) := Sh.od
         have q331 : x13_1 < (l0.length : Int) := Sh.od
         obtain ⟨ad331, e331, hx331_0, hx331_1⟩ := at_T35 HR0.out x13_1 p331 q331
         cases e331
         replace p331 := eq_true p331
         replace q331 := eq_true q331
         have p332 : 0 ≤ (x13_1 : Int) := Sh.od
         have q332 : x13_1 < (l1.length : Int) := Sh.od
         obtain ⟨ad332, e332, hx332_0, hx332_1⟩ := at_T35 HR1.out x13_1 p332 q332
         cases e332
         replace p332 := eq_true p332
         replace q332 := eq_true q332
         go_wp2
         repeat (go_quiet (fail); try go_wp2)
         go_roundg k1
         case measure => have := HK1.out; omega
         case rel => exact ⟨(wrap64 (x13_1 + 1)), (Sh.es), H', ⟨by have := HK1.out; omega⟩, Sh.dr⟩
       ·rw [if_neg c7] at H
        exact absurd H (by simp)
      ·rw [if_neg c6] at H
       exact absurd H (by simp)
     ·rw [if_neg c5] at H
      exact absurd H (by simp)
    ·rw [if_neg c4] at H
     have c4b0 := decide_eq_false c4
     clear c4
     obtain rfl := Option.some.inj H
     go_wp2
     repeat (go_quiet (fail); try go_wp2)
     go_ret
     exact ⟨Sh.es, Sh.dr⟩
 ·rw [if_neg c3] at H
  have c3b0 : ((l0.length : Int) == (l1.length : Int)) = false := beq_eq_false_iff_ne.mpr c3
  have c3b1 : ((l0.length : Int) != (l1.length : Int)) = true := bne_iff_ne.mpr c3
  have c3b2 : (l0.length == l1.length) = false := by first | simpa using c3 | (simp at c3 ⊢; omega)
  obtain rfl := Option.some.inj H
  go_enter Try.func9, Try.ntmps9
  go_wp2
  repeat (go_quiet (fail); try go_wp2)
  go_ret
  exact ⟨Sh.es, Sh.dr⟩
mutual
def spec_l1Cur_spoilt.l0 : Nat → ByteArray → ByteArray → Int → List Int → Int → Int → Option (ByteArray × Int × Int)
 | 0, _, _, _, _, _, _ => none
 | k + 1, x1, x2, x7, x1000, x1001, x1002 => if x7 > 0 then (spec_l1Cur_spoilt.j1 k x1 x2 x7 (decide ((x1.size : Int) > 0)) x1000 x1001 x1002) else (spec_l1Cur_spoilt.j1 k x1 x2 x7 false x1000 x1001 x1002)
def spec_l1Cur_spoilt.j1 : Nat → ByteArray → ByteArray → Int → Bool → List Int → Int → Int → Option (ByteArray × Int × Int)
 | 0, _, _, _, _, _, _, _ => none
 | k + 1, x1, x2, x7, x19, x1000, x1001, x1002 => if x19 = true then ((spec_l1Cur_pick.f x1000 x1001 x1002 (x1.size : Int)).bind fun bt336 => ((spec_l1Cur_pick.f x1000 bt336.2.1 bt336.2.2 (x2.size : Int)).bind fun bt339 => (if 0 ≤ bt339.1 then (if bt339.1 < (x2.size : Int) then ((some (([bt x2 bt339.1] : List Int) : List Int)).bind fun y342 => ((spec_l1Cur_pick.f x1000 bt339.2.1 bt339.2.2 3).bind fun bt345 => (if bt345.1 = 0 then (if 0 ≤ bt336.1 then (if bt336.1 ≤ (x1.size : Int) then (if (x1.extract 0 (bt336.1 : Int).toNat).size + (strOfNums y342).size ≤ 9223372036854775807 then (if ((x1.extract 0 (bt336.1 : Int).toNat) ++ (strOfNums y342)).size + (x1.extract (bt336.1 : Int).toNat x1.size).size ≤ 9223372036854775807 then (spec_l1Cur_spoilt.l0 k (((x1.extract 0 (bt336.1 : Int).toNat) ++ (strOfNums y342)) ++ (x1.extract (bt336.1 : Int).toNat x1.size)) x2 (wrap64 (x7 - 1)) x1000 bt345.2.1 bt345.2.2) else (none)) else (none)) else (none)) else (none)) else (if bt345.1 = 1 then (if 0 ≤ bt336.1 then (if bt336.1 ≤ (x1.size : Int) then (if (x1.extract 0 (bt336.1 : Int).toNat).size + (strOfNums y342).size ≤ 9223372036854775807 then (if 0 ≤ (wrap64 (bt336.1 + 1)) then (if (wrap64 (bt336.1 + 1)) ≤ (x1.size : Int) then (if ((x1.extract 0 (bt336.1 : Int).toNat) ++ (strOfNums y342)).size + (x1.extract ((wrap64 (bt336.1 + 1)) : Int).toNat x1.size).size ≤ 9223372036854775807 then (spec_l1Cur_spoilt.l0 k (((x1.extract 0 (bt336.1 : Int).toNat) ++ (strOfNums y342)) ++ (x1.extract ((wrap64 (bt336.1 + 1)) : Int).toNat x1.size)) x2 (wrap64 (x7 - 1)) x1000 bt345.2.1 bt345.2.2) else (none)) else (none)) else (none)) else (none)) else (none)) else (none)) else (if 0 ≤ bt336.1 then (if bt336.1 ≤ (x1.size : Int) then (if 0 ≤ (wrap64 (bt336.1 + 1)) then (if (wrap64 (bt336.1 + 1)) ≤ (x1.size : Int) then (if (x1.extract 0 (bt336.1 : Int).toNat).size + (x1.extract ((wrap64 (bt336.1 + 1)) : Int).toNat x1.size).size ≤ 9223372036854775807 then (spec_l1Cur_spoilt.l0 k ((x1.extract 0 (bt336.1 : Int).toNat) ++ (x1.extract ((wrap64 (bt336.1 + 1)) : Int).toNat x1.size)) x2 (wrap64 (x7 - 1)) x1000 bt345.2.1 bt345.2.2) else (none)) else (none)) else (none)) else (none)) else (none)))))) else (none)) else (none)))) else (some (x1, x1001, x1002))
end
def spec_l1Cur_spoilt.f (k : Nat) (s0_0 : List Int) (s0_1 : Int) (s0_2 : Int) (a1 : ByteArray) (a2 : ByteArray) : Option (ByteArray × Int × Int) := (spec_l1Cur_pick.f s0_0 s0_1 s0_2 2).bind fun bt333 => (spec_l1Cur_spoilt.l0 k a1 a2 (wrap64 (1 + bt333.1)) s0_0 bt333.2.1 bt333.2.2)
theorem spec_l1Cur_spoilt.mono_l : ∀ k, (∀ y0 y1 y2 y3 y4 y5, LeO (spec_l1Cur_spoilt.l0 k y0 y1 y2 y3 y4 y5) (spec_l1Cur_spoilt.l0 (k + 1) y0 y1 y2 y3 y4 y5)) ∧ (∀ y0 y1 y2 y3 y4 y5 y6, LeO (spec_l1Cur_spoilt.j1 k y0 y1 y2 y3 y4 y5 y6) (spec_l1Cur_spoilt.j1 (k + 1) y0 y1 y2 y3 y4 y5 y6))
 | 0 => ⟨fun _ _ _ _ _ _ r h => by simp [spec_l1Cur_spoilt.l0] at h, fun _ _ _ _ _ _ _ r h => by simp [spec_l1Cur_spoilt.j1] at h⟩
 | k + 1 => by
  obtain ⟨ih0, ih1⟩ := spec_l1Cur_spoilt.mono_l k
  and_intros <;> intros
  all_goals (first | unfold spec_l1Cur_spoilt.l0 | unfold spec_l1Cur_spoilt.j1)
  all_goals repeat' with_reducible first | apply ih0 | apply ih1 | exact LeO.refl _ | exact LeO.none _ | apply LeO.ite | refine LeO.bind ?_ fun _ => ?_
theorem spec_l1Cur_spoilt.mono : ∀ a0 a1 a2 a3 a4 k, LeO (spec_l1Cur_spoilt.f k a0 a1 a2 a3 a4) (spec_l1Cur_spoilt.f (k + 1) a0 a1 a2 a3 a4) := by
 intro a0 a1 a2 a3 a4 k
 obtain ⟨ih0, ih1⟩ := spec_l1Cur_spoilt.mono_l k
 unfold spec_l1Cur_spoilt.f
 repeat' with_reducible first | apply ih0 | apply ih1 | exact LeO.refl _ | exact LeO.none _ | apply LeO.ite | refine LeO.bind ?_ fun _ => ?_
theorem spec_l1Cur_spoilt.calls (k : Nat) (g : Nat) (s0_0 : List Int) (s0_1 : Int) (s0_2 : Int) (a1 : ByteArray) (a2 : ByteArray) (r1 : ByteArray) (r2 : Int) (r3 : Int) (w0 w : World) (hI : IsS46 w0 w g s0_0 s0_1 s0_2) (hB : Below w0.heap.size w0 w) (h : spec_l1Cur_spoilt.f k s0_0 s0_1 s0_2 a1 a2 = some (r1, r2, r3)) :
  Calls Try.prog 20 #[.pointer (some ⟨g, 0, none⟩), .string a1, .string a2] w fun e w' => e = .returned (.string r1) ∧ IsS46 w0 w' g s0_0 r2 r3 ∧ Below w0.heap.size w0 w' ∧ KeepBut w w' g none := by
 have HI0 := am_ hI
 have HK := am_ (KeepBut.refl w g none)
 have HL := am_ hB.size
 clear hI
 have HW0 := am_ hB.size
 have HB := am_ hB
 clear hB
 have H := h
 clear h
 unfold spec_l1Cur_spoilt.f at H
 obtain ⟨⟨t333, t334, t335⟩, A40, H⟩ := Sh.bd H
 have A4 := am_ A40
 clear A40
 have H' := am_ H
 clear H
 go_enter Try.func20, Try.ntmps20
 go_wp2_with (first | (go_at_call 19; (with_reducible refine (spec_l1Cur_pick.calls g s0_0 s0_1 s0_2 2 t333 t334 t335 w0 _ ?side1 ?side2 A4.out).mono ?_); (case side1 => repeat (first | (with_reducible first | exact HI0.out | apply IsS46.alloc | apply IsS46.drewN | apply IsS46.drew | apply IsS46.set_1 | apply IsS46.set_2) | exact HI0.out)); (case side2 => repeat (first | (with_reducible first | exact HB.out | apply below_alloc | apply pw_below_drewN | apply below_drew1 | refine below_set ?_ (IsS46.ge HI0.out)) | exact HB.out)); rintro e w5 ⟨rfl, hi, hb, hk⟩; replace HK := am_ (KeepBut.trans (by repeat (first | (with_reducible first | exact HK.out | apply KeepBut.set_ | apply keep_drewN | apply keep_drew | apply keep_alloc) | exact HK.out)) hk (.inl rfl)); replace HB := am_ hb; replace HI0 := am_ hi; (try clear hb); (try clear hb2); (try clear hk); (try clear hi)))
 repeat (go_quiet (first | (go_at_call 19; (with_reducible refine (spec_l1Cur_pick.calls g s0_0 s0_1 s0_2 2 t333 t334 t335 w0 _ ?side1 ?side2 A4.out).mono ?_); (case side1 => repeat (first | (with_reducible first | exact HI0.out | apply IsS46.alloc | apply IsS46.drewN | apply IsS46.drew | apply IsS46.set_1 | apply IsS46.set_2) | exact HI0.out)); (case side2 => repeat (first | (with_reducible first | exact HB.out | apply below_alloc | apply pw_below_drewN | apply below_drew1 | refine below_set ?_ (IsS46.ge HI0.out)) | exact HB.out)); rintro e w5 ⟨rfl, hi, hb, hk⟩; replace HK := am_ (KeepBut.trans (by repeat (first | (with_reducible first | exact HK.out | apply KeepBut.set_ | apply keep_drewN | apply keep_drew | apply keep_alloc) | exact HK.out)) hk (.inl rfl)); replace HB := am_ hb; replace HI0 := am_ hi; (try clear hb); (try clear hb2); (try clear hk); (try clear hi))); try go_wp2_with (first | (go_at_call 19; (with_reducible refine (spec_l1Cur_pick.calls g s0_0 s0_1 s0_2 2 t333 t334 t335 w0 _ ?side1 ?side2 A4.out).mono ?_); (case side1 => repeat (first | (with_reducible first | exact HI0.out | apply IsS46.alloc | apply IsS46.drewN | apply IsS46.drew | apply IsS46.set_1 | apply IsS46.set_2) | exact HI0.out)); (case side2 => repeat (first | (with_reducible first | exact HB.out | apply below_alloc | apply pw_below_drewN | apply below_drew1 | refine below_set ?_ (IsS46.ge HI0.out)) | exact HB.out)); rintro e w5 ⟨rfl, hi, hb, hk⟩; replace HK := am_ (KeepBut.trans (by repeat (first | (with_reducible first | exact HK.out | apply KeepBut.set_ | apply keep_drewN | apply keep_drew | apply keep_alloc) | exact HK.out)) hk (.inl rfl)); replace HB := am_ hb; replace HI0 := am_ hi; (try clear hb); (try clear hb2); (try clear hk); (try clear hi))))
 go_loopg [1, 7] k (fun kq v1 v7 w' => ∃ (x1_1 : ByteArray) (x7_1 : Int) (x1001_1 : Int) (x1002_1 : Int), v1 = .string x1_1 ∧ v7 = .int .i64 x7_1 ∧ Aside0 (spec_l1Cur_spoilt.l0 kq x1_1 a2 x7_1 s0_0 x1001_1 x1002_1 = some (r1, r2, r3)) ∧ Aside0 (kq ≤ k) ∧ Aside0 (IsS46 w0 w' g s0_0 x1001_1 x1002_1) ∧ Aside0 (KeepBut w w' g none) ∧ Aside0 (Below w0.heap.size w0 w'))
 case atStart => exact ⟨(a1), (wrap64 (1 + t333)), (t334), (t335), (Sh.es), (Sh.es), H', ⟨Nat.le_refl _⟩, ⟨by repeat (first | (with_reducible first | exact HI0.out | apply IsS46.alloc | apply IsS46.drewN | apply IsS46.drew | apply IsS46.set_1 | apply IsS46.set_2) | exact HI0.out)⟩, ⟨by repeat (first | (with_reducible first | exact HK.out | apply KeepBut.set_ | apply keep_drewN | apply keep_drew | apply keep_alloc) | exact HK.out)⟩, ⟨by repeat (first | (with_reducible first | exact HB.out | apply below_alloc | apply pw_below_drewN | apply below_drew1 | refine below_set ?_ (IsS46.ge HI0.out)) | exact HB.out)⟩⟩
 case round =>
  clear H'
  obtain ⟨x1_1, x7_1, x1001_1, x1002_1, rfl, rfl, HA, HK1, HI0, HK, HB⟩ := hrel
  cases gk with
  | zero => exact absurd HA.out (by simp [spec_l1Cur_spoilt.l0])
  | succ k1 =>
   have H := HA.out
   clear HA
   simp only [spec_l1Cur_spoilt.l0] at H
   have HC6 := am_ H
   clear H
   go_upto_region 2 with (fail)
   repeat (go_quiet (fail); go_upto_region 2 with (fail))
   go_cut [19] (fun v19 wc => ∃ (kq : Nat) (x19_5 : Bool), v19 = .bool x19_5 ∧ Aside0 (spec_l1Cur_spoilt.j1 kq x1_1 a2 x7_1 x19_5 s0_0 x1001_1 x1002_1 = some (r1, r2, r3)) ∧ Aside0 (kq ≤ k1) ∧ Aside0 (IsS46 w0 wc g s0_0 x1001_1 x1002_1) ∧ Aside0 (KeepBut w wc g none) ∧ Aside0 (Below w0.heap.size w0 wc))
   case first =>
    have H := HC6.out
    clear HC6
    by_cases c7 : x7_1 > 0
    ·rw [if_pos c7] at H
     have c7b0 : decide (0 < x7_1) = true := decide_eq_true c7
     clear c7
     first | rw [c7b0] | (simp only [i64_w, i32_w]; rw [c7b0]) | skip
     have H' := am_ H
     clear H
     go_wp2
     repeat (go_quiet (fail); try go_wp2)
     go_meet
     case rel => exact ⟨_, (decide ((x1_1.size : Int) > 0)), (Sh.es), H', ⟨by have := HK1.out; first | omega | exact Nat.le_refl _⟩, ⟨by repeat (first | (with_reducible first | exact HI0.out | apply IsS46.alloc | apply IsS46.drewN | apply IsS46.drew | apply IsS46.set_1 | apply IsS46.set_2) | exact HI0.out)⟩, ⟨by repeat (first | (with_reducible first | exact HK.out | apply KeepBut.set_ | apply keep_drewN | apply keep_drew | apply keep_alloc) | exact HK.out)⟩, ⟨by repeat (first | (with_reducible first | exact HB.out | apply below_alloc | apply pw_below_drewN | apply below_drew1 | refine below_set ?_ (IsS46.ge HI0.out)) | exact HB.out)⟩⟩
    ·rw [if_neg c7] at H
     have c7b0 : decide (0 < x7_1) = false := decide_eq_false c7
     clear c7
     first | rw [c7b0] | (simp only [i64_w, i32_w]; rw [c7b0]) | skip
     have H' := am_ H
     clear H
     go_wp2
     repeat (go_quiet (fail); try go_wp2)
     go_meet
     case rel => exact ⟨_, (false), (Sh.es), H', ⟨by have := HK1.out; first | omega | exact Nat.le_refl _⟩, ⟨by repeat (first | (with_reducible first | exact HI0.out | apply IsS46.alloc | apply IsS46.drewN | apply IsS46.drew | apply IsS46.set_1 | apply IsS46.set_2) | exact HI0.out)⟩, ⟨by repeat (first | (with_reducible first | exact HK.out | apply KeepBut.set_ | apply keep_drewN | apply keep_drew | apply keep_alloc) | exact HK.out)⟩, ⟨by repeat (first | (with_reducible first | exact HB.out | apply below_alloc | apply pw_below_drewN | apply below_drew1 | refine below_set ?_ (IsS46.ge HI0.out)) | exact HB.out)⟩⟩
   case rest =>
    clear HC6
    obtain ⟨kq, x19_5, rfl, HA, HJ5, HI0, HK, HB⟩ := hcut
    cases kq with
    | zero => exact absurd HA.out (by simp [spec_l1Cur_spoilt.j1])
    | succ kj5 =>
     have H := HA.out
     clear HA
     simp only [spec_l1Cur_spoilt.j1] at H
     by_cases c8 : x19_5 = true
     ·subst c8
      rw [if_pos rfl] at H
      obtain ⟨⟨t336, t337, t338⟩, A90, H⟩ := Sh.bd H
      have A9 := am_ A90
      clear A90
      obtain ⟨⟨t339, t340, t341⟩, A100, H⟩ := Sh.bd H
      have A10 := am_ A100
      clear A100
      by_cases c11 : 0 ≤ t339
      ·rw [if_pos c11] at H
       have c11b0 := decide_eq_true c11
       clear c11
       by_cases c12 : t339 < (a2.size : Int)
       ·rw [if_pos c12] at H
        have c12b0 := decide_eq_true c12
        clear c12
        obtain ⟨y342, hy342⟩ : ∃ y_ : List Int, y_ = (([bt a2 t339] : List Int)) := ⟨_, rfl⟩
        replace H : ((spec_l1Cur_pick.f s0_0 t340 t341 3).bind fun bt345 => (if bt345.1 = 0 then (if 0 ≤ t336 then (if t336 ≤ (x1_1.size : Int) then (if (x1_1.extract 0 (t336 : Int).toNat).size + (strOfNums y342).size ≤ 9223372036854775807 then (if ((x1_1.extract 0 (t336 : Int).toNat) ++ (strOfNums y342)).size + (x1_1.extract (t336 : Int).toNat x1_1.size).size ≤ 9223372036854775807 then (spec_l1Cur_spoilt.l0 kj5 (((x1_1.extract 0 (t336 : Int).toNat) ++ (strOfNums y342)) ++ (x1_1.extract (t336 : Int).toNat x1_1.size)) a2 (wrap64 (x7_1 - 1)) s0_0 bt345.2.1 bt345.2.2) else (none)) else (none)) else (none)) else (none)) else (if bt345.1 = 1 then (if 0 ≤ t336 then (if t336 ≤ (x1_1.size : Int) then (if (x1_1.extract 0 (t336 : Int).toNat).size + (strOfNums y342).size ≤ 9223372036854775807 then (if 0 ≤ (wrap64 (t336 + 1)) then (if (wrap64 (t336 + 1)) ≤ (x1_1.size : Int) then (if ((x1_1.extract 0 (t336 : Int).toNat) ++ (strOfNums y342)).size + (x1_1.extract ((wrap64 (t336 + 1)) : Int).toNat x1_1.size).size ≤ 9223372036854775807 then (spec_l1Cur_spoilt.l0 kj5 (((x1_1.extract 0 (t336 : Int).toNat) ++ (strOfNums y342)) ++ (x1_1.extract ((wrap64 (t336 + 1)) : Int).toNat x1_1.size)) a2 (wrap64 (x7_1 - 1)) s0_0 bt345.2.1 bt345.2.2) else (none)) else (none)) else (none)) else (none)) else (none)) else (none)) else (if 0 ≤ t336 then (if t336 ≤ (x1_1.size : Int) then (if 0 ≤ (wrap64 (t336 + 1)) then (if (wrap64 (t336 + 1)) ≤ (x1_1.size : Int) then (if (x1_1.extract 0 (t336 : Int).toNat).size + (x1_1.extract ((wrap64 (t336 + 1)) : Int).toNat x1_1.size).size ≤ 9223372036854775807 then (spec_l1Cur_spoilt.l0 kj5 ((x1_1.extract 0 (t336 : Int).toNat) ++ (x1_1.extract ((wrap64 (t336 + 1)) : Int).toNat x1_1.size)) a2 (wrap64 (x7_1 - 1)) s0_0 bt345.2.1 bt345.2.2) else (none)) else (none)) else (none)) else (none)) else (none))))) = some (r1, r2, r3) := by first | (rw [hy342]; with_reducible exact H) | (have H2_ := (Option.bind_some _ _).symm.trans H; rw [hy342]; with_reducible exact H2_) | (have H2_ := (Option.bind_some _ _).symm.trans H; with_reducible exact H2_) | with_reducible exact H | (rw [hy342]; exact H) | exact H
        have Ny342 := am_ hy342
        clear hy342
        obtain ⟨⟨t345, t346, t347⟩, A140, H⟩ := Sh.bd H
        have A14 := am_ A140
        clear A140
        by_cases c15 : t345 = 0
        ·rw [if_pos c15] at H
         have c15b0 : (t345 == 0) = true := beq_iff_eq.mpr c15
         have c15b1 : (t345 != 0) = false := bne_eq_false_iff_eq.mpr c15
         clear c15
         by_cases c16 : 0 ≤ t336
         ·rw [if_pos c16] at H
          have c16b0 := eq_true c16
          have c16b1 := decide_eq_true c16
          clear c16
          by_cases c17 : t336 ≤ (x1_1.size : Int)
          ·rw [if_pos c17] at H
           have c17b0 := eq_true c17
           have c17b1 := decide_eq_true c17
           clear c17
           by_cases c18 : (x1_1.extract 0 (t336 : Int).toNat).size + (strOfNums y342).size ≤ 9223372036854775807
           ·rw [if_pos c18] at H
            have c18b0 := eq_true c18
            have c18b1 := decide_eq_true c18
            try have c18b2 : (9223372036854775807 < (x1_1.extract 0 (t336 : Int).toNat).size + (strOfNums y342).size) = False := eq_false (Nat.not_lt.2 c18)
            have c19b0 := eq_true (of_decide_eq_true (by first | (with_reducible assumption) | assumption) : 0 ≤ t336)
            have c20b0 := eq_true (of_decide_eq_true (by first | (with_reducible assumption) | assumption) : t336 ≤ (x1_1.size : Int))
            by_cases c21 : ((x1_1.extract 0 (t336 : Int).toNat) ++ (strOfNums y342)).size + (x1_1.extract (t336 : Int).toNat x1_1.size).size ≤ 9223372036854775807
            ·rw [if_pos c21] at H
             have c21b0 := eq_true c21
             have c21b1 := decide_eq_true c21
             try have c21b2 : (9223372036854775807 < ((x1_1.extract 0 (t336 : Int).toNat) ++ (strOfNums y342)).size + (x1_1.extract (t336 : Int).toNat x1_1.size).size) = False := eq_false (Nat.not_lt.2 c21)
             have H' := am_ H
             clear H
             go_wp2_with (first | (go_at_call 19; (with_reducible refine (spec_l1Cur_pick.calls g s0_0 x1001_1 x1002_1 (x1_1.size : Int) t336 t337 t338 w0 _ ?side1 ?side2 A9.out).mono ?_); (case side1 => repeat (first | (with_reducible first | exact HI0.out | apply IsS46.alloc | apply IsS46.drewN | apply IsS46.drew | apply IsS46.set_1 | apply IsS46.set_2) | exact HI0.out)); (case side2 => repeat (first | (with_reducible first | exact HB.out | apply below_alloc | apply pw_below_drewN | apply below_drew1 | refine below_set ?_ (IsS46.ge HI0.out)) | exact HB.out)); rintro e w22 ⟨rfl, hi, hb, hk⟩; replace HK := am_ (KeepBut.trans (by repeat (first | (with_reducible first | exact HK.out | apply KeepBut.set_ | apply keep_drewN | apply keep_drew | apply keep_alloc) | exact HK.out)) hk (.inl rfl)); replace HB := am_ hb; replace HI0 := am_ hi; (try clear hb); (try clear hb2); (try clear hk); (try clear hi)) | (go_at_call 19; (with_reducible refine (spec_l1Cur_pick.calls g s0_0 t337 t338 (a2.size : Int) t339 t340 t341 w0 _ ?side1 ?side2 A10.out).mono ?_); (case side1 => repeat (first | (with_reducible first | exact HI0.out | apply IsS46.alloc | apply IsS46.drewN | apply IsS46.drew | apply IsS46.set_1 | apply IsS46.set_2) | exact HI0.out)); (case side2 => repeat (first | (with_reducible first | exact HB.out | apply below_alloc | apply pw_below_drewN | apply below_drew1 | refine below_set ?_ (IsS46.ge HI0.out)) | exact HB.out)); rintro e w23 ⟨rfl, hi, hb, hk⟩; replace HK := am_ (KeepBut.trans (by repeat (first | (with_reducible first | exact HK.out | apply KeepBut.set_ | apply keep_drewN | apply keep_drew | apply keep_alloc) | exact HK.out)) hk (.inl rfl)); replace HB := am_ hb; replace HI0 := am_ hi; (try clear hb); (try clear hb2); (try clear hk); (try clear hi); have p13 : 0 ≤ (t339 : Int) := Sh.od; have q13 : t339 < (a2.size : Int) := Sh.od; have hx13 := bt_at a2 t339; replace p13 := eq_true p13; replace q13 := eq_true q13) | ((with_reducible refine Sh.d 32 ?_); (try (refine gate_guard (by rfl) ?_; dsimp only)); refine Kd.R_lit (Kd.int .u8) _ 5 ?hg (N := 32) ?hd (xs := ([bt a2 t339] : List Int)) (inner := [.int .u8 (bt a2 t339)]) (ok := fun _ => True) (okp := fun _ => True) ?hr ?hp (fun _ hk => hk) trivial (Below.refl _ _) (Nat.le_refl _) (by simp) ?_; (case hd => rfl); (case hg => rfl); (case hr => first | (go_simp; done) | (go_simp; rfl)); (case hp => exact (Reps.one (show Kd.M (Kd.int .u8) _ _ _ (bt a2 t339) [.int .u8 (bt a2 t339)] from rfl) (Reps.none _ _))); intro v343 w24 ho25 hb hg_ hnew_; clear hg_ hnew_; (first | rw [← Ny342.out] at ho25 | (simp only [Int.reduceToNat] at ho25; rw [← Ny342.out] at ho25)); have HO344 := am_ (Kd.R_lower ho25 (keep_size (w := w) (g := g) (row := none) (by repeat (first | (with_reducible first | exact HK.out | apply KeepBut.set_ | apply keep_drewN | apply keep_drew | apply keep_alloc) | exact HK.out)))); replace HK := am_ (KeepBut.trans (by repeat (first | (with_reducible first | exact HK.out | apply KeepBut.set_ | apply keep_drewN | apply keep_drew | apply keep_alloc) | exact HK.out)) (KeepBut.of_below hb g none) (.inl rfl)); replace HB := am_ (below_step (by repeat (first | (with_reducible first | exact HB.out | apply below_alloc | apply pw_below_drewN | apply below_drew1 | refine below_set ?_ (IsS46.ge HI0.out)) | exact HB.out)) hb); replace HI0 := am_ (IsS46.below (by repeat (first | (with_reducible first | exact HI0.out | apply IsS46.alloc | apply IsS46.drewN | apply IsS46.drew | apply IsS46.set_1 | apply IsS46.set_2) | exact HI0.out)) hb); clear hb ho25; have hcv26 := own_string (P := Try.prog) Try.underlying22 Try.underlying5 Try.underlying9 (Kd.own_of_R HO344.out)) | (go_at_call 19; (with_reducible refine (spec_l1Cur_pick.calls g s0_0 t340 t341 3 t345 t346 t347 w0 _ ?side1 ?side2 A14.out).mono ?_); (case side1 => repeat (first | (with_reducible first | exact HI0.out | apply IsS46.alloc | apply IsS46.drewN | apply IsS46.drew | apply IsS46.set_1 | apply IsS46.set_2) | exact HI0.out)); (case side2 => repeat (first | (with_reducible first | exact HB.out | apply below_alloc | apply pw_below_drewN | apply below_drew1 | refine below_set ?_ (IsS46.ge HI0.out)) | exact HB.out)); rintro e w27 ⟨rfl, hi, hb, hk⟩; replace HO344 := am_ (Kd.R_mono (Kd.R_keep (IsS46.apart (show IsS46 w0 _ g s0_0 t340 t341 from by repeat (first | (with_reducible first | exact HI0.out | apply IsS46.alloc | apply IsS46.drewN | apply IsS46.drew | apply IsS46.set_1 | apply IsS46.set_2) | exact HI0.out)) (Sh.rl HO344.out) (by decide)) hk (fun _ h => h.2)) (fun _ h => h.1)); replace HK := am_ (KeepBut.trans (by repeat (first | (with_reducible first | exact HK.out | apply KeepBut.set_ | apply keep_drewN | apply keep_drew | apply keep_alloc) | exact HK.out)) hk (.inl rfl)); replace HB := am_ hb; replace HI0 := am_ hi; (try clear hb); (try clear hb2); (try clear hk); (try clear hi)))
             repeat (go_quiet (first | (go_at_call 19; (with_reducible refine (spec_l1Cur_pick.calls g s0_0 x1001_1 x1002_1 (x1_1.size : Int) t336 t337 t338 w0 _ ?side1 ?side2 A9.out).mono ?_); (case side1 => repeat (first | (with_reducible first | exact HI0.out | apply IsS46.alloc | apply IsS46.drewN | apply IsS46.drew | apply IsS46.set_1 | apply IsS46.set_2) | exact HI0.out)); (case side2 => repeat (first | (with_reducible first | exact HB.out | apply below_alloc | apply pw_below_drewN | apply below_drew1 | refine below_set ?_ (IsS46.ge HI0.out)) | exact HB.out)); rintro e w22 ⟨rfl, hi, hb, hk⟩; replace HK := am_ (KeepBut.trans (by repeat (first | (with_reducible first | exact HK.out | apply KeepBut.set_ | apply keep_drewN | apply keep_drew | apply keep_alloc) | exact HK.out)) hk (.inl rfl)); replace HB := am_ hb; replace HI0 := am_ hi; (try clear hb); (try clear hb2); (try clear hk); (try clear hi)) | (go_at_call 19; (with_reducible refine (spec_l1Cur_pick.calls g s0_0 t337 t338 (a2.size : Int) t339 t340 t341 w0 _ ?side1 ?side2 A10.out).mono ?_); (case side1 => repeat (first | (with_reducible first | exact HI0.out | apply IsS46.alloc | apply IsS46.drewN | apply IsS46.drew | apply IsS46.set_1 | apply IsS46.set_2) | exact HI0.out)); (case side2 => repeat (first | (with_reducible first | exact HB.out | apply below_alloc | apply pw_below_drewN | apply below_drew1 | refine below_set ?_ (IsS46.ge HI0.out)) | exact HB.out)); rintro e w23 ⟨rfl, hi, hb, hk⟩; replace HK := am_ (KeepBut.trans (by repeat (first | (with_reducible first | exact HK.out | apply KeepBut.set_ | apply keep_drewN | apply keep_drew | apply keep_alloc) | exact HK.out)) hk (.inl rfl)); replace HB := am_ hb; replace HI0 := am_ hi; (try clear hb); (try clear hb2); (try clear hk); (try clear hi); have p13 : 0 ≤ (t339 : Int) := Sh.od; have q13 : t339 < (a2.size : Int) := Sh.od; have hx13 := bt_at a2 t339; replace p13 := eq_true p13; replace q13 := eq_true q13) | ((with_reducible refine Sh.d 32 ?_); (try (refine gate_guard (by rfl) ?_; dsimp only)); refine Kd.R_lit (Kd.int .u8) _ 5 ?hg (N := 32) ?hd (xs := ([bt a2 t339] : List Int)) (inner := [.int .u8 (bt a2 t339)]) (ok := fun _ => True) (okp := fun _ => True) ?hr ?hp (fun _ hk => hk) trivial (Below.refl _ _) (Nat.le_refl _) (by simp) ?_; (case hd => rfl); (case hg => rfl); (case hr => first | (go_simp; done) | (go_simp; rfl)); (case hp => exact (Reps.one (show Kd.M (Kd.int .u8) _ _ _ (bt a2 t339) [.int .u8 (bt a2 t339)] from rfl) (Reps.none _ _))); intro v343 w24 ho25 hb hg_ hnew_; clear hg_ hnew_; (first | rw [← Ny342.out] at ho25 | (simp only [Int.reduceToNat] at ho25; rw [← Ny342.out] at ho25)); have HO344 := am_ (Kd.R_lower ho25 (keep_size (w := w) (g := g) (row := none) (by repeat (first | (with_reducible first | exact HK.out | apply KeepBut.set_ | apply keep_drewN | apply keep_drew | apply keep_alloc) | exact HK.out)))); replace HK := am_ (KeepBut.trans (by repeat (first | (with_reducible first | exact HK.out | apply KeepBut.set_ | apply keep_drewN | apply keep_drew | apply keep_alloc) | exact HK.out)) (KeepBut.of_below hb g none) (.inl rfl)); replace HB := am_ (below_step (by repeat (first | (with_reducible first | exact HB.out | apply below_alloc | apply pw_below_drewN | apply below_drew1 | refine below_set ?_ (IsS46.ge HI0.out)) | exact HB.out)) hb); replace HI0 := am_ (IsS46.below (by repeat (first | (with_reducible first | exact HI0.out | apply IsS46.alloc | apply IsS46.drewN | apply IsS46.drew | apply IsS46.set_1 | apply IsS46.set_2) | exact HI0.out)) hb); clear hb ho25; have hcv26 := own_string (P := Try.prog) Try.underlying22 Try.underlying5 Try.underlying9 (Kd.own_of_R HO344.out)) | (go_at_call 19; (with_reducible refine (spec_l1Cur_pick.calls g s0_0 t340 t341 3 t345 t346 t347 w0 _ ?side1 ?side2 A14.out).mono ?_); (case side1 => repeat (first | (with_reducible first | exact HI0.out | apply IsS46.alloc | apply IsS46.drewN | apply IsS46.drew | apply IsS46.set_1 | apply IsS46.set_2) | exact HI0.out)); (case side2 => repeat (first | (with_reducible first | exact HB.out | apply below_alloc | apply pw_below_drewN | apply below_drew1 | refine below_set ?_ (IsS46.ge HI0.out)) | exact HB.out)); rintro e w27 ⟨rfl, hi, hb, hk⟩; replace HO344 := am_ (Kd.R_mono (Kd.R_keep (IsS46.apart (show IsS46 w0 _ g s0_0 t340 t341 from by repeat (first | (with_reducible first | exact HI0.out | apply IsS46.alloc | apply IsS46.drewN | apply IsS46.drew | apply IsS46.set_1 | apply IsS46.set_2) | exact HI0.out)) (Sh.rl HO344.out) (by decide)) hk (fun _ h => h.2)) (fun _ h => h.1)); replace HK := am_ (KeepBut.trans (by repeat (first | (with_reducible first | exact HK.out | apply KeepBut.set_ | apply keep_drewN | apply keep_drew | apply keep_alloc) | exact HK.out)) hk (.inl rfl)); replace HB := am_ hb; replace HI0 := am_ hi; (try clear hb); (try clear hb2); (try clear hk); (try clear hi))); try go_wp2_with (first | (go_at_call 19; (with_reducible refine (spec_l1Cur_pick.calls g s0_0 x1001_1 x1002_1 (x1_1.size : Int) t336 t337 t338 w0 _ ?side1 ?side2 A9.out).mono ?_); (case side1 => repeat (first | (with_reducible first | exact HI0.out | apply IsS46.alloc | apply IsS46.drewN | apply IsS46.drew | apply IsS46.set_1 | apply IsS46.set_2) | exact HI0.out)); (case side2 => repeat (first | (with_reducible first | exact HB.out | apply below_alloc | apply pw_below_drewN | apply below_drew1 | refine below_set ?_ (IsS46.ge HI0.out)) | exact HB.out)); rintro e w22 ⟨rfl, hi, hb, hk⟩; replace HK := am_ (KeepBut.trans (by repeat (first | (with_reducible first | exact HK.out | apply KeepBut.set_ | apply keep_drewN | apply keep_drew | apply keep_alloc) | exact HK.out)) hk (.inl rfl)); replace HB := am_ hb; replace HI0 := am_ hi; (try clear hb); (try clear hb2); (try clear hk); (try clear hi)) | (go_at_call 19; (with_reducible refine (spec_l1Cur_pick.calls g s0_0 t337 t338 (a2.size : Int) t339 t340 t341 w0 _ ?side1 ?side2 A10.out).mono ?_); (case side1 => repeat (first | (with_reducible first | exact HI0.out | apply IsS46.alloc | apply IsS46.drewN | apply IsS46.drew | apply IsS46.set_1 | apply IsS46.set_2) | exact HI0.out)); (case side2 => repeat (first | (with_reducible first | exact HB.out | apply below_alloc | apply pw_below_drewN | apply below_drew1 | refine below_set ?_ (IsS46.ge HI0.out)) | exact HB.out)); rintro e w23 ⟨rfl, hi, hb, hk⟩; replace HK := am_ (KeepBut.trans (by repeat (first | (with_reducible first | exact HK.out | apply KeepBut.set_ | apply keep_drewN | apply keep_drew | apply keep_alloc) | exact HK.out)) hk (.inl rfl)); replace HB := am_ hb; replace HI0 := am_ hi; (try clear hb); (try clear hb2); (try clear hk); (try clear hi); have p13 : 0 ≤ (t339 : Int) := Sh.od; have q13 : t339 < (a2.size : Int) := Sh.od; have hx13 := bt_at a2 t339; replace p13 := eq_true p13; replace q13 := eq_true q13) | ((with_reducible refine Sh.d 32 ?_); (try (refine gate_guard (by rfl) ?_; dsimp only)); refine Kd.R_lit (Kd.int .u8) _ 5 ?hg (N := 32) ?hd (xs := ([bt a2 t339] : List Int)) (inner := [.int .u8 (bt a2 t339)]) (ok := fun _ => True) (okp := fun _ => True) ?hr ?hp (fun _ hk => hk) trivial (Below.refl _ _) (Nat.le_refl _) (by simp) ?_; (case hd => rfl); (case hg => rfl); (case hr => first | (go_simp; done) | (go_simp; rfl)); (case hp => exact (Reps.one (show Kd.M (Kd.int .u8) _ _ _ (bt a2 t339) [.int .u8 (bt a2 t339)] from rfl) (Reps.none _ _))); intro v343 w24 ho25 hb hg_ hnew_; clear hg_ hnew_; (first | rw [← Ny342.out] at ho25 | (simp only [Int.reduceToNat] at ho25; rw [← Ny342.out] at ho25)); have HO344 := am_ (Kd.R_lower ho25 (keep_size (w := w) (g := g) (row := none) (by repeat (first | (with_reducible first | exact HK.out | apply KeepBut.set_ | apply keep_drewN | apply keep_drew | apply keep_alloc) | exact HK.out)))); replace HK := am_ (KeepBut.trans (by repeat (first | (with_reducible first | exact HK.out | apply KeepBut.set_ | apply keep_drewN | apply keep_drew | apply keep_alloc) | exact HK.out)) (KeepBut.of_below hb g none) (.inl rfl)); replace HB := am_ (below_step (by repeat (first | (with_reducible first | exact HB.out | apply below_alloc | apply pw_below_drewN | apply below_drew1 | refine below_set ?_ (IsS46.ge HI0.out)) | exact HB.out)) hb); replace HI0 := am_ (IsS46.below (by repeat (first | (with_reducible first | exact HI0.out | apply IsS46.alloc | apply IsS46.drewN | apply IsS46.drew | apply IsS46.set_1 | apply IsS46.set_2) | exact HI0.out)) hb); clear hb ho25; have hcv26 := own_string (P := Try.prog) Try.underlying22 Try.underlying5 Try.underlying9 (Kd.own_of_R HO344.out)) | (go_at_call 19; (with_reducible refine (spec_l1Cur_pick.calls g s0_0 t340 t341 3 t345 t346 t347 w0 _ ?side1 ?side2 A14.out).mono ?_); (case side1 => repeat (first | (with_reducible first | exact HI0.out | apply IsS46.alloc | apply IsS46.drewN | apply IsS46.drew | apply IsS46.set_1 | apply IsS46.set_2) | exact HI0.out)); (case side2 => repeat (first | (with_reducible first | exact HB.out | apply below_alloc | apply pw_below_drewN | apply below_drew1 | refine below_set ?_ (IsS46.ge HI0.out)) | exact HB.out)); rintro e w27 ⟨rfl, hi, hb, hk⟩; replace HO344 := am_ (Kd.R_mono (Kd.R_keep (IsS46.apart (show IsS46 w0 _ g s0_0 t340 t341 from by repeat (first | (with_reducible first | exact HI0.out | apply IsS46.alloc | apply IsS46.drewN | apply IsS46.drew | apply IsS46.set_1 | apply IsS46.set_2) | exact HI0.out)) (Sh.rl HO344.out) (by decide)) hk (fun _ h => h.2)) (fun _ h => h.1)); replace HK := am_ (KeepBut.trans (by repeat (first | (with_reducible first | exact HK.out | apply KeepBut.set_ | apply keep_drewN | apply keep_drew | apply keep_alloc) | exact HK.out)) hk (.inl rfl)); replace HB := am_ hb; replace HI0 := am_ hi; (try clear hb); (try clear hb2); (try clear hk); (try clear hi))))
             go_roundg kj5
             case measure => have := HK1.out; have := HJ5.out; omega
             case rel => exact ⟨(((x1_1.extract 0 (t336 : Int).toNat) ++ (strOfNums y342)) ++ (x1_1.extract (t336 : Int).toNat x1_1.size)), (wrap64 (x7_1 - 1)), (t346), (t347), (Sh.es), (Sh.es), H', ⟨by have := HK1.out; have := HJ5.out; omega⟩, ⟨by repeat (first | (with_reducible first | exact HI0.out | apply IsS46.alloc | apply IsS46.drewN | apply IsS46.drew | apply IsS46.set_1 | apply IsS46.set_2) | exact HI0.out)⟩, ⟨by repeat (first | (with_reducible first | exact HK.out | apply KeepBut.set_ | apply keep_drewN | apply keep_drew | apply keep_alloc) | exact HK.out)⟩, ⟨by repeat (first | (with_reducible first | exact HB.out | apply below_alloc | apply pw_below_drewN | apply below_drew1 | refine below_set ?_ (IsS46.ge HI0.out)) | exact HB.out)⟩⟩
            ·rw [if_neg c21] at H
             exact absurd H (by simp)
           ·rw [if_neg c18] at H
            exact absurd H (by simp)
          ·rw [if_neg c17] at H
           exact absurd H (by simp)
         ·rw [if_neg c16] at H
          exact absurd H (by simp)
        ·rw [if_neg c15] at H
         have c15b0 : (t345 == 0) = false := beq_eq_false_iff_ne.mpr c15
         have c15b1 : (t345 != 0) = true := bne_iff_ne.mpr c15
         by_cases c28 : t345 = 1
         ·rw [if_pos c28] at H
          have c28b0 : (t345 == 1) = true := beq_iff_eq.mpr c28
          have c28b1 : (t345 != 1) = false := bne_eq_false_iff_eq.mpr c28
          clear c28
          by_cases c29 : 0 ≤ t336
          ·rw [if_pos c29] at H
           have c29b0 := eq_true c29
           have c29b1 := decide_eq_true c29
           clear c29
           by_cases c30 : t336 ≤ (x1_1.size : Int)
           ·rw [if_pos c30] at H
            have c30b0 := eq_true c30
            have c30b1 := decide_eq_true c30
            clear c30
            by_cases c31 : (x1_1.extract 0 (t336 : Int).toNat).size + (strOfNums y342).size ≤ 9223372036854775807
            ·rw [if_pos c31] at H
             have c31b0 := eq_true c31
             have c31b1 := decide_eq_true c31
             try have c31b2 : (9223372036854775807 < (x1_1.extract 0 (t336 : Int).toNat).size + (strOfNums y342).size) = False := eq_false (Nat.not_lt.2 c31)
             obtain ⟨ji32, hj1⟩ : ∃ j_ : Int, (wrap64 (t336 + 1)) = j_ := ⟨_, rfl⟩
             replace H : (if 0 ≤ (ji32) then (if (ji32) ≤ (x1_1.size : Int) then (if ((x1_1.extract 0 (t336 : Int).toNat) ++ (strOfNums y342)).size + (x1_1.extract ((ji32) : Int).toNat x1_1.size).size ≤ 9223372036854775807 then (spec_l1Cur_spoilt.l0 kj5 (((x1_1.extract 0 (t336 : Int).toNat) ++ (strOfNums y342)) ++ (x1_1.extract ((ji32) : Int).toNat x1_1.size)) a2 (wrap64 (x7_1 - 1)) s0_0 t346 t347) else (none)) else (none)) else (none)) = some (r1, r2, r3) := by first | (rw [hj1] at H; exact H) | (simp only [hj1] at H ⊢; exact H)
             (try rw [hj1] at A9)
             (try rw [hj1] at A10)
             (try rw [hj1] at A14)
             have hji32w : (IntKind.i64.wrap (t336 + 1)) = ji32 := (i64_w _).trans hj1
             by_cases c33 : 0 ≤ (ji32)
             ·rw [if_pos c33] at H
              have c33b0 := eq_true c33
              have c33b1 := decide_eq_true c33
              clear c33
              by_cases c34 : (ji32) ≤ (x1_1.size : Int)
              ·rw [if_pos c34] at H
               have c34b0 := eq_true c34
               have c34b1 := decide_eq_true c34
               clear c34
               by_cases c35 : ((x1_1.extract 0 (t336 : Int).toNat) ++ (strOfNums y342)).size + (x1_1.extract ((ji32) : Int).toNat x1_1.size).size ≤ 9223372036854775807
               ·rw [if_pos c35] at H
                have c35b0 := eq_true c35
                have c35b1 := decide_eq_true c35
                try have c35b2 : (9223372036854775807 < ((x1_1.extract 0 (t336 : Int).toNat) ++ (strOfNums y342)).size + (x1_1.extract ((ji32) : Int).toNat x1_1.size).size) = False := eq_false (Nat.not_lt.2 c35)
                have H' := am_ H
                clear H
                go_wp2_with (first | (go_at_call 19; (with_reducible refine (spec_l1Cur_pick.calls g s0_0 x1001_1 x1002_1 (x1_1.size : Int) t336 t337 t338 w0 _ ?side1 ?side2 A9.out).mono ?_); (case side1 => repeat (first | (with_reducible first | exact HI0.out | apply IsS46.alloc | apply IsS46.drewN | apply IsS46.drew | apply IsS46.set_1 | apply IsS46.set_2) | exact HI0.out)); (case side2 => repeat (first | (with_reducible first | exact HB.out | apply below_alloc | apply pw_below_drewN | apply below_drew1 | refine below_set ?_ (IsS46.ge HI0.out)) | exact HB.out)); rintro e w36 ⟨rfl, hi, hb, hk⟩; replace HK := am_ (KeepBut.trans (by repeat (first | (with_reducible first | exact HK.out | apply KeepBut.set_ | apply keep_drewN | apply keep_drew | apply keep_alloc) | exact HK.out)) hk (.inl rfl)); replace HB := am_ hb; replace HI0 := am_ hi; (try clear hb); (try clear hb2); (try clear hk); (try clear hi)) | (go_at_call 19; (with_reducible refine (spec_l1Cur_pick.calls g s0_0 t337 t338 (a2.size : Int) t339 t340 t341 w0 _ ?side1 ?side2 A10.out).mono ?_); (case side1 => repeat (first | (with_reducible first | exact HI0.out | apply IsS46.alloc | apply IsS46.drewN | apply IsS46.drew | apply IsS46.set_1 | apply IsS46.set_2) | exact HI0.out)); (case side2 => repeat (first | (with_reducible first | exact HB.out | apply below_alloc | apply pw_below_drewN | apply below_drew1 | refine below_set ?_ (IsS46.ge HI0.out)) | exact HB.out)); rintro e w37 ⟨rfl, hi, hb, hk⟩; replace HK := am_ (KeepBut.trans (by repeat (first | (with_reducible first | exact HK.out | apply KeepBut.set_ | apply keep_drewN | apply keep_drew | apply keep_alloc) | exact HK.out)) hk (.inl rfl)); replace HB := am_ hb; replace HI0 := am_ hi; (try clear hb); (try clear hb2); (try clear hk); (try clear hi); have p13 : 0 ≤ (t339 : Int) := Sh.od; have q13 : t339 < (a2.size : Int) := Sh.od; have hx13 := bt_at a2 t339; replace p13 := eq_true p13; replace q13 := eq_true q13) | ((with_reducible refine Sh.d 32 ?_); (try (refine gate_guard (by rfl) ?_; dsimp only)); refine Kd.R_lit (Kd.int .u8) _ 5 ?hg (N := 32) ?hd (xs := ([bt a2 t339] : List Int)) (inner := [.int .u8 (bt a2 t339)]) (ok := fun _ => True) (okp := fun _ => True) ?hr ?hp (fun _ hk => hk) trivial (Below.refl _ _) (Nat.le_refl _) (by simp) ?_; (case hd => rfl); (case hg => rfl); (case hr => first | (go_simp; done) | (go_simp; rfl)); (case hp => exact (Reps.one (show Kd.M (Kd.int .u8) _ _ _ (bt a2 t339) [.int .u8 (bt a2 t339)] from rfl) (Reps.none _ _))); intro v343 w38 ho39 hb hg_ hnew_; clear hg_ hnew_; (first | rw [← Ny342.out] at ho39 | (simp only [Int.reduceToNat] at ho39; rw [← Ny342.out] at ho39)); have HO344 := am_ (Kd.R_lower ho39 (keep_size (w := w) (g := g) (row := none) (by repeat (first | (with_reducible first | exact HK.out | apply KeepBut.set_ | apply keep_drewN | apply keep_drew | apply keep_alloc) | exact HK.out)))); replace HK := am_ (KeepBut.trans (by repeat (first | (with_reducible first | exact HK.out | apply KeepBut.set_ | apply keep_drewN | apply keep_drew | apply keep_alloc) | exact HK.out)) (KeepBut.of_below hb g none) (.inl rfl)); replace HB := am_ (below_step (by repeat (first | (with_reducible first | exact HB.out | apply below_alloc | apply pw_below_drewN | apply below_drew1 | refine below_set ?_ (IsS46.ge HI0.out)) | exact HB.out)) hb); replace HI0 := am_ (IsS46.below (by repeat (first | (with_reducible first | exact HI0.out | apply IsS46.alloc | apply IsS46.drewN | apply IsS46.drew | apply IsS46.set_1 | apply IsS46.set_2) | exact HI0.out)) hb); clear hb ho39; have hcv40 := own_string (P := Try.prog) Try.underlying22 Try.underlying5 Try.underlying9 (Kd.own_of_R HO344.out)) | (go_at_call 19; (with_reducible refine (spec_l1Cur_pick.calls g s0_0 t340 t341 3 t345 t346 t347 w0 _ ?side1 ?side2 A14.out).mono ?_); (case side1 => repeat (first | (with_reducible first | exact HI0.out | apply IsS46.alloc | apply IsS46.drewN | apply IsS46.drew | apply IsS46.set_1 | apply IsS46.set_2) | exact HI0.out)); (case side2 => repeat (first | (with_reducible first | exact HB.out | apply below_alloc | apply pw_below_drewN | apply below_drew1 | refine below_set ?_ (IsS46.ge HI0.out)) | exact HB.out)); rintro e w41 ⟨rfl, hi, hb, hk⟩; replace HO344 := am_ (Kd.R_mono (Kd.R_keep (IsS46.apart (show IsS46 w0 _ g s0_0 t340 t341 from by repeat (first | (with_reducible first | exact HI0.out | apply IsS46.alloc | apply IsS46.drewN | apply IsS46.drew | apply IsS46.set_1 | apply IsS46.set_2) | exact HI0.out)) (Sh.rl HO344.out) (by decide)) hk (fun _ h => h.2)) (fun _ h => h.1)); replace HK := am_ (KeepBut.trans (by repeat (first | (with_reducible first | exact HK.out | apply KeepBut.set_ | apply keep_drewN | apply keep_drew | apply keep_alloc) | exact HK.out)) hk (.inl rfl)); replace HB := am_ hb; replace HI0 := am_ hi; (try clear hb); (try clear hb2); (try clear hk); (try clear hi)))
                repeat (go_quiet (first | (go_at_call 19; (with_reducible refine (spec_l1Cur_pick.calls g s0_0 x1001_1 x1002_1 (x1_1.size : Int) t336 t337 t338 w0 _ ?side1 ?side2 A9.out).mono ?_); (case side1 => repeat (first | (with_reducible first | exact HI0.out | apply IsS46.alloc | apply IsS46.drewN | apply IsS46.drew | apply IsS46.set_1 | apply IsS46.set_2) | exact HI0.out)); (case side2 => repeat (first | (with_reducible first | exact HB.out | apply below_alloc | apply pw_below_drewN | apply below_drew1 | refine below_set ?_ (IsS46.ge HI0.out)) | exact HB.out)); rintro e w36 ⟨rfl, hi, hb, hk⟩; replace HK := am_ (KeepBut.trans (by repeat (first | (with_reducible first | exact HK.out | apply KeepBut.set_ | apply keep_drewN | apply keep_drew | apply keep_alloc) | exact HK.out)) hk (.inl rfl)); replace HB := am_ hb; replace HI0 := am_ hi; (try clear hb); (try clear hb2); (try clear hk); (try clear hi)) | (go_at_call 19; (with_reducible refine (spec_l1Cur_pick.calls g s0_0 t337 t338 (a2.size : Int) t339 t340 t341 w0 _ ?side1 ?side2 A10.out).mono ?_); (case side1 => repeat (first | (with_reducible first | exact HI0.out | apply IsS46.alloc | apply IsS46.drewN | apply IsS46.drew | apply IsS46.set_1 | apply IsS46.set_2) | exact HI0.out)); (case side2 => repeat (first | (with_reducible first | exact HB.out | apply below_alloc | apply pw_below_drewN | apply below_drew1 | refine below_set ?_ (IsS46.ge HI0.out)) | exact HB.out)); rintro e w37 ⟨rfl, hi, hb, hk⟩; replace HK := am_ (KeepBut.trans (by repeat (first | (with_reducible first | exact HK.out | apply KeepBut.set_ | apply keep_drewN | apply keep_drew | apply keep_alloc) | exact HK.out)) hk (.inl rfl)); replace HB := am_ hb; replace HI0 := am_ hi; (try clear hb); (try clear hb2); (try clear hk); (try clear hi); have p13 : 0 ≤ (t339 : Int) := Sh.od; have q13 : t339 < (a2.size : Int) := Sh.od; have hx13 := bt_at a2 t339; replace p13 := eq_true p13; replace q13 := eq_true q13) | ((with_reducible refine Sh.d 32 ?_); (try (refine gate_guard (by rfl) ?_; dsimp only)); refine Kd.R_lit (Kd.int .u8) _ 5 ?hg (N := 32) ?hd (xs := ([bt a2 t339] : List Int)) (inner := [.int .u8 (bt a2 t339)]) (ok := fun _ => True) (okp := fun _ => True) ?hr ?hp (fun _ hk => hk) trivial (Below.refl _ _) (Nat.le_refl _) (by simp) ?_; (case hd => rfl); (case hg => rfl); (case hr => first | (go_simp; done) | (go_simp; rfl)); (case hp => exact (Reps.one (show Kd.M (Kd.int .u8) _ _ _ (bt a2 t339) [.int .u8 (bt a2 t339)] from rfl) (Reps.none _ _))); intro v343 w38 ho39 hb hg_ hnew_; clear hg_ hnew_; (first | rw [← Ny342.out] at ho39 | (simp only [Int.reduceToNat] at ho39; rw [← Ny342.out] at ho39)); have HO344 := am_ (Kd.R_lower ho39 (keep_size (w := w) (g := g) (row := none) (by repeat (first | (with_reducible first | exact HK.out | apply KeepBut.set_ | apply keep_drewN | apply keep_drew | apply keep_alloc) | exact HK.out)))); replace HK := am_ (KeepBut.trans (by repeat (first | (with_reducible first | exact HK.out | apply KeepBut.set_ | apply keep_drewN | apply keep_drew | apply keep_alloc) | exact HK.out)) (KeepBut.of_below hb g none) (.inl rfl)); replace HB := am_ (below_step (by repeat (first | (with_reducible first | exact HB.out | apply below_alloc | apply pw_below_drewN | apply below_drew1 | refine below_set ?_ (IsS46.ge HI0.out)) | exact HB.out)) hb); replace HI0 := am_ (IsS46.below (by repeat (first | (with_reducible first | exact HI0.out | apply IsS46.alloc | apply IsS46.drewN | apply IsS46.drew | apply IsS46.set_1 | apply IsS46.set_2) | exact HI0.out)) hb); clear hb ho39; have hcv40 := own_string (P := Try.prog) Try.underlying22 Try.underlying5 Try.underlying9 (Kd.own_of_R HO344.out)) | (go_at_call 19; (with_reducible refine (spec_l1Cur_pick.calls g s0_0 t340 t341 3 t345 t346 t347 w0 _ ?side1 ?side2 A14.out).mono ?_); (case side1 => repeat (first | (with_reducible first | exact HI0.out | apply IsS46.alloc | apply IsS46.drewN | apply IsS46.drew | apply IsS46.set_1 | apply IsS46.set_2) | exact HI0.out)); (case side2 => repeat (first | (with_reducible first | exact HB.out | apply below_alloc | apply pw_below_drewN | apply below_drew1 | refine below_set ?_ (IsS46.ge HI0.out)) | exact HB.out)); rintro e w41 ⟨rfl, hi, hb, hk⟩; replace HO344 := am_ (Kd.R_mono (Kd.R_keep (IsS46.apart (show IsS46 w0 _ g s0_0 t340 t341 from by repeat (first | (with_reducible first | exact HI0.out | apply IsS46.alloc | apply IsS46.drewN | apply IsS46.drew | apply IsS46.set_1 | apply IsS46.set_2) | exact HI0.out)) (Sh.rl HO344.out) (by decide)) hk (fun _ h => h.2)) (fun _ h => h.1)); replace HK := am_ (KeepBut.trans (by repeat (first | (with_reducible first | exact HK.out | apply KeepBut.set_ | apply keep_drewN | apply keep_drew | apply keep_alloc) | exact HK.out)) hk (.inl rfl)); replace HB := am_ hb; replace HI0 := am_ hi; (try clear hb); (try clear hb2); (try clear hk); (try clear hi))); try go_wp2_with (first | (go_at_call 19; (with_reducible refine (spec_l1Cur_pick.calls g s0_0 x1001_1 x1002_1 (x1_1.size : Int) t336 t337 t338 w0 _ ?side1 ?side2 A9.out).mono ?_); (case side1 => repeat (first | (with_reducible first | exact HI0.out | apply IsS46.alloc | apply IsS46.drewN | apply IsS46.drew | apply IsS46.set_1 | apply IsS46.set_2) | exact HI0.out)); (case side2 => repeat (first | (with_reducible first | exact HB.out | apply below_alloc | apply pw_below_drewN | apply below_drew1 | refine below_set ?_ (IsS46.ge HI0.out)) | exact HB.out)); rintro e w36 ⟨rfl, hi, hb, hk⟩; replace HK := am_ (KeepBut.trans (by repeat (first | (with_reducible first | exact HK.out | apply KeepBut.set_ | apply keep_drewN | apply keep_drew | apply keep_alloc) | exact HK.out)) hk (.inl rfl)); replace HB := am_ hb; replace HI0 := am_ hi; (try clear hb); (try clear hb2); (try clear hk); (try clear hi)) | (go_at_call 19; (with_reducible refine (spec_l1Cur_pick.calls g s0_0 t337 t338 (a2.size : Int) t339 t340 t341 w0 _ ?side1 ?side2 A10.out).mono ?_); (case side1 => repeat (first | (with_reducible first | exact HI0.out | apply IsS46.alloc | apply IsS46.drewN | apply IsS46.drew | apply IsS46.set_1 | apply IsS46.set_2) | exact HI0.out)); (case side2 => repeat (first | (with_reducible first | exact HB.out | apply below_alloc | apply pw_below_drewN | apply below_drew1 | refine below_set ?_ (IsS46.ge HI0.out)) | exact HB.out)); rintro e w37 ⟨rfl, hi, hb, hk⟩; replace HK := am_ (KeepBut.trans (by repeat (first | (with_reducible first | exact HK.out | apply KeepBut.set_ | apply keep_drewN | apply keep_drew | apply keep_alloc) | exact HK.out)) hk (.inl rfl)); replace HB := am_ hb; replace HI0 := am_ hi; (try clear hb); (try clear hb2); (try clear hk); (try clear hi); have p13 : 0 ≤ (t339 : Int) := Sh.od; have q13 : t339 < (a2.size : Int) := Sh.od; have hx13 := bt_at a2 t339; replace p13 := eq_true p13; replace q13 := eq_true q13) | ((with_reducible refine Sh.d 32 ?_); (try (refine gate_guard (by rfl) ?_; dsimp only)); refine Kd.R_lit (Kd.int .u8) _ 5 ?hg (N := 32) ?hd (xs := ([bt a2 t339] : List Int)) (inner := [.int .u8 (bt a2 t339)]) (ok := fun _ => True) (okp := fun _ => True) ?hr ?hp (fun _ hk => hk) trivial (Below.refl _ _) (Nat.le_refl _) (by simp) ?_; (case hd => rfl); (case hg => rfl); (case hr => first | (go_simp; done) | (go_simp; rfl)); (case hp => exact (Reps.one (show Kd.M (Kd.int .u8) _ _ _ (bt a2 t339) [.int .u8 (bt a2 t339)] from rfl) (Reps.none _ _))); intro v343 w38 ho39 hb hg_ hnew_; clear hg_ hnew_; (first | rw [← Ny342.out] at ho39 | (simp only [Int.reduceToNat] at ho39; rw [← Ny342.out] at ho39)); have HO344 := am_ (Kd.R_lower ho39 (keep_size (w := w) (g := g) (row := none) (by repeat (first | (with_reducible first | exact HK.out | apply KeepBut.set_ | apply keep_drewN | apply keep_drew | apply keep_alloc) | exact HK.out)))); replace HK := am_ (KeepBut.trans (by repeat (first | (with_reducible first | exact HK.out | apply KeepBut.set_ | apply keep_drewN | apply keep_drew | apply keep_alloc) | exact HK.out)) (KeepBut.of_below hb g none) (.inl rfl)); replace HB := am_ (below_step (by repeat (first | (with_reducible first | exact HB.out | apply below_alloc | apply pw_below_drewN | apply below_drew1 | refine below_set ?_ (IsS46.ge HI0.out)) | exact HB.out)) hb); replace HI0 := am_ (IsS46.below (by repeat (first | (with_reducible first | exact HI0.out | apply IsS46.alloc | apply IsS46.drewN | apply IsS46.drew | apply IsS46.set_1 | apply IsS46.set_2) | exact HI0.out)) hb); clear hb ho39; have hcv40 := own_string (P := Try.prog) Try.underlying22 Try.underlying5 Try.underlying9 (Kd.own_of_R HO344.out)) | (go_at_call 19; (with_reducible refine (spec_l1Cur_pick.calls g s0_0 t340 t341 3 t345 t346 t347 w0 _ ?side1 ?side2 A14.out).mono ?_); (case side1 => repeat (first | (with_reducible first | exact HI0.out | apply IsS46.alloc | apply IsS46.drewN | apply IsS46.drew | apply IsS46.set_1 | apply IsS46.set_2) | exact HI0.out)); (case side2 => repeat (first | (with_reducible first | exact HB.out | apply below_alloc | apply pw_below_drewN | apply below_drew1 | refine below_set ?_ (IsS46.ge HI0.out)) | exact HB.out)); rintro e w41 ⟨rfl, hi, hb, hk⟩; replace HO344 := am_ (Kd.R_mono (Kd.R_keep (IsS46.apart (show IsS46 w0 _ g s0_0 t340 t341 from by repeat (first | (with_reducible first | exact HI0.out | apply IsS46.alloc | apply IsS46.drewN | apply IsS46.drew | apply IsS46.set_1 | apply IsS46.set_2) | exact HI0.out)) (Sh.rl HO344.out) (by decide)) hk (fun _ h => h.2)) (fun _ h => h.1)); replace HK := am_ (KeepBut.trans (by repeat (first | (with_reducible first | exact HK.out | apply KeepBut.set_ | apply keep_drewN | apply keep_drew | apply keep_alloc) | exact HK.out)) hk (.inl rfl)); replace HB := am_ hb; replace HI0 := am_ hi; (try clear hb); (try clear hb2); (try clear hk); (try clear hi))))
                go_roundg kj5
                case measure => have := HK1.out; have := HJ5.out; omega
                case rel => exact ⟨(((x1_1.extract 0 (t336 : Int).toNat) ++ (strOfNums y342)) ++ (x1_1.extract ((ji32) : Int).toNat x1_1.size)), (wrap64 (x7_1 - 1)), (t346), (t347), (by first | rfl | (simp; done) | (simp only [← hj1] <;> (first | rfl | simp)) | (simp [*]; done)), (Sh.es), H', ⟨by have := HK1.out; have := HJ5.out; omega⟩, ⟨by repeat (first | (with_reducible first | exact HI0.out | apply IsS46.alloc | apply IsS46.drewN | apply IsS46.drew | apply IsS46.set_1 | apply IsS46.set_2) | exact HI0.out)⟩, ⟨by repeat (first | (with_reducible first | exact HK.out | apply KeepBut.set_ | apply keep_drewN | apply keep_drew | apply keep_alloc) | exact HK.out)⟩, ⟨by repeat (first | (with_reducible first | exact HB.out | apply below_alloc | apply pw_below_drewN | apply below_drew1 | refine below_set ?_ (IsS46.ge HI0.out)) | exact HB.out)⟩⟩
               ·rw [if_neg c35] at H
                exact absurd H (by simp)
              ·rw [if_neg c34] at H
               exact absurd H (by simp)
             ·rw [if_neg c33] at H
              exact absurd H (by simp)
            ·rw [if_neg c31] at H
             exact absurd H (by simp)
           ·rw [if_neg c30] at H
            exact absurd H (by simp)
          ·rw [if_neg c29] at H
           exact absurd H (by simp)
         ·rw [if_neg c28] at H
          have c28b0 : (t345 == 1) = false := beq_eq_false_iff_ne.mpr c28
          have c28b1 : (t345 != 1) = true := bne_iff_ne.mpr c28
          by_cases c42 : 0 ≤ t336
          ·rw [if_pos c42] at H
           have c42b0 := eq_true c42
           have c42b1 := decide_eq_true c42
           clear c42
           by_cases c43 : t336 ≤ (x1_1.size : Int)
           ·rw [if_pos c43] at H
            have c43b0 := eq_true c43
            have c43b1 := decide_eq_true c43
            clear c43
            obtain ⟨ji44, hj1⟩ : ∃ j_ : Int, (wrap64 (t336 + 1)) = j_ := ⟨_, rfl⟩
            replace H : (if 0 ≤ (ji44) then (if (ji44) ≤ (x1_1.size : Int) then (if (x1_1.extract 0 (t336 : Int).toNat).size + (x1_1.extract ((ji44) : Int).toNat x1_1.size).size ≤ 9223372036854775807 then (spec_l1Cur_spoilt.l0 kj5 ((x1_1.extract 0 (t336 : Int).toNat) ++ (x1_1.extract ((ji44) : Int).toNat x1_1.size)) a2 (wrap64 (x7_1 - 1)) s0_0 t346 t347) else (none)) else (none)) else (none)) = some (r1, r2, r3) := by first | (rw [hj1] at H; exact H) | (simp only [hj1] at H ⊢; exact H)
            (try rw [hj1] at A9)
            (try rw [hj1] at A10)
            (try rw [hj1] at A14)
            have hji44w : (IntKind.i64.wrap (t336 + 1)) = ji44 := (i64_w _).trans hj1
            by_cases c45 : 0 ≤ (ji44)
            ·rw [if_pos c45] at H
             have c45b0 := eq_true c45
             have c45b1 := decide_eq_true c45
             clear c45
             by_cases c46 : (ji44) ≤ (x1_1.size : Int)
             ·rw [if_pos c46] at H
              have c46b0 := eq_true c46
              have c46b1 := decide_eq_true c46
              clear c46
              by_cases c47 : (x1_1.extract 0 (t336 : Int).toNat).size + (x1_1.extract ((ji44) : Int).toNat x1_1.size).size ≤ 9223372036854775807
              ·rw [if_pos c47] at H
               have c47b0 := eq_true c47
               have c47b1 := decide_eq_true c47
               try have c47b2 : (9223372036854775807 < (x1_1.extract 0 (t336 : Int).toNat).size + (x1_1.extract ((ji44) : Int).toNat x1_1.size).size) = False := eq_false (Nat.not_lt.2 c47)
               have H' := am_ H
               clear H
               go_wp2_with (first | (go_at_call 19; (with_reducible refine (spec_l1Cur_pick.calls g s0_0 x1001_1 x1002_1 (x1_1.size : Int) t336 t337 t338 w0 _ ?side1 ?side2 A9.out).mono ?_); (case side1 => repeat (first | (with_reducible first | exact HI0.out | apply IsS46.alloc | apply IsS46.drewN | apply IsS46.drew | apply IsS46.set_1 | apply IsS46.set_2) | exact HI0.out)); (case side2 => repeat (first | (with_reducible first | exact HB.out | apply below_alloc | apply pw_below_drewN | apply below_drew1 | refine below_set ?_ (IsS46.ge HI0.out)) | exact HB.out)); rintro e w48 ⟨rfl, hi, hb, hk⟩; replace HK := am_ (KeepBut.trans (by repeat (first | (with_reducible first | exact HK.out | apply KeepBut.set_ | apply keep_drewN | apply keep_drew | apply keep_alloc) | exact HK.out)) hk (.inl rfl)); replace HB := am_ hb; replace HI0 := am_ hi; (try clear hb); (try clear hb2); (try clear hk); (try clear hi)) | (go_at_call 19; (with_reducible refine (spec_l1Cur_pick.calls g s0_0 t337 t338 (a2.size : Int) t339 t340 t341 w0 _ ?side1 ?side2 A10.out).mono ?_); (case side1 => repeat (first | (with_reducible first | exact HI0.out | apply IsS46.alloc | apply IsS46.drewN | apply IsS46.drew | apply IsS46.set_1 | apply IsS46.set_2) | exact HI0.out)); (case side2 => repeat (first | (with_reducible first | exact HB.out | apply below_alloc | apply pw_below_drewN | apply below_drew1 | refine below_set ?_ (IsS46.ge HI0.out)) | exact HB.out)); rintro e w49 ⟨rfl, hi, hb, hk⟩; replace HK := am_ (KeepBut.trans (by repeat (first | (with_reducible first | exact HK.out | apply KeepBut.set_ | apply keep_drewN | apply keep_drew | apply keep_alloc) | exact HK.out)) hk (.inl rfl)); replace HB := am_ hb; replace HI0 := am_ hi; (try clear hb); (try clear hb2); (try clear hk); (try clear hi); have p13 : 0 ≤ (t339 : Int) := Sh.od; have q13 : t339 < (a2.size : Int) := Sh.od; have hx13 := bt_at a2 t339; replace p13 := eq_true p13; replace q13 := eq_true q13) | ((with_reducible refine Sh.d 32 ?_); (try (refine gate_guard (by rfl) ?_; dsimp only)); refine Kd.R_lit (Kd.int .u8) _ 5 ?hg (N := 32) ?hd (xs := ([bt a2 t339] : List Int)) (inner := [.int .u8 (bt a2 t339)]) (ok := fun _ => True) (okp := fun _ => True) ?hr ?hp (fun _ hk => hk) trivial (Below.refl _ _) (Nat.le_refl _) (by simp) ?_; (case hd => rfl); (case hg => rfl); (case hr => first | (go_simp; done) | (go_simp; rfl)); (case hp => exact (Reps.one (show Kd.M (Kd.int .u8) _ _ _ (bt a2 t339) [.int .u8 (bt a2 t339)] from rfl) (Reps.none _ _))); intro v343 w50 ho51 hb hg_ hnew_; clear hg_ hnew_; (first | rw [← Ny342.out] at ho51 | (simp only [Int.reduceToNat] at ho51; rw [← Ny342.out] at ho51)); have HO344 := am_ (Kd.R_lower ho51 (keep_size (w := w) (g := g) (row := none) (by repeat (first | (with_reducible first | exact HK.out | apply KeepBut.set_ | apply keep_drewN | apply keep_drew | apply keep_alloc) | exact HK.out)))); replace HK := am_ (KeepBut.trans (by repeat (first | (with_reducible first | exact HK.out | apply KeepBut.set_ | apply keep_drewN | apply keep_drew | apply keep_alloc) | exact HK.out)) (KeepBut.of_below hb g none) (.inl rfl)); replace HB := am_ (below_step (by repeat (first | (with_reducible first | exact HB.out | apply below_alloc | apply pw_below_drewN | apply below_drew1 | refine below_set ?_ (IsS46.ge HI0.out)) | exact HB.out)) hb); replace HI0 := am_ (IsS46.below (by repeat (first | (with_reducible first | exact HI0.out | apply IsS46.alloc | apply IsS46.drewN | apply IsS46.drew | apply IsS46.set_1 | apply IsS46.set_2) | exact HI0.out)) hb); clear hb ho51; have hcv52 := own_string (P := Try.prog) Try.underlying22 Try.underlying5 Try.underlying9 (Kd.own_of_R HO344.out)) | (go_at_call 19; (with_reducible refine (spec_l1Cur_pick.calls g s0_0 t340 t341 3 t345 t346 t347 w0 _ ?side1 ?side2 A14.out).mono ?_); (case side1 => repeat (first | (with_reducible first | exact HI0.out | apply IsS46.alloc | apply IsS46.drewN | apply IsS46.drew | apply IsS46.set_1 | apply IsS46.set_2) | exact HI0.out)); (case side2 => repeat (first | (with_reducible first | exact HB.out | apply below_alloc | apply pw_below_drewN | apply below_drew1 | refine below_set ?_ (IsS46.ge HI0.out)) | exact HB.out)); rintro e w53 ⟨rfl, hi, hb, hk⟩; replace HO344 := am_ (Kd.R_mono (Kd.R_keep (IsS46.apart (show IsS46 w0 _ g s0_0 t340 t341 from by repeat (first | (with_reducible first | exact HI0.out | apply IsS46.alloc | apply IsS46.drewN | apply IsS46.drew | apply IsS46.set_1 | apply IsS46.set_2) | exact HI0.out)) (Sh.rl HO344.out) (by decide)) hk (fun _ h => h.2)) (fun _ h => h.1)); replace HK := am_ (KeepBut.trans (by repeat (first | (with_reducible first | exact HK.out | apply KeepBut.set_ | apply keep_drewN | apply keep_drew | apply keep_alloc) | exact HK.out)) hk (.inl rfl)); replace HB := am_ hb; replace HI0 := am_ hi; (try clear hb); (try clear hb2); (try clear hk); (try clear hi)))
               repeat (go_quiet (first | (go_at_call 19; (with_reducible refine (spec_l1Cur_pick.calls g s0_0 x1001_1 x1002_1 (x1_1.size : Int) t336 t337 t338 w0 _ ?side1 ?side2 A9.out).mono ?_); (case side1 => repeat (first | (with_reducible first | exact HI0.out | apply IsS46.alloc | apply IsS46.drewN | apply IsS46.drew | apply IsS46.set_1 | apply IsS46.set_2) | exact HI0.out)); (case side2 => repeat (first | (with_reducible first | exact HB.out | apply below_alloc | apply pw_below_drewN | apply below_drew1 | refine below_set ?_ (IsS46.ge HI0.out)) | exact HB.out)); rintro e w48 ⟨rfl, hi, hb, hk⟩; replace HK := am_ (KeepBut.trans (by repeat (first | (with_reducible first | exact HK.out | apply KeepBut.set_ | apply keep_drewN | apply keep_drew | apply keep_alloc) | exact HK.out)) hk (.inl rfl)); replace HB := am_ hb; replace HI0 := am_ hi; (try clear hb); (try clear hb2); (try clear hk); (try clear hi)) | (go_at_call 19; (with_reducible refine (spec_l1Cur_pick.calls g s0_0 t337 t338 (a2.size : Int) t339 t340 t341 w0 _ ?side1 ?side2 A10.out).mono ?_); (case side1 => repeat (first | (with_reducible first | exact HI0.out | apply IsS46.alloc | apply IsS46.drewN | apply IsS46.drew | apply IsS46.set_1 | apply IsS46.set_2) | exact HI0.out)); (case side2 => repeat (first | (with_reducible first | exact HB.out | apply below_alloc | apply pw_below_drewN | apply below_drew1 | refine below_set ?_ (IsS46.ge HI0.out)) | exact HB.out)); rintro e w49 ⟨rfl, hi, hb, hk⟩; replace HK := am_ (KeepBut.trans (by repeat (first | (with_reducible first | exact HK.out | apply KeepBut.set_ | apply keep_drewN | apply keep_drew | apply keep_alloc) | exact HK.out)) hk (.inl rfl)); replace HB := am_ hb; replace HI0 := am_ hi; (try clear hb); (try clear hb2); (try clear hk); (try clear hi); have p13 : 0 ≤ (t339 : Int) := Sh.od; have q13 : t339 < (a2.size : Int) := Sh.od; have hx13 := bt_at a2 t339; replace p13 := eq_true p13; replace q13 := eq_true q13) | ((with_reducible refine Sh.d 32 ?_); (try (refine gate_guard (by rfl) ?_; dsimp only)); refine Kd.R_lit (Kd.int .u8) _ 5 ?hg (N := 32) ?hd (xs := ([bt a2 t339] : List Int)) (inner := [.int .u8 (bt a2 t339)]) (ok := fun _ => True) (okp := fun _ => True) ?hr ?hp (fun _ hk => hk) trivial (Below.refl _ _) (Nat.le_refl _) (by simp) ?_; (case hd => rfl); (case hg => rfl); (case hr => first | (go_simp; done) | (go_simp; rfl)); (case hp => exact (Reps.one (show Kd.M (Kd.int .u8) _ _ _ (bt a2 t339) [.int .u8 (bt a2 t339)] from rfl) (Reps.none _ _))); intro v343 w50 ho51 hb hg_ hnew_; clear hg_ hnew_; (first | rw [← Ny342.out] at ho51 | (simp only [Int.reduceToNat] at ho51; rw [← Ny342.out] at ho51)); have HO344 := am_ (Kd.R_lower ho51 (keep_size (w := w) (g := g) (row := none) (by repeat (first | (with_reducible first | exact HK.out | apply KeepBut.set_ | apply keep_drewN | apply keep_drew | apply keep_alloc) | exact HK.out)))); replace HK := am_ (KeepBut.trans (by repeat (first | (with_reducible first | exact HK.out | apply KeepBut.set_ | apply keep_drewN | apply keep_drew | apply keep_alloc) | exact HK.out)) (KeepBut.of_below hb g none) (.inl rfl)); replace HB := am_ (below_step (by repeat (first | (with_reducible first | exact HB.out | apply below_alloc | apply pw_below_drewN | apply below_drew1 | refine below_set ?_ (IsS46.ge HI0.out)) | exact HB.out)) hb); replace HI0 := am_ (IsS46.below (by repeat (first | (with_reducible first | exact HI0.out | apply IsS46.alloc | apply IsS46.drewN | apply IsS46.drew | apply IsS46.set_1 | apply IsS46.set_2) | exact HI0.out)) hb); clear hb ho51; have hcv52 := own_string (P := Try.prog) Try.underlying22 Try.underlying5 Try.underlying9 (Kd.own_of_R HO344.out)) | (go_at_call 19; (with_reducible refine (spec_l1Cur_pick.calls g s0_0 t340 t341 3 t345 t346 t347 w0 _ ?side1 ?side2 A14.out).mono ?_); (case side1 => repeat (first | (with_reducible first | exact HI0.out | apply IsS46.alloc | apply IsS46.drewN | apply IsS46.drew | apply IsS46.set_1 | apply IsS46.set_2) | exact HI0.out)); (case side2 => repeat (first | (with_reducible first | exact HB.out | apply below_alloc | apply pw_below_drewN | apply below_drew1 | refine below_set ?_ (IsS46.ge HI0.out)) | exact HB.out)); rintro e w53 ⟨rfl, hi, hb, hk⟩; replace HO344 := am_ (Kd.R_mono (Kd.R_keep (IsS46.apart (show IsS46 w0 _ g s0_0 t340 t341 from by repeat (first | (with_reducible first | exact HI0.out | apply IsS46.alloc | apply IsS46.drewN | apply IsS46.drew | apply IsS46.set_1 | apply IsS46.set_2) | exact HI0.out)) (Sh.rl HO344.out) (by decide)) hk (fun _ h => h.2)) (fun _ h => h.1)); replace HK := am_ (KeepBut.trans (by repeat (first | (with_reducible first | exact HK.out | apply KeepBut.set_ | apply keep_drewN | apply keep_drew | apply keep_alloc) | exact HK.out)) hk (.inl rfl)); replace HB := am_ hb; replace HI0 := am_ hi; (try clear hb); (try clear hb2); (try clear hk); (try clear hi))); try go_wp2_with (first | (go_at_call 19; (with_reducible refine (spec_l1Cur_pick.calls g s0_0 x1001_1 x1002_1 (x1_1.size : Int) t336 t337 t338 w0 _ ?side1 ?side2 A9.out).mono ?_); (case side1 => repeat (first | (with_reducible first | exact HI0.out | apply IsS46.alloc | apply IsS46.drewN | apply IsS46.drew | apply IsS46.set_1 | apply IsS46.set_2) | exact HI0.out)); (case side2 => repeat (first | (with_reducible first | exact HB.out | apply below_alloc | apply pw_below_drewN | apply below_drew1 | refine below_set ?_ (IsS46.ge HI0.out)) | exact HB.out)); rintro e w48 ⟨rfl, hi, hb, hk⟩; replace HK := am_ (KeepBut.trans (by repeat (first | (with_reducible first | exact HK.out | apply KeepBut.set_ | apply keep_drewN | apply keep_drew | apply keep_alloc) | exact HK.out)) hk (.inl rfl)); replace HB := am_ hb; replace HI0 := am_ hi; (try clear hb); (try clear hb2); (try clear hk); (try clear hi)) | (go_at_call 19; (with_reducible refine (spec_l1Cur_pick.calls g s0_0 t337 t338 (a2.size : Int) t339 t340 t341 w0 _ ?side1 ?side2 A10.out).mono ?_); (case side1 => repeat (first | (with_reducible first | exact HI0.out | apply IsS46.alloc | apply IsS46.drewN | apply IsS46.drew | apply IsS46.set_1 | apply IsS46.set_2) | exact HI0.out)); (case side2 => repeat (first | (with_reducible first | exact HB.out | apply below_alloc | apply pw_below_drewN | apply below_drew1 | refine below_set ?_ (IsS46.ge HI0.out)) | exact HB.out)); rintro e w49 ⟨rfl, hi, hb, hk⟩; replace HK := am_ (KeepBut.trans (by repeat (first | (with_reducible first | exact HK.out | apply KeepBut.set_ | apply keep_drewN | apply keep_drew | apply keep_alloc) | exact HK.out)) hk (.inl rfl)); replace HB := am_ hb; replace HI0 := am_ hi; (try clear hb); (try clear hb2); (try clear hk); (try clear hi); have p13 : 0 ≤ (t339 : Int) := Sh.od; have q13 : t339 < (a2.size : Int) := Sh.od; have hx13 := bt_at a2 t339; replace p13 := eq_true p13; replace q13 := eq_true q13) | ((with_reducible refine Sh.d 32 ?_); (try (refine gate_guard (by rfl) ?_; dsimp only)); refine Kd.R_lit (Kd.int .u8) _ 5 ?hg (N := 32) ?hd (xs := ([bt a2 t339] : List Int)) (inner := [.int .u8 (bt a2 t339)]) (ok := fun _ => True) (okp := fun _ => True) ?hr ?hp (fun _ hk => hk) trivial (Below.refl _ _) (Nat.le_refl _) (by simp) ?_; (case hd => rfl); (case hg => rfl); (case hr => first | (go_simp; done) | (go_simp; rfl)); (case hp => exact (Reps.one (show Kd.M (Kd.int .u8) _ _ _ (bt a2 t339) [.int .u8 (bt a2 t339)] from rfl) (Reps.none _ _))); intro v343 w50 ho51 hb hg_ hnew_; clear hg_ hnew_; (first | rw [← Ny342.out] at ho51 | (simp only [Int.reduceToNat] at ho51; rw [← Ny342.out] at ho51)); have HO344 := am_ (Kd.R_lower ho51 (keep_size (w := w) (g := g) (row := none) (by repeat (first | (with_reducible first | exact HK.out | apply KeepBut.set_ | apply keep_drewN | apply keep_drew | apply keep_alloc) | exact HK.out)))); replace HK := am_ (KeepBut.trans (by repeat (first | (with_reducible first | exact HK.out | apply KeepBut.set_ | apply keep_drewN | apply keep_drew | apply keep_alloc) | exact HK.out)) (KeepBut.of_below hb g none) (.inl rfl)); replace HB := am_ (below_step (by repeat (first | (with_reducible first | exact HB.out | apply below_alloc | apply pw_below_drewN | apply below_drew1 | refine below_set ?_ (IsS46.ge HI0.out)) | exact HB.out)) hb); replace HI0 := am_ (IsS46.below (by repeat (first | (with_reducible first | exact HI0.out | apply IsS46.alloc | apply IsS46.drewN | apply IsS46.drew | apply IsS46.set_1 | apply IsS46.set_2) | exact HI0.out)) hb); clear hb ho51; have hcv52 := own_string (P := Try.prog) Try.underlying22 Try.underlying5 Try.underlying9 (Kd.own_of_R HO344.out)) | (go_at_call 19; (with_reducible refine (spec_l1Cur_pick.calls g s0_0 t340 t341 3 t345 t346 t347 w0 _ ?side1 ?side2 A14.out).mono ?_); (case side1 => repeat (first | (with_reducible first | exact HI0.out | apply IsS46.alloc | apply IsS46.drewN | apply IsS46.drew | apply IsS46.set_1 | apply IsS46.set_2) | exact HI0.out)); (case side2 => repeat (first | (with_reducible first | exact HB.out | apply below_alloc | apply pw_below_drewN | apply below_drew1 | refine below_set ?_ (IsS46.ge HI0.out)) | exact HB.out)); rintro e w53 ⟨rfl, hi, hb, hk⟩; replace HO344 := am_ (Kd.R_mono (Kd.R_keep (IsS46.apart (show IsS46 w0 _ g s0_0 t340 t341 from by repeat (first | (with_reducible first | exact HI0.out | apply IsS46.alloc | apply IsS46.drewN | apply IsS46.drew | apply IsS46.set_1 | apply IsS46.set_2) | exact HI0.out)) (Sh.rl HO344.out) (by decide)) hk (fun _ h => h.2)) (fun _ h => h.1)); replace HK := am_ (KeepBut.trans (by repeat (first | (with_reducible first | exact HK.out | apply KeepBut.set_ | apply keep_drewN | apply keep_drew | apply keep_alloc) | exact HK.out)) hk (.inl rfl)); replace HB := am_ hb; replace HI0 := am_ hi; (try clear hb); (try clear hb2); (try clear hk); (try clear hi))))
               go_roundg kj5
               case measure => have := HK1.out; have := HJ5.out; omega
               case rel => exact ⟨((x1_1.extract 0 (t336 : Int).toNat) ++ (x1_1.extract ((ji44) : Int).toNat x1_1.size)), (wrap64 (x7_1 - 1)), (t346), (t347), (by first | rfl | (simp; done) | (simp only [← hj1] <;> (first | rfl | simp)) | (simp [*]; done)), (Sh.es), H', ⟨by have := HK1.out; have := HJ5.out; omega⟩, ⟨by repeat (first | (with_reducible first | exact HI0.out | apply IsS46.alloc | apply IsS46.drewN | apply IsS46.drew | apply IsS46.set_1 | apply IsS46.set_2) | exact HI0.out)⟩, ⟨by repeat (first | (with_reducible first | exact HK.out | apply KeepBut.set_ | apply keep_drewN | apply keep_drew | apply keep_alloc) | exact HK.out)⟩, ⟨by repeat (first | (with_reducible first | exact HB.out | apply below_alloc | apply pw_below_drewN | apply below_drew1 | refine below_set ?_ (IsS46.ge HI0.out)) | exact HB.out)⟩⟩
              ·rw [if_neg c47] at H
               exact absurd H (by simp)
             ·rw [if_neg c46] at H
              exact absurd H (by simp)
            ·rw [if_neg c45] at H
             exact absurd H (by simp)
           ·rw [if_neg c43] at H
            exact absurd H (by simp)
          ·rw [if_neg c42] at H
           exact absurd H (by simp)
       ·rw [if_neg c12] at H
        exact absurd H (by simp)
      ·rw [if_neg c11] at H
       exact absurd H (by simp)
     ·replace c8 := Bool.eq_false_iff.mpr c8
      subst c8
      rw [Sh.nf] at H
      simp only [Option.some.injEq, Prod.mk.injEq] at H
      obtain ⟨rfl, rfl, rfl⟩ := H
      go_wp2
      repeat (go_quiet (fail); try go_wp2)
      go_ret
      exact ⟨Sh.eR, by repeat (first | (with_reducible first | exact HI0.out | apply IsS46.alloc | apply IsS46.drewN | apply IsS46.drew | apply IsS46.set_1 | apply IsS46.set_2) | exact HI0.out), by repeat (first | (with_reducible first | exact HB.out | apply below_alloc | apply pw_below_drewN | apply below_drew1 | refine below_set ?_ (IsS46.ge HI0.out)) | exact HB.out), by repeat (first | (with_reducible first | exact HK.out | apply KeepBut.set_ | apply keep_drewN | apply keep_drew | apply keep_alloc) | exact HK.out)⟩
def spec_l1Cur_of.f (s0_0 : List Int) (s0_1 : Int) (s0_2 : Int) (l1 : List ByteArray) : Option (ByteArray × Int × Int) := (spec_l1Cur_pick.f s0_0 s0_1 s0_2 (l1.length : Int)).bind fun bt348 => (if 0 ≤ bt348.1 then (if bt348.1 < (l1.length : Int) then (some (rdOf ByteArray.empty l1 bt348.1, bt348.2.1, bt348.2.2)) else (none)) else (none))
theorem spec_l1Cur_of.calls (g : Nat) (s0_0 : List Int) (s0_1 : Int) (s0_2 : Int) (A1 : Option Addr) (c1 : Nat) (l1 : List ByteArray) (r1 : ByteArray) (r2 : Int) (r3 : Int) (w0 w : World) (hI : IsS46 w0 w g s0_0 s0_1 s0_2) (hB : Below w0.heap.size w0 w) (hr1 : Kd.C Kd.string w A1 l1.length l1) (hc1 : l1.length ≤ c1) (hf1 : ∀ ad, A1 = some ad → 0 < l1.length → ad.block ≠ g) (h : spec_l1Cur_of.f s0_0 s0_1 s0_2 l1 = some (r1, r2, r3)) :
  Calls Try.prog 21 #[.pointer (some ⟨g, 0, none⟩), .slice A1 l1.length c1] w fun e w' => e = .returned (.string r1) ∧ IsS46 w0 w' g s0_0 r2 r3 ∧ Below w0.heap.size w0 w' ∧ KeepBut w w' g none := by
 have HR1 := am_ hr1
 have HC1 := am_ hc1
 clear hr1 hc1
 have HI0 := am_ hI
 have HK := am_ (KeepBut.refl w g none)
 have HL := am_ hB.size
 clear hI
 have HW0 := am_ hB.size
 have HB := am_ hB
 clear hB
 have H := h
 clear h
 unfold spec_l1Cur_of.f at H
 obtain ⟨⟨t348, t349, t350⟩, A30, H⟩ := Sh.bd H
 have A3 := am_ A30
 clear A30
 by_cases c4 : 0 ≤ t348
 ·rw [if_pos c4] at H
  have c4b0 := decide_eq_true c4
  clear c4
  by_cases c5 : t348 < (l1.length : Int)
  ·rw [if_pos c5] at H
   have c5b0 := decide_eq_true c5
   clear c5
   simp only [Option.some.injEq, Prod.mk.injEq] at H
   obtain ⟨rfl, rfl, rfl⟩ := H
   go_enter Try.func21, Try.ntmps21
   go_wp2_with (first | ((with_reducible refine Sh.k 19 ?_); refine Sh.gL (some 9) Try.func19 #[.pointer (some ⟨g, 0, none⟩), .int .i64 (l1.length : Int)] (h := ?_); (with_reducible refine (spec_l1Cur_pick.calls g s0_0 s0_1 s0_2 (l1.length : Int) t348 t349 t350 w0 _ ?side1 ?side2 A3.out).mono ?_); (case side1 => repeat (first | (with_reducible first | exact HI0.out | apply IsS46.alloc | apply IsS46.drewN | apply IsS46.drew | apply IsS46.set_1 | apply IsS46.set_2) | exact HI0.out)); (case side2 => repeat (first | (with_reducible first | exact HB.out | apply below_alloc | apply pw_below_drewN | apply below_drew1 | refine below_set ?_ (IsS46.ge HI0.out)) | exact HB.out)); rintro e w6 ⟨rfl, hi, hb, hk⟩; refine ⟨_, rfl, ?_⟩; replace HK := am_ (KeepBut.trans (by repeat (first | (with_reducible first | exact HK.out | apply KeepBut.set_ | apply keep_drewN | apply keep_drew | apply keep_alloc) | exact HK.out)) hk (.inl rfl)); replace HB := am_ hb; replace HI0 := am_ hi; (try clear hb); (try clear hb2); (try clear hk); (try clear hi); have p351 : 0 ≤ (t348 : Int) := Sh.od; have q351 : t348 < (l1.length : Int) := Sh.od; obtain ⟨ad351, e351, hx351_0⟩ := Kd.at_string HR1.out t348 p351 q351; cases e351; replace hx351_0 := keep_cell HK.out hx351_0 (by first | (rw [add_block]; exact hf1 _ rfl (by omega)) | exact hf1 _ rfl (by omega) | exact hf1 ad351 rfl (by omega)); replace p351 := eq_true p351; replace q351 := eq_true q351))
   go_ret
   exact ⟨Sh.eR, by repeat (first | (with_reducible first | exact HI0.out | apply IsS46.alloc | apply IsS46.drewN | apply IsS46.drew | apply IsS46.set_1 | apply IsS46.set_2) | exact HI0.out), by repeat (first | (with_reducible first | exact HB.out | apply below_alloc | apply pw_below_drewN | apply below_drew1 | refine below_set ?_ (IsS46.ge HI0.out)) | exact HB.out), by repeat (first | (with_reducible first | exact HK.out | apply KeepBut.set_ | apply keep_drewN | apply keep_drew | apply keep_alloc) | exact HK.out)⟩
  ·rw [if_neg c5] at H
   exact absurd H (by simp)
 ·rw [if_neg c4] at H
  exact absurd H (by simp)
def spec_DrawReadSaid.f (k : Nat) (l0 : List Int) : Option (ByteArray) := (spec_l1Cur_said.f k l0 0 0).bind fun bt353 => ((spec_SaidText.f k bt353.1).bind fun bt358 => ((spec_l1Cur_pick.f l0 bt353.2.1 bt353.2.2 5).bind fun bt360 => (if bt360.1 = 0 then ((spec_l1Cur_spoilt.f k l0 bt360.2.1 bt360.2.2 bt358.1 (⟨#[112, 113, 40, 85, 41, 88, 33]⟩ : ByteArray)).bind fun bt363 => (some bt363.1)) else (if bt360.1 = 1 then ((spec_l1Cur_of.f l0 bt360.2.1 bt360.2.2 (([(⟨#[]⟩ : ByteArray), (⟨#[40, 112, 85, 113]⟩ : ByteArray), (⟨#[40, 112, 32, 85, 32, 113, 41]⟩ : ByteArray), (⟨#[112, 41]⟩ : ByteArray), (⟨#[88, 88, 88, 88, 88, 88, 88, 88, 88, 88, 88, 88, 88, 88, 88, 88, 112]⟩ : ByteArray), (⟨#[33, 33, 33, 33, 33, 33, 33, 33, 33, 33, 33, 33, 33, 33, 33, 112]⟩ : ByteArray), (⟨#[50]⟩ : ByteArray), (⟨#[40, 112, 86, 113, 41]⟩ : ByteArray), (⟨#[40, 112, 85, 113, 41, 113]⟩ : ByteArray)] : List ByteArray))).bind fun bt369 => (some bt369.1)) else (some bt358.1)))))
theorem spec_DrawReadSaid.mono : ∀ a0 k, LeO (spec_DrawReadSaid.f k a0) (spec_DrawReadSaid.f (k + 1) a0) := by
 intro a0 k
 unfold spec_DrawReadSaid.f
 repeat' with_reducible first | apply spec_SaidText.mono | apply spec_l1Cur_said.mono | apply spec_l1Cur_spoilt.mono | exact LeO.refl _ | exact LeO.none _ | apply LeO.ite | refine LeO.bind ?_ fun _ => ?_
theorem spec_DrawReadSaid.calls (k : Nat) (A0 : Option Addr) (c0 : Nat) (l0 : List Int) (r : ByteArray) (w : World) (hr0 : Kd.C (Kd.int .u8) w A0 l0.length l0) (hc0 : l0.length ≤ c0) (h : spec_DrawReadSaid.f k l0 = some r) :
  Calls Try.prog 10 #[.slice A0 l0.length c0] w fun e w' => e = .returned (.string r) ∧ Below w.heap.size w w' := by
 have hu46 := Try.underlying46
 have HR0 := am_ hr0
 have HC0 := am_ hc0
 clear hr0 hc0
 have HB := am_ (Below.refl w.heap.size w)
 have H := h
 clear h
 unfold spec_DrawReadSaid.f at H
 obtain ⟨⟨t353, t356, t357⟩, A20, H⟩ := Sh.bd H
 have A2 := am_ A20
 clear A20
 obtain ⟨⟨t358, t359⟩, A30, H⟩ := Sh.bd H
 have A3 := am_ A30
 clear A30
 obtain ⟨⟨t360, t361, t362⟩, A40, H⟩ := Sh.bd H
 have A4 := am_ A40
 clear A40
 by_cases c5 : t360 = 0
 ·rw [if_pos c5] at H
  have c5b0 : (t360 == 0) = true := beq_iff_eq.mpr c5
  have c5b1 : (t360 != 0) = false := bne_eq_false_iff_eq.mpr c5
  clear c5
  obtain ⟨⟨t363, t364, t365⟩, A60, H⟩ := Sh.bd H
  have A6 := am_ A60
  clear A60
  obtain rfl := Option.some.inj H
  go_enter Try.func10, Try.ntmps10
  go_wp2_with (first | ((with_reducible refine Sh.d 8 ?_); refine Sh.bz w (N := 8) (cs := #[.slice A0 l0.length c0, .int .i64 0, .int .u64 0]) (t := 46) (h := ?_); clear HB; intro gb352 w7 BK352 GE352 HB; have HI352 := am_ (show IsS46 w w7 gb352 l0 0 0 from ⟨_, _, BK352.out, GE352.out, HR0.out⟩)) | ((with_reducible refine Sh.k 18 ?_); refine Sh.gL (some 11) Try.func18 #[.pointer (some ⟨gb352, 0, none⟩)] (h := ?_); (with_reducible refine (spec_l1Cur_said.calls k gb352 l0 0 0 t353 t356 t357 w _ ?side1 ?side2 A2.out).mono ?_); (case side1 => repeat (first | (with_reducible first | exact HI352.out | apply IsS46.alloc | apply IsS46.drewN | apply IsS46.drew | apply IsS46.set_1 | apply IsS46.set_2) | exact HI352.out)); (case side2 => repeat (first | (with_reducible first | exact HB.out | apply below_alloc | apply pw_below_drewN | apply below_drew1 | refine below_set ?_ (IsS46.ge HI352.out)) | exact HB.out)); rintro e w8 ⟨v354, rfl, ho0, hi, hb, hk⟩; refine ⟨_, rfl, ?_⟩; have HO355 := am_ (Kd.Q_lower ho0 (below_size (by repeat (first | (with_reducible first | exact HB.out | apply below_alloc | apply pw_below_drewN | apply below_drew1 | refine below_set ?_ (IsS46.ge HI352.out)) | exact HB.out)))); replace HB := am_ hb; replace HI352 := am_ hi; (try clear hb); (try clear hb2); (try clear hk); (try clear hi); (try clear ho0); obtain ⟨Ao9, co9, eo9, _⟩ := Kd.Q_slice HO355.out; subst eo9) | ((with_reducible refine Sh.k 7 ?_); refine Sh.gB (some 12) Try.func7 #[.slice Ao9 t353.length co9] (spec_SaidText.calls k _ _ t353 t358 t359 _ (Sh.cR (Kd.Q_reads' HO355.out).2.2) (Kd.Q_reads' HO355.out).2.1 A3.out) fun w10 hb => ?_; replace HO355 := am_ (Kd.Q_below (by (with_reducible repeat (first | apply Kd.Q_alloc | apply Kd.Q_drewN | apply Kd.Q_drew)); exact HO355.out) hb); replace HB := am_ (below_step (by repeat (first | (with_reducible first | exact HB.out | apply below_alloc | apply pw_below_drewN | apply below_drew1 | refine below_set ?_ (IsS46.ge HI352.out)) | exact HB.out)) hb); replace HI352 := am_ (IsS46.below (by repeat (first | (with_reducible first | exact HI352.out | apply IsS46.alloc | apply IsS46.drewN | apply IsS46.drew | apply IsS46.set_1 | apply IsS46.set_2) | exact HI352.out)) hb); (try clear hb); (try clear hb2); (try clear hk); (try clear hi)) | ((with_reducible refine Sh.k 19 ?_); refine Sh.gL (some 16) Try.func19 #[.pointer (some ⟨gb352, 0, none⟩), .int .i64 5] (h := ?_); (with_reducible refine (spec_l1Cur_pick.calls gb352 l0 t356 t357 5 t360 t361 t362 w _ ?side1 ?side2 A4.out).mono ?_); (case side1 => repeat (first | (with_reducible first | exact HI352.out | apply IsS46.alloc | apply IsS46.drewN | apply IsS46.drew | apply IsS46.set_1 | apply IsS46.set_2) | exact HI352.out)); (case side2 => repeat (first | (with_reducible first | exact HB.out | apply below_alloc | apply pw_below_drewN | apply below_drew1 | refine below_set ?_ (IsS46.ge HI352.out)) | exact HB.out)); rintro e w11 ⟨rfl, hi, hb, hk⟩; refine ⟨_, rfl, ?_⟩; replace HO355 := am_ (Kd.Q_mono (Kd.Q_keep (IsS46.apartQ (show IsS46 w _ gb352 l0 t356 t357 from by repeat (first | (with_reducible first | exact HI352.out | apply IsS46.alloc | apply IsS46.drewN | apply IsS46.drew | apply IsS46.set_1 | apply IsS46.set_2) | exact HI352.out)) (by (with_reducible repeat (first | apply Kd.Q_alloc | apply Kd.Q_drewN | apply Kd.Q_drew)); exact HO355.out) (by decide)) hk (fun _ h => h.2)) (fun _ h => h.1)); replace HB := am_ hb; replace HI352 := am_ hi; (try clear hb); (try clear hb2); (try clear hk); (try clear hi)) | ((with_reducible refine Sh.k 20 ?_); refine Sh.gL (some 21) Try.func20 #[.pointer (some ⟨gb352, 0, none⟩), .string t358, .string (⟨#[112, 113, 40, 85, 41, 88, 33]⟩ : ByteArray)] (h := ?_); (with_reducible refine (spec_l1Cur_spoilt.calls k gb352 l0 t361 t362 t358 (⟨#[112, 113, 40, 85, 41, 88, 33]⟩ : ByteArray) t363 t364 t365 w _ ?side1 ?side2 A6.out).mono ?_); (case side1 => repeat (first | (with_reducible first | exact HI352.out | apply IsS46.alloc | apply IsS46.drewN | apply IsS46.drew | apply IsS46.set_1 | apply IsS46.set_2) | exact HI352.out)); (case side2 => repeat (first | (with_reducible first | exact HB.out | apply below_alloc | apply pw_below_drewN | apply below_drew1 | refine below_set ?_ (IsS46.ge HI352.out)) | exact HB.out)); rintro e w12 ⟨rfl, hi, hb, hk⟩; refine ⟨_, rfl, ?_⟩; replace HO355 := am_ (Kd.Q_mono (Kd.Q_keep (IsS46.apartQ (show IsS46 w _ gb352 l0 t361 t362 from by repeat (first | (with_reducible first | exact HI352.out | apply IsS46.alloc | apply IsS46.drewN | apply IsS46.drew | apply IsS46.set_1 | apply IsS46.set_2) | exact HI352.out)) (by (with_reducible repeat (first | apply Kd.Q_alloc | apply Kd.Q_drewN | apply Kd.Q_drew)); exact HO355.out) (by decide)) hk (fun _ h => h.2)) (fun _ h => h.1)); replace HB := am_ hb; replace HI352 := am_ hi; (try clear hb); (try clear hb2); (try clear hk); (try clear hi)))
  go_ret
  exact ⟨Sh.eR, by repeat (first | (with_reducible first | exact HB.out | apply below_alloc | apply pw_below_drewN | apply below_drew1 | refine below_set ?_ (IsS46.ge HI352.out)) | exact HB.out)⟩
 ·rw [if_neg c5] at H
  have c5b0 : (t360 == 0) = false := beq_eq_false_iff_ne.mpr c5
  have c5b1 : (t360 != 0) = true := bne_iff_ne.mpr c5
  by_cases c13 : t360 = 1
  ·rw [if_pos c13] at H
   have c13b0 : (t360 == 1) = true := beq_iff_eq.mpr c13
   have c13b1 : (t360 != 1) = false := bne_eq_false_iff_eq.mpr c13
   clear c13
   obtain ⟨y366, hy366⟩ : ∃ y_ : List ByteArray, y_ = (([(⟨#[]⟩ : ByteArray), (⟨#[40, 112, 85, 113]⟩ : ByteArray), (⟨#[40, 112, 32, 85, 32, 113, 41]⟩ : ByteArray), (⟨#[112, 41]⟩ : ByteArray), (⟨#[88, 88, 88, 88, 88, 88, 88, 88, 88, 88, 88, 88, 88, 88, 88, 88, 112]⟩ : ByteArray), (⟨#[33, 33, 33, 33, 33, 33, 33, 33, 33, 33, 33, 33, 33, 33, 33, 112]⟩ : ByteArray), (⟨#[50]⟩ : ByteArray), (⟨#[40, 112, 86, 113, 41]⟩ : ByteArray), (⟨#[40, 112, 85, 113, 41, 113]⟩ : ByteArray)] : List ByteArray)) := ⟨_, rfl⟩
   replace H : ((spec_l1Cur_of.f l0 t361 t362 y366).bind fun bt369 => (some bt369.1)) = some r := by first | (rw [hy366]; with_reducible exact H) | (have H2_ := (Option.bind_some _ _).symm.trans H; rw [hy366]; with_reducible exact H2_) | (have H2_ := (Option.bind_some _ _).symm.trans H; with_reducible exact H2_) | with_reducible exact H | (rw [hy366]; exact H) | exact H
   have Ny366 := am_ hy366
   clear hy366
   obtain ⟨⟨t369, t370, t371⟩, A140, H⟩ := Sh.bd H
   have A14 := am_ A140
   clear A140
   obtain rfl := Option.some.inj H
   go_enter Try.func10, Try.ntmps10
   go_wp2_with (first | ((with_reducible refine Sh.d 8 ?_); refine Sh.bz w (N := 8) (cs := #[.slice A0 l0.length c0, .int .i64 0, .int .u64 0]) (t := 46) (h := ?_); clear HB; intro gb352 w15 BK352 GE352 HB; have HI352 := am_ (show IsS46 w w15 gb352 l0 0 0 from ⟨_, _, BK352.out, GE352.out, HR0.out⟩)) | ((with_reducible refine Sh.k 18 ?_); refine Sh.gL (some 11) Try.func18 #[.pointer (some ⟨gb352, 0, none⟩)] (h := ?_); (with_reducible refine (spec_l1Cur_said.calls k gb352 l0 0 0 t353 t356 t357 w _ ?side1 ?side2 A2.out).mono ?_); (case side1 => repeat (first | (with_reducible first | exact HI352.out | apply IsS46.alloc | apply IsS46.drewN | apply IsS46.drew | apply IsS46.set_1 | apply IsS46.set_2) | exact HI352.out)); (case side2 => repeat (first | (with_reducible first | exact HB.out | apply below_alloc | apply pw_below_drewN | apply below_drew1 | refine below_set ?_ (IsS46.ge HI352.out)) | exact HB.out)); rintro e w16 ⟨v354, rfl, ho0, hi, hb, hk⟩; refine ⟨_, rfl, ?_⟩; have HO355 := am_ (Kd.Q_lower ho0 (below_size (by repeat (first | (with_reducible first | exact HB.out | apply below_alloc | apply pw_below_drewN | apply below_drew1 | refine below_set ?_ (IsS46.ge HI352.out)) | exact HB.out)))); replace HB := am_ hb; replace HI352 := am_ hi; (try clear hb); (try clear hb2); (try clear hk); (try clear hi); (try clear ho0); obtain ⟨Ao17, co17, eo17, _⟩ := Kd.Q_slice HO355.out; subst eo17) | ((with_reducible refine Sh.k 7 ?_); refine Sh.gB (some 12) Try.func7 #[.slice Ao17 t353.length co17] (spec_SaidText.calls k _ _ t353 t358 t359 _ (Sh.cR (Kd.Q_reads' HO355.out).2.2) (Kd.Q_reads' HO355.out).2.1 A3.out) fun w18 hb => ?_; replace HO355 := am_ (Kd.Q_below (by (with_reducible repeat (first | apply Kd.Q_alloc | apply Kd.Q_drewN | apply Kd.Q_drew)); exact HO355.out) hb); replace HB := am_ (below_step (by repeat (first | (with_reducible first | exact HB.out | apply below_alloc | apply pw_below_drewN | apply below_drew1 | refine below_set ?_ (IsS46.ge HI352.out)) | exact HB.out)) hb); replace HI352 := am_ (IsS46.below (by repeat (first | (with_reducible first | exact HI352.out | apply IsS46.alloc | apply IsS46.drewN | apply IsS46.drew | apply IsS46.set_1 | apply IsS46.set_2) | exact HI352.out)) hb); (try clear hb); (try clear hb2); (try clear hk); (try clear hi)) | ((with_reducible refine Sh.k 19 ?_); refine Sh.gL (some 16) Try.func19 #[.pointer (some ⟨gb352, 0, none⟩), .int .i64 5] (h := ?_); (with_reducible refine (spec_l1Cur_pick.calls gb352 l0 t356 t357 5 t360 t361 t362 w _ ?side1 ?side2 A4.out).mono ?_); (case side1 => repeat (first | (with_reducible first | exact HI352.out | apply IsS46.alloc | apply IsS46.drewN | apply IsS46.drew | apply IsS46.set_1 | apply IsS46.set_2) | exact HI352.out)); (case side2 => repeat (first | (with_reducible first | exact HB.out | apply below_alloc | apply pw_below_drewN | apply below_drew1 | refine below_set ?_ (IsS46.ge HI352.out)) | exact HB.out)); rintro e w19 ⟨rfl, hi, hb, hk⟩; refine ⟨_, rfl, ?_⟩; replace HO355 := am_ (Kd.Q_mono (Kd.Q_keep (IsS46.apartQ (show IsS46 w _ gb352 l0 t356 t357 from by repeat (first | (with_reducible first | exact HI352.out | apply IsS46.alloc | apply IsS46.drewN | apply IsS46.drew | apply IsS46.set_1 | apply IsS46.set_2) | exact HI352.out)) (by (with_reducible repeat (first | apply Kd.Q_alloc | apply Kd.Q_drewN | apply Kd.Q_drew)); exact HO355.out) (by decide)) hk (fun _ h => h.2)) (fun _ h => h.1)); replace HB := am_ hb; replace HI352 := am_ hi; (try clear hb); (try clear hb2); (try clear hk); (try clear hi)) | ((with_reducible refine Sh.d 25 ?_); refine Kd.R_lit Kd.string _ 9 ?hg (N := 25) ?hd (xs := ([(⟨#[]⟩ : ByteArray), (⟨#[40, 112, 85, 113]⟩ : ByteArray), (⟨#[40, 112, 32, 85, 32, 113, 41]⟩ : ByteArray), (⟨#[112, 41]⟩ : ByteArray), (⟨#[88, 88, 88, 88, 88, 88, 88, 88, 88, 88, 88, 88, 88, 88, 88, 88, 112]⟩ : ByteArray), (⟨#[33, 33, 33, 33, 33, 33, 33, 33, 33, 33, 33, 33, 33, 33, 33, 112]⟩ : ByteArray), (⟨#[50]⟩ : ByteArray), (⟨#[40, 112, 86, 113, 41]⟩ : ByteArray), (⟨#[40, 112, 85, 113, 41, 113]⟩ : ByteArray)] : List ByteArray)) (inner := [.string (⟨#[]⟩ : ByteArray), .string (⟨#[40, 112, 85, 113]⟩ : ByteArray), .string (⟨#[40, 112, 32, 85, 32, 113, 41]⟩ : ByteArray), .string (⟨#[112, 41]⟩ : ByteArray), .string (⟨#[88, 88, 88, 88, 88, 88, 88, 88, 88, 88, 88, 88, 88, 88, 88, 88, 112]⟩ : ByteArray), .string (⟨#[33, 33, 33, 33, 33, 33, 33, 33, 33, 33, 33, 33, 33, 33, 33, 112]⟩ : ByteArray), .string (⟨#[50]⟩ : ByteArray), .string (⟨#[40, 112, 86, 113, 41]⟩ : ByteArray), .string (⟨#[40, 112, 85, 113, 41, 113]⟩ : ByteArray)]) (ok := fun _ => True) (okp := fun _ => True) ?hr ?hp (fun _ hk => hk) trivial (Below.refl _ _) (Nat.le_refl _) (by simp) ?_; (case hd => rfl); (case hg => rfl); (case hr => first | (go_simp; done) | (go_simp; rfl)); (case hp => exact (Reps.one (show Kd.M Kd.string _ _ _ (⟨#[]⟩ : ByteArray) [.string (⟨#[]⟩ : ByteArray)] from rfl) (Reps.one (show Kd.M Kd.string _ _ _ (⟨#[40, 112, 85, 113]⟩ : ByteArray) [.string (⟨#[40, 112, 85, 113]⟩ : ByteArray)] from rfl) (Reps.one (show Kd.M Kd.string _ _ _ (⟨#[40, 112, 32, 85, 32, 113, 41]⟩ : ByteArray) [.string (⟨#[40, 112, 32, 85, 32, 113, 41]⟩ : ByteArray)] from rfl) (Reps.one (show Kd.M Kd.string _ _ _ (⟨#[112, 41]⟩ : ByteArray) [.string (⟨#[112, 41]⟩ : ByteArray)] from rfl) (Reps.one (show Kd.M Kd.string _ _ _ (⟨#[88, 88, 88, 88, 88, 88, 88, 88, 88, 88, 88, 88, 88, 88, 88, 88, 112]⟩ : ByteArray) [.string (⟨#[88, 88, 88, 88, 88, 88, 88, 88, 88, 88, 88, 88, 88, 88, 88, 88, 112]⟩ : ByteArray)] from rfl) (Reps.one (show Kd.M Kd.string _ _ _ (⟨#[33, 33, 33, 33, 33, 33, 33, 33, 33, 33, 33, 33, 33, 33, 33, 112]⟩ : ByteArray) [.string (⟨#[33, 33, 33, 33, 33, 33, 33, 33, 33, 33, 33, 33, 33, 33, 33, 112]⟩ : ByteArray)] from rfl) (Reps.one (show Kd.M Kd.string _ _ _ (⟨#[50]⟩ : ByteArray) [.string (⟨#[50]⟩ : ByteArray)] from rfl) (Reps.one (show Kd.M Kd.string _ _ _ (⟨#[40, 112, 86, 113, 41]⟩ : ByteArray) [.string (⟨#[40, 112, 86, 113, 41]⟩ : ByteArray)] from rfl) (Reps.one (show Kd.M Kd.string _ _ _ (⟨#[40, 112, 85, 113, 41, 113]⟩ : ByteArray) [.string (⟨#[40, 112, 85, 113, 41, 113]⟩ : ByteArray)] from rfl) (Reps.none _ _))))))))))); intro v367 w20 ho21 hb hg_ hnew_; clear hg_ hnew_; (first | rw [← Ny366.out] at ho21 | (simp only [Int.reduceToNat] at ho21; rw [← Ny366.out] at ho21)); replace HO355 := am_ (Kd.Q_below (by (with_reducible repeat (first | apply Kd.Q_alloc | apply Kd.Q_drewN | apply Kd.Q_drew)); exact HO355.out) hb); have HO368 := am_ (Kd.R_lower ho21 (below_size (by repeat (first | (with_reducible first | exact HB.out | apply below_alloc | apply pw_below_drewN | apply below_drew1 | refine below_set ?_ (IsS46.ge HI352.out)) | exact HB.out)))); replace HB := am_ (below_step (by repeat (first | (with_reducible first | exact HB.out | apply below_alloc | apply pw_below_drewN | apply below_drew1 | refine below_set ?_ (IsS46.ge HI352.out)) | exact HB.out)) hb); replace HI352 := am_ (IsS46.below (by repeat (first | (with_reducible first | exact HI352.out | apply IsS46.alloc | apply IsS46.drewN | apply IsS46.drew | apply IsS46.set_1 | apply IsS46.set_2) | exact HI352.out)) hb); clear hb ho21; obtain ⟨Ao22, co22, eo22⟩ := Kd.R_slice HO368.out; subst eo22) | ((with_reducible refine Sh.k 21 ?_); refine Sh.gL (some 26) Try.func21 #[.pointer (some ⟨gb352, 0, none⟩), .slice Ao22 y366.length co22] (h := ?_); (with_reducible refine (spec_l1Cur_of.calls gb352 l0 t361 t362 _ _ y366 t369 t370 t371 w _ ?side1 ?side2 ?side3 ?side4 ?side5 A14.out).mono ?_); (case side1 => repeat (first | (with_reducible first | exact HI352.out | apply IsS46.alloc | apply IsS46.drewN | apply IsS46.drew | apply IsS46.set_1 | apply IsS46.set_2) | exact HI352.out)); (case side2 => repeat (first | (with_reducible first | exact HB.out | apply below_alloc | apply pw_below_drewN | apply below_drew1 | refine below_set ?_ (IsS46.ge HI352.out)) | exact HB.out)); (case side3 => repeat (first | exact (Kd.R_reads' HO368.out).2.2 | (with_reducible first | refine Kd.C_alloc ?_ _ | refine Kd.C_drewN ?_ _ | refine Kd.C_drew ?_))); (case side4 => exact (Kd.R_reads' HO368.out).2.1); (case side5 => exact far_slice (IsS46.own_ne HI352.out HO368.out (by decide))); rintro e w23 ⟨rfl, hi, hb, hk⟩; refine ⟨_, rfl, ?_⟩; replace HO355 := am_ (Kd.Q_mono (Kd.Q_keep (IsS46.apartQ (show IsS46 w _ gb352 l0 t361 t362 from by repeat (first | (with_reducible first | exact HI352.out | apply IsS46.alloc | apply IsS46.drewN | apply IsS46.drew | apply IsS46.set_1 | apply IsS46.set_2) | exact HI352.out)) (by (with_reducible repeat (first | apply Kd.Q_alloc | apply Kd.Q_drewN | apply Kd.Q_drew)); exact HO355.out) (by decide)) hk (fun _ h => h.2)) (fun _ h => h.1)); replace HO368 := am_ (Kd.R_mono (Kd.R_keep (IsS46.apart (show IsS46 w _ gb352 l0 t361 t362 from by repeat (first | (with_reducible first | exact HI352.out | apply IsS46.alloc | apply IsS46.drewN | apply IsS46.drew | apply IsS46.set_1 | apply IsS46.set_2) | exact HI352.out)) (Sh.rl HO368.out) (by decide)) hk (fun _ h => h.2)) (fun _ h => h.1)); replace HB := am_ hb; replace HI352 := am_ hi; (try clear hb); (try clear hb2); (try clear hk); (try clear hi)))
   go_ret
   exact ⟨Sh.eR, by repeat (first | (with_reducible first | exact HB.out | apply below_alloc | apply pw_below_drewN | apply below_drew1 | refine below_set ?_ (IsS46.ge HI352.out)) | exact HB.out)⟩
  ·rw [if_neg c13] at H
   have c13b0 : (t360 == 1) = false := beq_eq_false_iff_ne.mpr c13
   have c13b1 : (t360 != 1) = true := bne_iff_ne.mpr c13
   obtain rfl := Option.some.inj H
   go_enter Try.func10, Try.ntmps10
   go_wp2_with (first | ((with_reducible refine Sh.d 8 ?_); refine Sh.bz w (N := 8) (cs := #[.slice A0 l0.length c0, .int .i64 0, .int .u64 0]) (t := 46) (h := ?_); clear HB; intro gb352 w24 BK352 GE352 HB; have HI352 := am_ (show IsS46 w w24 gb352 l0 0 0 from ⟨_, _, BK352.out, GE352.out, HR0.out⟩)) | ((with_reducible refine Sh.k 18 ?_); refine Sh.gL (some 11) Try.func18 #[.pointer (some ⟨gb352, 0, none⟩)] (h := ?_); (with_reducible refine (spec_l1Cur_said.calls k gb352 l0 0 0 t353 t356 t357 w _ ?side1 ?side2 A2.out).mono ?_); (case side1 => repeat (first | (with_reducible first | exact HI352.out | apply IsS46.alloc | apply IsS46.drewN | apply IsS46.drew | apply IsS46.set_1 | apply IsS46.set_2) | exact HI352.out)); (case side2 => repeat (first | (with_reducible first | exact HB.out | apply below_alloc | apply pw_below_drewN | apply below_drew1 | refine below_set ?_ (IsS46.ge HI352.out)) | exact HB.out)); rintro e w25 ⟨v354, rfl, ho0, hi, hb, hk⟩; refine ⟨_, rfl, ?_⟩; have HO355 := am_ (Kd.Q_lower ho0 (below_size (by repeat (first | (with_reducible first | exact HB.out | apply below_alloc | apply pw_below_drewN | apply below_drew1 | refine below_set ?_ (IsS46.ge HI352.out)) | exact HB.out)))); replace HB := am_ hb; replace HI352 := am_ hi; (try clear hb); (try clear hb2); (try clear hk); (try clear hi); (try clear ho0); obtain ⟨Ao26, co26, eo26, _⟩ := Kd.Q_slice HO355.out; subst eo26) | ((with_reducible refine Sh.k 7 ?_); refine Sh.gB (some 12) Try.func7 #[.slice Ao26 t353.length co26] (spec_SaidText.calls k _ _ t353 t358 t359 _ (Sh.cR (Kd.Q_reads' HO355.out).2.2) (Kd.Q_reads' HO355.out).2.1 A3.out) fun w27 hb => ?_; replace HO355 := am_ (Kd.Q_below (by (with_reducible repeat (first | apply Kd.Q_alloc | apply Kd.Q_drewN | apply Kd.Q_drew)); exact HO355.out) hb); replace HB := am_ (below_step (by repeat (first | (with_reducible first | exact HB.out | apply below_alloc | apply pw_below_drewN | apply below_drew1 | refine below_set ?_ (IsS46.ge HI352.out)) | exact HB.out)) hb); replace HI352 := am_ (IsS46.below (by repeat (first | (with_reducible first | exact HI352.out | apply IsS46.alloc | apply IsS46.drewN | apply IsS46.drew | apply IsS46.set_1 | apply IsS46.set_2) | exact HI352.out)) hb); (try clear hb); (try clear hb2); (try clear hk); (try clear hi)) | ((with_reducible refine Sh.k 19 ?_); refine Sh.gL (some 16) Try.func19 #[.pointer (some ⟨gb352, 0, none⟩), .int .i64 5] (h := ?_); (with_reducible refine (spec_l1Cur_pick.calls gb352 l0 t356 t357 5 t360 t361 t362 w _ ?side1 ?side2 A4.out).mono ?_); (case side1 => repeat (first | (with_reducible first | exact HI352.out | apply IsS46.alloc | apply IsS46.drewN | apply IsS46.drew | apply IsS46.set_1 | apply IsS46.set_2) | exact HI352.out)); (case side2 => repeat (first | (with_reducible first | exact HB.out | apply below_alloc | apply pw_below_drewN | apply below_drew1 | refine below_set ?_ (IsS46.ge HI352.out)) | exact HB.out)); rintro e w28 ⟨rfl, hi, hb, hk⟩; refine ⟨_, rfl, ?_⟩; replace HO355 := am_ (Kd.Q_mono (Kd.Q_keep (IsS46.apartQ (show IsS46 w _ gb352 l0 t356 t357 from by repeat (first | (with_reducible first | exact HI352.out | apply IsS46.alloc | apply IsS46.drewN | apply IsS46.drew | apply IsS46.set_1 | apply IsS46.set_2) | exact HI352.out)) (by (with_reducible repeat (first | apply Kd.Q_alloc | apply Kd.Q_drewN | apply Kd.Q_drew)); exact HO355.out) (by decide)) hk (fun _ h => h.2)) (fun _ h => h.1)); replace HB := am_ hb; replace HI352 := am_ hi; (try clear hb); (try clear hb2); (try clear hk); (try clear hi)))
   go_ret
   exact ⟨Sh.eR, by repeat (first | (with_reducible first | exact HB.out | apply below_alloc | apply pw_below_drewN | apply below_drew1 | refine below_set ?_ (IsS46.ge HI352.out)) | exact HB.out)⟩
end Go.Proofs.Ytjpjijihehlnkaa.P
