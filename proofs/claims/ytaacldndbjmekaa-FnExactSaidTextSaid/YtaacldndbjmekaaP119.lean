/- Go functions of this seat as Lean functions, and the proofs that the calls come to what these say; printed by a program of this session. No condition. -/
import Derived.Test.YtaacldndbjmekaaP0
import Derived.Test.YtaacldndbjmekaaP10
import Derived.Test.YtaacldndbjmekaaP12
namespace Go.Proofs.Ytaacldndbjmekaa.P
open Go.RowKit Go.Proofs.YtaacldndbjmekaaW.PrintWords Go.Proofs.YtaacldndbjmekaaW.PrintLast Go.Proofs.YtaacldndbjmekaaW.PrintMore Go.Proofs.Ytaacldndbjmekaa.Hof
attribute [local go_sem] max2_int min2_int max_two min_two max_three min_three max_four min_four   -- for this text's walks alone
set_option linter.unusedVariables false
set_option linter.unusedSimpArgs false

/-! ### impl_SaidText: function 32 -/
def impl_SaidText.l0 : Nat → List ByteArray → List (S59) → Int → Int → Option (ByteArray × Bool)
 | 0, _, _, _, _ => none
 | k + 1, x4, x13, x14, x15 => if x15 < x14 then (if 0 ≤ x15 then (if x15 < (x13.length : Int) then (if 0 ≤ ((rd_T59 x13 x15).f0) then (if ((rd_T59 x13 x15).f0) ≤ (wrap64 (((rd_T59 x13 x15).f0) + 1)) then (if (wrap64 (((rd_T59 x13 x15).f0) + 1)) ≤ 9 then ((impl_operandsOfSaid.f k ((rd_T59 x13 x15).f0)).bind fun t909 => (if t909 = 0 then ((mapAt.f ((rd_T59 x13 x15).f0)).bind fun t910 => (if 0 ≤ ((rd_T59 x13 x15).f1) then (if ((rd_T59 x13 x15).f1) ≤ (wrap64 (((rd_T59 x13 x15).f1) + 1)) then (if (wrap64 (((rd_T59 x13 x15).f1) + 1)) ≤ (t910.size : Int) then (if x4.length < 8796093022208 then (impl_SaidText.l0 k (x4 ++ [t910.extract (((rd_T59 x13 x15).f1) : Int).toNat ((wrap64 (((rd_T59 x13 x15).f1) + 1)) : Int).toNat]) x13 x14 (wrap64 (x15 + 1))) else (none)) else (none)) else (none)) else (none))) else (if t909 = 1 then (if 0 ≤ (wrap64 ((x4.length : Int) - 1)) then (if (wrap64 ((x4.length : Int) - 1)) < (x4.length : Int) then (if ((⟨#[32, 32, 32, 33, 88, 38, 124, 85, 82]⟩ : ByteArray).extract (((rd_T59 x13 x15).f0) : Int).toNat ((wrap64 (((rd_T59 x13 x15).f0) + 1)) : Int).toNat).size + (rdOf ByteArray.empty x4 (wrap64 ((x4.length : Int) - 1))).size ≤ 9223372036854775807 then (impl_SaidText.l0 k (x4.set ((wrap64 ((x4.length : Int) - 1)) : Int).toNat (((⟨#[32, 32, 32, 33, 88, 38, 124, 85, 82]⟩ : ByteArray).extract (((rd_T59 x13 x15).f0) : Int).toNat ((wrap64 (((rd_T59 x13 x15).f0) + 1)) : Int).toNat) ++ (rdOf ByteArray.empty x4 (wrap64 ((x4.length : Int) - 1))))) x13 x14 (wrap64 (x15 + 1))) else (none)) else (none)) else (none)) else (if 0 ≤ (wrap64 ((wrap64 ((x4.length : Int) - 1)) - 1)) then (if (wrap64 ((wrap64 ((x4.length : Int) - 1)) - 1)) < (x4.length : Int) then (if 1 + (rdOf ByteArray.empty x4 (wrap64 ((wrap64 ((x4.length : Int) - 1)) - 1))).size ≤ 9223372036854775807 then (if ((⟨#[40]⟩ : ByteArray) ++ (rdOf ByteArray.empty x4 (wrap64 ((wrap64 ((x4.length : Int) - 1)) - 1)))).size + ((⟨#[32, 32, 32, 33, 88, 38, 124, 85, 82]⟩ : ByteArray).extract (((rd_T59 x13 x15).f0) : Int).toNat ((wrap64 (((rd_T59 x13 x15).f0) + 1)) : Int).toNat).size ≤ 9223372036854775807 then (if 0 ≤ (wrap64 ((x4.length : Int) - 1)) then (if (wrap64 ((x4.length : Int) - 1)) < (x4.length : Int) then (if (wrap64 ((wrap64 ((x4.length : Int) - 1)) - 1)) ≤ (x4.length : Int) then ((some (x4.take ((wrap64 ((wrap64 ((x4.length : Int) - 1)) - 1)) : Int).toNat : List ByteArray)).bind fun y918 => (if (((⟨#[40]⟩ : ByteArray) ++ (rdOf ByteArray.empty x4 (wrap64 ((wrap64 ((x4.length : Int) - 1)) - 1)))) ++ ((⟨#[32, 32, 32, 33, 88, 38, 124, 85, 82]⟩ : ByteArray).extract (((rd_T59 x13 x15).f0) : Int).toNat ((wrap64 (((rd_T59 x13 x15).f0) + 1)) : Int).toNat)).size + (rdOf ByteArray.empty x4 (wrap64 ((x4.length : Int) - 1))).size ≤ 9223372036854775807 then (if ((((⟨#[40]⟩ : ByteArray) ++ (rdOf ByteArray.empty x4 (wrap64 ((wrap64 ((x4.length : Int) - 1)) - 1)))) ++ ((⟨#[32, 32, 32, 33, 88, 38, 124, 85, 82]⟩ : ByteArray).extract (((rd_T59 x13 x15).f0) : Int).toNat ((wrap64 (((rd_T59 x13 x15).f0) + 1)) : Int).toNat)) ++ (rdOf ByteArray.empty x4 (wrap64 ((x4.length : Int) - 1)))).size + 1 ≤ 9223372036854775807 then (if y918.length < 8796093022208 then (impl_SaidText.l0 k (y918 ++ [((((⟨#[40]⟩ : ByteArray) ++ (rdOf ByteArray.empty x4 (wrap64 ((wrap64 ((x4.length : Int) - 1)) - 1)))) ++ ((⟨#[32, 32, 32, 33, 88, 38, 124, 85, 82]⟩ : ByteArray).extract (((rd_T59 x13 x15).f0) : Int).toNat ((wrap64 (((rd_T59 x13 x15).f0) + 1)) : Int).toNat)) ++ (rdOf ByteArray.empty x4 (wrap64 ((x4.length : Int) - 1)))) ++ (⟨#[41]⟩ : ByteArray)]) x13 x14 (wrap64 (x15 + 1))) else (none)) else (none)) else (none))) else (none)) else (none)) else (none)) else (none)) else (none)) else (none)) else (none))))) else (none)) else (none)) else (none)) else (none)) else (none)) else (if 0 < (x4.length : Int) then (some (rdOf ByteArray.empty x4 0, true)) else (none))
def impl_SaidText.f (k : Nat) (l0 : List (S59)) : Option (ByteArray × Bool) := (impl_GoodSaid.f k l0).bind fun t902 => (if t902 = true then (impl_SaidText.l0 k (([] : List ByteArray)) l0 (l0.length : Int) 0) else (some ((⟨#[]⟩ : ByteArray), false)))
theorem impl_SaidText.mono_l : ∀ k, (∀ y0 y1 y2 y3, LeO (impl_SaidText.l0 k y0 y1 y2 y3) (impl_SaidText.l0 (k + 1) y0 y1 y2 y3))
 | 0 => fun _ _ _ _ r h => by simp [impl_SaidText.l0] at h
 | k + 1 => by
  have ih0 := impl_SaidText.mono_l k
  ·intro y0 y1 y2 y3
   unfold impl_SaidText.l0
   repeat' with_reducible first | apply ih0 | apply impl_GoodSaid.mono | apply impl_operandsOfSaid.mono | exact LeO.refl _ | exact LeO.none _ | apply LeO.ite | refine LeO.bind ?_ fun _ => ?_
theorem impl_SaidText.mono : ∀ a0 k, LeO (impl_SaidText.f k a0) (impl_SaidText.f (k + 1) a0) := by
 intro a0 k
 have ih0 := impl_SaidText.mono_l k
 unfold impl_SaidText.f
 repeat' with_reducible first | apply ih0 | apply impl_GoodSaid.mono | apply impl_operandsOfSaid.mono | exact LeO.refl _ | exact LeO.none _ | apply LeO.ite | refine LeO.bind ?_ fun _ => ?_
def impl_SaidText.T7 : Bool × List (List Nat × List Nat) := (true, [([], []), ([0], [0]), ([1], [1]), ([], []), ([3], [3]), ([], []), ([5], [5]), ([6], [6]), ([4, 7], [4, 7]), ([2, 0, 1, 2], [2]), ([8, 9, 0, 1, 2, 3, 4, 5, 6, 7, 8, 9], [8])])
def impl_SaidText.B7 : List Nat := [0, 1, 3, 0, 8, 0, 32, 96, 248, 7, 1023]
theorem impl_SaidText.tab7 : rtab .any (opsOf Try.f32 7) = impl_SaidText.T7 := by kernel_rfl
theorem impl_SaidText.bits7 : waitsOk impl_SaidText.T7.2 impl_SaidText.B7 = true := by kernel_rfl
def impl_SaidText.T9 : Bool × List (List Nat × List Nat) := (true, [([], []), ([], []), ([1], [1]), ([0, 2], [0, 2]), ([], []), ([], []), ([5], [5]), ([4, 6], [4, 6]), ([7], [7]), ([8], [8]), ([], []), ([9, 10], [9, 10]), ([], []), ([], []), ([12, 13], [12, 13]), ([14], [14]), ([11, 15], [11, 15]), ([16], [16]), ([17], [17]), ([3, 18], [3, 18]), ([19, 19, 0, 1, 2, 3, 4, 5, 6, 7, 8, 9, 10, 11, 12, 13, 14, 15, 16, 17, 18, 19], [0, 4, 12, 19])])
def impl_SaidText.B9 : List Nat := [0, 0, 2, 7, 0, 0, 32, 112, 240, 496, 0, 2032, 0, 0, 12288, 28672, 65520, 131056, 262128, 524287, 1048575]
theorem impl_SaidText.tab9 : rtab .any (opsOf Try.f32 9) = impl_SaidText.T9 := by kernel_rfl
theorem impl_SaidText.bits9 : waitsOk impl_SaidText.T9.2 impl_SaidText.B9 = true := by kernel_rfl
set_option maxHeartbeats 8000000 in
set_option maxRecDepth 100000 in
theorem impl_SaidText.calls (k : Nat) (A0 : Option Addr) (c0 : Nat) (l0 : List (S59)) (r1 : ByteArray) (r2 : Bool) (w : World) (hr0 : Kd.C k59 w A0 l0.length l0) (hc0 : l0.length ≤ c0) (h : impl_SaidText.f k l0 = some (r1, r2)) :
  Calls Try.prog 32 #[.slice A0 l0.length c0] w fun e w' => e = .returned (.tuple #[.string r1, .bool r2]) ∧ Below w.heap.size w w' := by
 have hu59 := Try.underlying59
 have HR0 := am_ hr0
 have HC0 := am_ hc0
 clear hr0 hc0
 have HB := am_ (Below.refl w.heap.size w)
 have H := h
 clear h
 unfold impl_SaidText.f at H
 obtain ⟨t902, A2, H⟩ := Sh.ba H
 by_cases c3 : t902 = true
 ·subst c3
  rw [if_pos rfl] at H
  obtain ⟨y903, hy903⟩ : ∃ y_ : List ByteArray, y_ = (([] : List ByteArray)) := ⟨_, rfl⟩
  replace H : (impl_SaidText.l0 k y903 l0 (l0.length : Int) 0) = some (r1, r2) := by first | (rw [hy903]; with_reducible exact H) | (have H2_ := (Option.bind_some _ _).symm.trans H; rw [hy903]; with_reducible exact H2_) | (have H2_ := (Option.bind_some _ _).symm.trans H; with_reducible exact H2_) | with_reducible exact H | (rw [hy903]; exact H) | exact H
  have Ny903 := am_ hy903
  clear hy903
  have H' := am_ H
  clear H
  go_enter Try.func32, Try.ntmps32
  go_wp2_with (first | ((with_reducible refine Sh.k 40 ?_); refine Sh.gL (some 10) Try.func40 #[.slice A0 l0.length c0] (h := ?_); (with_reducible refine (impl_GoodSaid.calls k _ _ l0 true _ ?side1 ?side2 A2.out).mono ?_); (case side1 => repeat (first | exact HR0.out | (with_reducible first | refine Kd.C_alloc ?_ _ | refine Kd.C_drewN ?_ _ | refine Kd.C_drew ?_))); (case side2 => exact HC0.out); rintro e w4 ⟨rfl, hb⟩; refine ⟨_, rfl, ?_⟩; replace HB := Sh.hb hb; (try clear hb); (try clear hb2); (try clear hk); (try clear hi)) | ((with_reducible refine Sh.d 12 ?_); refine Kd.R_lit Kd.string _ 9 ?hg (N := 12) ?hd (xs := ([] : List ByteArray)) (inner := []) (ok := fun _ => True) (okp := fun _ => True) ?hr ?hp (fun _ hk => hk) trivial (Below.refl _ _) (Nat.le_refl _) (by simp) ?_; (case hd => rfl); (case hg => rfl); (case hr => first | (go_simp; done) | (go_simp; rfl)); (case hp => exact (Reps.none _ _)); intro v904 w5 ho6 hb hg_ hnew_; clear hg_ hnew_; (first | rw [← Ny903.out] at ho6 | (simp only [Int.reduceToNat] at ho6; rw [← Ny903.out] at ho6)); have HO905 := am_ (Kd.R_lower ho6 (below_size Sh.bw)); replace HB := Sh.hb hb; clear hb ho6))
  go_loopg [4, 15] k (fun kq v4 v15 w' => ∃ (x4_1 : List ByteArray) (x15_1 : Int), v15 = .int .i64 x15_1 ∧ Aside0 (impl_SaidText.l0 kq x4_1 l0 (l0.length : Int) x15_1 = some (r1, r2)) ∧ Aside0 (kq ≤ k) ∧ Aside0 (Kd.R Kd.string 9 w' w.heap.size (fun _ => True) v4 x4_1) ∧ Aside0 (Below w.heap.size w w'))
  case atStart => exact ⟨(y903), (0), (Sh.es), H', ⟨Nat.le_refl _⟩, ⟨Sh.rl HO905.out⟩, ⟨Sh.bw⟩⟩
  case round =>
   clear H'
   obtain ⟨x4_1, x15_1, rfl, HA, HK1, HO_4, HB⟩ := hrel
   cases gk with
   | zero => exact absurd HA.out (by simp [impl_SaidText.l0])
   | succ k1 =>
    have H := HA.out
    clear HA
    simp only [impl_SaidText.l0] at H
    by_cases c7 : x15_1 < (l0.length : Int)
    ·rw [if_pos c7] at H
     have c7b0 := decide_eq_true c7
     clear c7
     by_cases c8 : 0 ≤ x15_1
     ·rw [if_pos c8] at H
      have c8b0 := decide_eq_true c8
      clear c8
      by_cases c9 : x15_1 < (l0.length : Int)
      ·rw [if_pos c9] at H
       have c9b0 := decide_eq_true c9
       clear c9
       by_cases c10 : 0 ≤ ((rd_T59 l0 x15_1).f0)
       ·rw [if_pos c10] at H
        have c10b0 := eq_true c10
        have c10b1 := decide_eq_true c10
        clear c10
        by_cases c11 : ((rd_T59 l0 x15_1).f0) ≤ (wrap64 (((rd_T59 l0 x15_1).f0) + 1))
        ·rw [if_pos c11] at H
         have c11b0 := eq_true c11
         have c11b1 := decide_eq_true c11
         by_cases c12 : (wrap64 (((rd_T59 l0 x15_1).f0) + 1)) ≤ 9
         ·rw [if_pos c12] at H
          have c12b0 := eq_true c12
          have c12b1 := decide_eq_true c12
          obtain ⟨t909, A13, H⟩ := Sh.ba H
          by_cases c14 : t909 = 0
          ·rw [if_pos c14] at H
           have c14b0 : (t909 == 0) = true := beq_iff_eq.mpr c14
           have c14b1 : (t909 != 0) = false := bne_eq_false_iff_eq.mpr c14
           clear c14
           obtain ⟨t910, A15, H⟩ := Sh.ba H
           by_cases c16 : 0 ≤ ((rd_T59 l0 x15_1).f1)
           ·rw [if_pos c16] at H
            have c16b0 := eq_true c16
            have c16b1 := decide_eq_true c16
            clear c16
            by_cases c17 : ((rd_T59 l0 x15_1).f1) ≤ (wrap64 (((rd_T59 l0 x15_1).f1) + 1))
            ·rw [if_pos c17] at H
             have c17b0 := eq_true c17
             have c17b1 := decide_eq_true c17
             by_cases c18 : (wrap64 (((rd_T59 l0 x15_1).f1) + 1)) ≤ (t910.size : Int)
             ·rw [if_pos c18] at H
              have c18b0 := eq_true c18
              have c18b1 := decide_eq_true c18
              by_cases c19 : x4_1.length < 8796093022208
              ·rw [if_pos c19] at H
               have LMc19 := am_ c19
               clear c19
               obtain ⟨y911, hy911⟩ : ∃ y_ : List ByteArray, y_ = (x4_1 ++ [t910.extract (((rd_T59 l0 x15_1).f1) : Int).toNat ((wrap64 (((rd_T59 l0 x15_1).f1) + 1)) : Int).toNat]) := ⟨_, rfl⟩
               replace H : (impl_SaidText.l0 k1 y911 l0 (l0.length : Int) (wrap64 (x15_1 + 1))) = some (r1, r2) := by first | (rw [hy911]; with_reducible exact H) | (have H2_ := (Option.bind_some _ _).symm.trans H; rw [hy911]; with_reducible exact H2_) | (have H2_ := (Option.bind_some _ _).symm.trans H; with_reducible exact H2_) | with_reducible exact H | (rw [hy911]; exact H) | exact H
               have Ny911 := am_ hy911
               clear hy911
               have H' := am_ H
               clear H
               have p907 : 0 ≤ (x15_1 : Int) := Sh.od
               have q907 : x15_1 < (l0.length : Int) := Sh.od
               obtain ⟨ad907, e907, hx907_0, hx907_1⟩ := at_T59 HR0.out x15_1 p907 q907
               cases e907
               try replace hx907_0 := Sh.cw hx907_0
               try replace hx907_1 := Sh.cw hx907_1
               replace p907 := eq_true p907
               replace q907 := eq_true q907
               try go_wp2_with (first | ((with_reducible refine Sh.d 6 ?_); refine Sh.bx (N := 6) (cs := #[.int .i64 0, .int .i64 0]) (t := 59) (h := ?_); intro gb908 hg w20 hbox hb; replace HO_4 := am_ (Kd.R_below (Sh.rl HO_4.out) hb); have BK908 := am_ hbox; have GE908 := Sh.ag w hg; replace HB := Sh.hb hb; clear hb hbox hg; obtain ⟨hcz21_0, hcz21_1, hfz21_0, hfz21_1⟩ := Sh.b2 BK908.out))
               have n0_ : Aside0 (Kd.R Kd.string 9 ((w20.setCell ⟨gb908, 0, none⟩ (.int .i64 ((rd_T59 l0 x15_1).f0))).setCell ⟨gb908, 1, none⟩ (.int .i64 ((rd_T59 l0 x15_1).f1))) w.heap.size (fun _ => True) u4 x4_1) := ⟨Sh.rl (Kd.R_mono (Kd.R_far (p := ⟨gb908, 1, none⟩) (Kd.R_far (p := ⟨gb908, 0, none⟩) (Kd.R_types HO_4.out BK908.out (by decide)) (fun _ hk => hk.2) (.int .i64 ((rd_T59 l0 x15_1).f0))) (fun _ hk => hk.2) (.int .i64 ((rd_T59 l0 x15_1).f1))) (fun _ hk => trivial))⟩
               have n1_ : Aside0 (((w20.setCell ⟨gb908, 0, none⟩ (.int .i64 ((rd_T59 l0 x15_1).f0))).setCell ⟨gb908, 1, none⟩ (.int .i64 ((rd_T59 l0 x15_1).f1))).heap[gb908]? = some (.cells #[.int .i64 ((rd_T59 l0 x15_1).f0), .int .i64 ((rd_T59 l0 x15_1).f1)] 59 (0, 0))) := ⟨by refine Sh.pl ?_; refine blk_put (cs := #[.int .i64 ((rd_T59 l0 x15_1).f0), .int .i64 0]) ?_ 1 _ rfl; refine Sh.pl ?_; refine blk_put (cs := #[.int .i64 0, .int .i64 0]) ?_ 0 _ rfl; refine Sh.pl ?_; exact BK908.out⟩
               have n2_ : Aside0 (Below w.heap.size w ((w20.setCell ⟨gb908, 0, none⟩ (.int .i64 ((rd_T59 l0 x15_1).f0))).setCell ⟨gb908, 1, none⟩ (.int .i64 ((rd_T59 l0 x15_1).f1)))) := ⟨Sh.bw⟩
               (try clear HO_4)
               (try clear BK908)
               (try clear HB)
               generalize ((w20.setCell ⟨gb908, 0, none⟩ (.int .i64 ((rd_T59 l0 x15_1).f0))).setCell ⟨gb908, 1, none⟩ (.int .i64 ((rd_T59 l0 x15_1).f1))) = w22 at n0_ n1_ n2_ ⊢
               have HO_4 := n0_
               have BK908 := n1_
               have HB := n2_
               clear n0_ n1_ n2_
               replace HO_4 := am_ (Kd.R_drew HO_4.out)
               replace BK908 := am_ (blk_drew BK908.out)
               replace HB := am_ (below_drew1 HB.out)
               obtain ⟨Ao24, co24, eo24⟩ := Kd.R_slice HO_4.out
               (first | subst eo24 | (injection eo24 with f1_ f2_ f3_; have f4_ := f1_.symm; have f5_ := f3_.symm; clear f1_ f2_ f3_; subst f4_; subst f5_))
               refine start_ (n := 11) (S := fun w' => w'.cell? ⟨gb908, 0, none⟩ = some (.int .i64 ((rd_T59 l0 x15_1).f0)) ∧ w'.cell? ⟨gb908, 1, none⟩ = some (.int .i64 ((rd_T59 l0 x15_1).f1))) (ds := []) (Sh.nm 11 0) (by kernel_rfl) rfl rfl Sh.cs (fun hHeld => ?_); refine with_tabW impl_SaidText.tab7 impl_SaidText.bits7 (fun HT_ HW_ => ?_)
               generalize w22.drew = w23 at HO_4 BK908 HB hHeld ⊢
               refine Sh.qA 0 ?_; refine Sh.qA 1 ?_; refine Sh.qA 2 ?_; refine Sh.qA 3 ?_; refine Sh.qA 5 ?_; refine Sh.qA 9 ?_; refine Sh.qT 4 hHeld ?_; refine Sh.qT 6 hHeld ?_; refine Sh.qA 7 ?_; refine Sh.qA 8 ?_; refine Sh.qA 10 ?_
               refine done_ (done_of HT_.out (by kernel_rfl)) ?_
               have hcz25_0 := Sh.bc BK908.out 0
               have hcz25_1 := Sh.bc BK908.out 1
               have hfz25_0 := blk_frozen BK908.out 0
               have hfz25_1 := blk_frozen BK908.out 1
               try go_wp2_with (first | ((with_reducible refine Sh.k 65 ?_); refine Sh.gD (some 30) Try.func65 #[.int .i64 ((rd_T59 l0 x15_1).f0)] (impl_operandsOfSaid.calls k1 ((rd_T59 l0 x15_1).f0) t909 _ A13.out) fun nd => ?_) | ((with_reducible refine gmk 78 ?_); refine mapAt.made 54 Try.underlying78 Try.underlying3 (fun mg_ mw_ hb hm_ => ?_); replace HO_4 := am_ (Kd.R_below (Sh.rl HO_4.out) hb); replace BK908 := Sh.ab BK908 hb; replace HB := Sh.hb hb; clear hb; have hczm_0 := Sh.bc BK908.out 0; have hczm_1 := Sh.bc BK908.out 1; have hfzm_0 := blk_frozen BK908.out 0; have hfzm_1 := blk_frozen BK908.out 1) | ((with_reducible refine glk 78 ?_); refine mapAt.look 58 Try.underlying78 Try.underlying3 hm_ A15.out ?_) | ((with_reducible refine gate_builtin (b := .append) (xs := #[.tmp 53, .tmp 65]) rfl ?_); at_builtin; refine Kd.R_append Kd.string (w0 := w) w.heap.size rfl (.tmp 53) (.tmp 65) 76 9 (.string ⟨#[]⟩) 16 rfl Try.underlying76 info9 rfl (by decide) (by omega) (.slice Ao24 x4_1.length co24) x4_1 (t910.extract (((rd_T59 l0 x15_1).f1) : Int).toNat ((wrap64 (((rd_T59 l0 x15_1).f1) + 1)) : Int).toNat) [.string (t910.extract (((rd_T59 l0 x15_1).f1) : Int).toNat ((wrap64 (((rd_T59 l0 x15_1).f1) + 1)) : Int).toNat)] (fun _ => True) (fun _ => False) rfl rfl ?aP (fun _ hk => hk.elim) ?aF ?aO ?aB ?aS ?aL ?_; (case aP => exact rfl); (case aB => exact Sh.bw); (case aF => exact (fun _ _ => trivial)); (case aO => exact (Sh.rl HO_4.out)); (case aS => exact (below_size Sh.bw)); (case aL => have := LMc19.out; omega); intro v912 w26 ho hb hg hat; rw [← Ny911.out] at ho; have n0_ := am_ (blk_grown (g := gb908) (o := .cells #[.int .i64 ((rd_T59 l0 x15_1).f0), .int .i64 ((rd_T59 l0 x15_1).f1)] 59 (0, 0)) (Sh.pl BK908.out) hg (Kd.R_ne HO_4.out BK908.out (by decide))); have n1_ := am_ hb; have n2_ := am_ ho; clear BK908; clear HB; clear HO_4; have BK908 := n0_; have HB := n1_; have HO913 := n2_; clear n0_ n1_ n2_; clear ho hb hg hat))
               go_roundg k1
               case measure => have := HK1.out; omega
               case rel => exact ⟨(y911), (wrap64 (x15_1 + 1)), (Sh.es), H', ⟨by have := HK1.out; omega⟩, ⟨Sh.rl HO913.out⟩, ⟨Sh.bw⟩⟩
              ·rw [if_neg c19] at H
               exact absurd H (by simp)
             ·rw [if_neg c18] at H
              exact absurd H (by simp)
            ·rw [if_neg c17] at H
             exact absurd H (by simp)
           ·rw [if_neg c16] at H
            exact absurd H (by simp)
          ·rw [if_neg c14] at H
           have c14b0 : (t909 == 0) = false := beq_eq_false_iff_ne.mpr c14
           have c14b1 : (t909 != 0) = true := bne_iff_ne.mpr c14
           by_cases c27 : t909 = 1
           ·rw [if_pos c27] at H
            have c27b0 : (t909 == 1) = true := beq_iff_eq.mpr c27
            have c27b1 : (t909 != 1) = false := bne_eq_false_iff_eq.mpr c27
            clear c27
            obtain ⟨ji28, hj1⟩ : ∃ j_ : Int, (wrap64 ((x4_1.length : Int) - 1)) = j_ := ⟨_, rfl⟩
            replace H : (if 0 ≤ (ji28) then (if (ji28) < (x4_1.length : Int) then (if ((⟨#[32, 32, 32, 33, 88, 38, 124, 85, 82]⟩ : ByteArray).extract (((rd_T59 l0 x15_1).f0) : Int).toNat ((wrap64 (((rd_T59 l0 x15_1).f0) + 1)) : Int).toNat).size + (rdOf ByteArray.empty x4_1 (ji28)).size ≤ 9223372036854775807 then (impl_SaidText.l0 k1 (x4_1.set ((ji28) : Int).toNat (((⟨#[32, 32, 32, 33, 88, 38, 124, 85, 82]⟩ : ByteArray).extract (((rd_T59 l0 x15_1).f0) : Int).toNat ((wrap64 (((rd_T59 l0 x15_1).f0) + 1)) : Int).toNat) ++ (rdOf ByteArray.empty x4_1 (ji28)))) l0 (l0.length : Int) (wrap64 (x15_1 + 1))) else (none)) else (none)) else (none)) = some (r1, r2) := by first | (rw [hj1] at H; exact H) | (simp only [hj1] at H ⊢; exact H)
            (try rw [hj1] at A13)
            have hji28w : (IntKind.i64.wrap ((x4_1.length : Int) - 1)) = ji28 := (i64_w _).trans hj1
            by_cases c29 : 0 ≤ (ji28)
            ·rw [if_pos c29] at H
             have c29b0 := decide_eq_true c29
             clear c29
             by_cases c30 : (ji28) < (x4_1.length : Int)
             ·rw [if_pos c30] at H
              have c30b0 := decide_eq_true c30
              clear c30
              by_cases c31 : ((⟨#[32, 32, 32, 33, 88, 38, 124, 85, 82]⟩ : ByteArray).extract (((rd_T59 l0 x15_1).f0) : Int).toNat ((wrap64 (((rd_T59 l0 x15_1).f0) + 1)) : Int).toNat).size + (rdOf ByteArray.empty x4_1 (ji28)).size ≤ 9223372036854775807
              ·rw [if_pos c31] at H
               have c31b0 := eq_true c31
               have c31b1 := decide_eq_true c31
               try have c31b2 : (9223372036854775807 < ((⟨#[32, 32, 32, 33, 88, 38, 124, 85, 82]⟩ : ByteArray).extract (((rd_T59 l0 x15_1).f0) : Int).toNat ((wrap64 (((rd_T59 l0 x15_1).f0) + 1)) : Int).toNat).size + (rdOf ByteArray.empty x4_1 (ji28)).size) = False := eq_false (Nat.not_lt.2 c31)
               have c31x : ((⟨#[32, 32, 32, 33, 88, 38, 124, 85, 82]⟩ : ByteArray).extract (((rd_T59 l0 x15_1).f0) : Int).toNat ((wrap64 (((rd_T59 l0 x15_1).f0) + 1)) : Int).toNat).size = ((wrap64 (((rd_T59 l0 x15_1).f0) + 1)).toNat - ((rd_T59 l0 x15_1).f0).toNat) := by rw [ByteArray.size_extract]; show min _ 9 - _ = _; rw [Nat.min_eq_left (by have h_ : (wrap64 (((rd_T59 l0 x15_1).f0) + 1)) ≤ 9 := Sh.od; omega)]
               have c31b3 : (9223372036854775807 < ((wrap64 (((rd_T59 l0 x15_1).f0) + 1)).toNat - ((rd_T59 l0 x15_1).f0).toNat) + (rdOf ByteArray.empty x4_1 (ji28)).size) = False := eq_false (Nat.not_lt.2 (by have h_ := c31; simp only [ByteArray.size_append, c31x] at h_; exact h_))
               obtain ⟨y915, hy915⟩ : ∃ y_ : List ByteArray, y_ = (x4_1.set ((ji28) : Int).toNat (((⟨#[32, 32, 32, 33, 88, 38, 124, 85, 82]⟩ : ByteArray).extract (((rd_T59 l0 x15_1).f0) : Int).toNat ((wrap64 (((rd_T59 l0 x15_1).f0) + 1)) : Int).toNat) ++ (rdOf ByteArray.empty x4_1 (ji28)))) := ⟨_, rfl⟩
               replace H : (impl_SaidText.l0 k1 y915 l0 (l0.length : Int) (wrap64 (x15_1 + 1))) = some (r1, r2) := by first | (rw [hy915]; with_reducible exact H) | (have H2_ := (Option.bind_some _ _).symm.trans H; rw [hy915]; with_reducible exact H2_) | (have H2_ := (Option.bind_some _ _).symm.trans H; with_reducible exact H2_) | with_reducible exact H | (rw [hy915]; exact H) | exact H
               have Ny915 := am_ hy915
               clear hy915
               have H' := am_ H
               clear H
               have p907 : 0 ≤ (x15_1 : Int) := Sh.od
               have q907 : x15_1 < (l0.length : Int) := Sh.od
               obtain ⟨ad907, e907, hx907_0, hx907_1⟩ := at_T59 HR0.out x15_1 p907 q907
               cases e907
               try replace hx907_0 := Sh.cw hx907_0
               try replace hx907_1 := Sh.cw hx907_1
               replace p907 := eq_true p907
               replace q907 := eq_true q907
               try go_wp2_with (first | ((with_reducible refine Sh.d 6 ?_); refine Sh.bx (N := 6) (cs := #[.int .i64 0, .int .i64 0]) (t := 59) (h := ?_); intro gb908 hg w33 hbox hb; replace HO_4 := am_ (Kd.R_below (Sh.rl HO_4.out) hb); have BK908 := am_ hbox; have GE908 := Sh.ag w hg; replace HB := Sh.hb hb; clear hb hbox hg; obtain ⟨hcz34_0, hcz34_1, hfz34_0, hfz34_1⟩ := Sh.b2 BK908.out))
               have n0_ : Aside0 (Kd.R Kd.string 9 ((w33.setCell ⟨gb908, 0, none⟩ (.int .i64 ((rd_T59 l0 x15_1).f0))).setCell ⟨gb908, 1, none⟩ (.int .i64 ((rd_T59 l0 x15_1).f1))) w.heap.size (fun _ => True) u4 x4_1) := ⟨Sh.rl (Kd.R_mono (Kd.R_far (p := ⟨gb908, 1, none⟩) (Kd.R_far (p := ⟨gb908, 0, none⟩) (Kd.R_types HO_4.out BK908.out (by decide)) (fun _ hk => hk.2) (.int .i64 ((rd_T59 l0 x15_1).f0))) (fun _ hk => hk.2) (.int .i64 ((rd_T59 l0 x15_1).f1))) (fun _ hk => trivial))⟩
               have n1_ : Aside0 (((w33.setCell ⟨gb908, 0, none⟩ (.int .i64 ((rd_T59 l0 x15_1).f0))).setCell ⟨gb908, 1, none⟩ (.int .i64 ((rd_T59 l0 x15_1).f1))).heap[gb908]? = some (.cells #[.int .i64 ((rd_T59 l0 x15_1).f0), .int .i64 ((rd_T59 l0 x15_1).f1)] 59 (0, 0))) := ⟨by refine Sh.pl ?_; refine blk_put (cs := #[.int .i64 ((rd_T59 l0 x15_1).f0), .int .i64 0]) ?_ 1 _ rfl; refine Sh.pl ?_; refine blk_put (cs := #[.int .i64 0, .int .i64 0]) ?_ 0 _ rfl; refine Sh.pl ?_; exact BK908.out⟩
               have n2_ : Aside0 (Below w.heap.size w ((w33.setCell ⟨gb908, 0, none⟩ (.int .i64 ((rd_T59 l0 x15_1).f0))).setCell ⟨gb908, 1, none⟩ (.int .i64 ((rd_T59 l0 x15_1).f1)))) := ⟨Sh.bw⟩
               (try clear HO_4)
               (try clear BK908)
               (try clear HB)
               generalize ((w33.setCell ⟨gb908, 0, none⟩ (.int .i64 ((rd_T59 l0 x15_1).f0))).setCell ⟨gb908, 1, none⟩ (.int .i64 ((rd_T59 l0 x15_1).f1))) = w35 at n0_ n1_ n2_ ⊢
               have HO_4 := n0_
               have BK908 := n1_
               have HB := n2_
               clear n0_ n1_ n2_
               replace HO_4 := am_ (Kd.R_drew HO_4.out)
               replace BK908 := am_ (blk_drew BK908.out)
               replace HB := am_ (below_drew1 HB.out)
               obtain ⟨Ao37, co37, eo37⟩ := Kd.R_slice HO_4.out
               (first | subst eo37 | (injection eo37 with f1_ f2_ f3_; have f4_ := f1_.symm; have f5_ := f3_.symm; clear f1_ f2_ f3_; subst f4_; subst f5_))
               refine start_ (n := 11) (S := fun w' => w'.cell? ⟨gb908, 0, none⟩ = some (.int .i64 ((rd_T59 l0 x15_1).f0)) ∧ w'.cell? ⟨gb908, 1, none⟩ = some (.int .i64 ((rd_T59 l0 x15_1).f1))) (ds := []) (Sh.nm 11 0) (by kernel_rfl) rfl rfl Sh.cs (fun hHeld => ?_); refine with_tabW impl_SaidText.tab7 impl_SaidText.bits7 (fun HT_ HW_ => ?_)
               generalize w35.drew = w36 at HO_4 BK908 HB hHeld ⊢
               refine Sh.qA 0 ?_; refine Sh.qA 1 ?_; refine Sh.qA 2 ?_; refine Sh.qA 3 ?_; refine Sh.qA 5 ?_; refine Sh.qA 9 ?_; refine Sh.qT 4 hHeld ?_; refine Sh.qT 6 hHeld ?_; refine Sh.qA 7 ?_; refine Sh.qA 8 ?_; refine Sh.qA 10 ?_
               refine done_ (done_of HT_.out (by kernel_rfl)) ?_
               have hcz38_0 := Sh.bc BK908.out 0
               have hcz38_1 := Sh.bc BK908.out 1
               have hfz38_0 := blk_frozen BK908.out 0
               have hfz38_1 := blk_frozen BK908.out 1
               try go_wp2_with (first | ((with_reducible refine Sh.k 65 ?_); refine Sh.gD (some 30) Try.func65 #[.int .i64 ((rd_T59 l0 x15_1).f0)] (impl_operandsOfSaid.calls k1 ((rd_T59 l0 x15_1).f0) t909 _ A13.out) fun nd => ?_; (try (rw [drewN_self w36]; generalize hq_ : World.drewN w36 _ = w36; have n0_ : Aside0 (Kd.R Kd.string 9 w36 w.heap.size (fun _ => True) (.slice Ao37 x4_1.length co37) x4_1) := ⟨by rw [← hq_]; exact (Sh.rl HO_4.out)⟩; have n1_ : Aside0 (w36.heap[gb908]? = some (.cells #[.int .i64 ((rd_T59 l0 x15_1).f0), .int .i64 ((rd_T59 l0 x15_1).f1)] 59 (0, 0))) := ⟨by rw [← hq_]; exact (Sh.pl BK908.out)⟩; have n2_ : Aside0 (Below w.heap.size w w36) := ⟨by rw [← hq_]; exact Sh.bw⟩; clear HO_4 BK908 HB hq_; have HO_4 := n0_; have BK908 := n1_; have HB := n2_; clear n0_ n1_ n2_)); have p914 : 0 ≤ ((ji28) : Int) := Sh.od; have q914 : (ji28) < (x4_1.length : Int) := Sh.od; obtain ⟨ad914, e914, hx914_0⟩ := Kd.at_string (Kd.R_reads' HO_4.out).2.2 (ji28) p914 q914; cases e914; replace p914 := eq_true p914; replace q914 := eq_true q914; have p32 : 0 ≤ ((ji28) : Int) := Sh.od; have q32 : ((ji28) : Int) < ((x4_1.length : Int) : Int) := Sh.od; obtain ⟨go32, co32, eo32, gb32, gl32, cl32, HG32⟩ := Kd.R_form HO_4.out (by omega); (first | cases eo32 | (injection eo32 with ea_ en_ ec_; (first | subst ea_ | (injection ea_ with ea_; subst ea_)); subst ec_; clear en_)); have GB32 := am_ gb32; have GG32 := am_ HG32; clear gb32 gl32 HG32; (first | simp only [add_plain] at hx914_0 | skip); obtain ⟨hx32_0, hf32_0⟩ := Kd.R_celln (⟨#[]⟩ : ByteArray) HO_4.out ((ji28) : Int) p32 q32; replace p32 := eq_true p32; replace q32 := eq_true q32; obtain ⟨hy39_, hz39_⟩ := Kd.R_celln (⟨#[]⟩ : ByteArray) HO_4.out ((ji28) : Int) (of_decide_eq_true (by first | (with_reducible assumption) | assumption)) (of_decide_eq_true (by first | (with_reducible assumption) | assumption)); have HP39 := Kd.R_putg HO_4.out ((ji28) : Int) (((⟨#[32, 32, 32, 33, 88, 38, 124, 85, 82]⟩ : ByteArray).extract (((rd_T59 l0 x15_1).f0) : Int).toNat ((wrap64 (((rd_T59 l0 x15_1).f0) + 1)) : Int).toNat) ++ (rdOf ByteArray.empty x4_1 (ji28)))) | ((with_reducible refine gate_store (t := 9) (p := 77) rfl ?_); refine store_event (t := 9) (p := 77) (v := ?vo_w40) (w1 := (w36.setCell ⟨go32, ((ji28) : Int).toNat, none⟩ (.string (((⟨#[32, 32, 32, 33, 88, 38, 124, 85, 82]⟩ : ByteArray).extract (((rd_T59 l0 x15_1).f0) : Int).toNat ((wrap64 (((rd_T59 l0 x15_1).f0) + 1)) : Int).toNat) ++ (rdOf ByteArray.empty x4_1 (ji28)))))) ?hg ?ho ?hn ?hr ?_; (case ho => rfl); (case hg => rfl); (case hn => rfl); (case hr => first | (go_simp; done) | (go_simp; rfl)); intro w40 hw; have hg : w36.grownBy w40 (some go32) := (by rw [hw]; exact HP39.2); have hp_ : Kd.R Kd.string 9 w40 w.heap.size (fun _ => True) (.slice (some ⟨go32, 0, none⟩) x4_1.length co37) y915 := (by rw [hw, Ny915.out]; exact HP39.1); clear HP39; replace BK908 := am_ (blk_grown (g := gb908) (o := .cells #[.int .i64 ((rd_T59 l0 x15_1).f0), .int .i64 ((rd_T59 l0 x15_1).f1)] 59 (0, 0)) (Sh.pl BK908.out) hg (Kd.R_ne HO_4.out BK908.out (by decide))); replace HO_4 := am_ hp_; replace HB := am_ ((by rw [hw]; exact below_set (HB.out) GB32.out : Below w.heap.size w w40)); clear hg hw hp_))
               go_roundg k1
               case measure => have := HK1.out; omega
               case rel => exact ⟨(y915), (wrap64 (x15_1 + 1)), (Sh.es), H', ⟨by have := HK1.out; omega⟩, ⟨Sh.rl HO_4.out⟩, ⟨Sh.bw⟩⟩
              ·rw [if_neg c31] at H
               exact absurd H (by simp)
             ·rw [if_neg c30] at H
              exact absurd H (by simp)
            ·rw [if_neg c29] at H
             exact absurd H (by simp)
           ·rw [if_neg c27] at H
            have c27b0 : (t909 == 1) = false := beq_eq_false_iff_ne.mpr c27
            have c27b1 : (t909 != 1) = true := bne_iff_ne.mpr c27
            obtain ⟨ji41, hj2⟩ : ∃ j_ : Int, (wrap64 ((wrap64 ((x4_1.length : Int) - 1)) - 1)) = j_ := ⟨_, rfl⟩
            replace H : (if 0 ≤ (ji41) then (if (ji41) < (x4_1.length : Int) then (if 1 + (rdOf ByteArray.empty x4_1 (ji41)).size ≤ 9223372036854775807 then (if ((⟨#[40]⟩ : ByteArray) ++ (rdOf ByteArray.empty x4_1 (ji41))).size + ((⟨#[32, 32, 32, 33, 88, 38, 124, 85, 82]⟩ : ByteArray).extract (((rd_T59 l0 x15_1).f0) : Int).toNat ((wrap64 (((rd_T59 l0 x15_1).f0) + 1)) : Int).toNat).size ≤ 9223372036854775807 then (if 0 ≤ (wrap64 ((x4_1.length : Int) - 1)) then (if (wrap64 ((x4_1.length : Int) - 1)) < (x4_1.length : Int) then (if (ji41) ≤ (x4_1.length : Int) then ((some (x4_1.take ((ji41) : Int).toNat : List ByteArray)).bind fun y918 => (if (((⟨#[40]⟩ : ByteArray) ++ (rdOf ByteArray.empty x4_1 (ji41))) ++ ((⟨#[32, 32, 32, 33, 88, 38, 124, 85, 82]⟩ : ByteArray).extract (((rd_T59 l0 x15_1).f0) : Int).toNat ((wrap64 (((rd_T59 l0 x15_1).f0) + 1)) : Int).toNat)).size + (rdOf ByteArray.empty x4_1 (wrap64 ((x4_1.length : Int) - 1))).size ≤ 9223372036854775807 then (if ((((⟨#[40]⟩ : ByteArray) ++ (rdOf ByteArray.empty x4_1 (ji41))) ++ ((⟨#[32, 32, 32, 33, 88, 38, 124, 85, 82]⟩ : ByteArray).extract (((rd_T59 l0 x15_1).f0) : Int).toNat ((wrap64 (((rd_T59 l0 x15_1).f0) + 1)) : Int).toNat)) ++ (rdOf ByteArray.empty x4_1 (wrap64 ((x4_1.length : Int) - 1)))).size + 1 ≤ 9223372036854775807 then (if y918.length < 8796093022208 then (impl_SaidText.l0 k1 (y918 ++ [((((⟨#[40]⟩ : ByteArray) ++ (rdOf ByteArray.empty x4_1 (ji41))) ++ ((⟨#[32, 32, 32, 33, 88, 38, 124, 85, 82]⟩ : ByteArray).extract (((rd_T59 l0 x15_1).f0) : Int).toNat ((wrap64 (((rd_T59 l0 x15_1).f0) + 1)) : Int).toNat)) ++ (rdOf ByteArray.empty x4_1 (wrap64 ((x4_1.length : Int) - 1)))) ++ (⟨#[41]⟩ : ByteArray)]) l0 (l0.length : Int) (wrap64 (x15_1 + 1))) else (none)) else (none)) else (none))) else (none)) else (none)) else (none)) else (none)) else (none)) else (none)) else (none)) = some (r1, r2) := by first | (rw [hj2] at H; exact H) | (simp only [hj2] at H ⊢; exact H)
            (try rw [hj2] at A13)
            have hji41w : (IntKind.i64.wrap ((wrap64 ((x4_1.length : Int) - 1)) - 1)) = ji41 := (i64_w _).trans hj2
            by_cases c42 : 0 ≤ (ji41)
            ·rw [if_pos c42] at H
             have c42b0 := decide_eq_true c42
             clear c42
             by_cases c43 : (ji41) < (x4_1.length : Int)
             ·rw [if_pos c43] at H
              have c43b0 := decide_eq_true c43
              clear c43
              by_cases c44 : 1 + (rdOf ByteArray.empty x4_1 (ji41)).size ≤ 9223372036854775807
              ·rw [if_pos c44] at H
               have c44b0 := eq_true c44
               have c44b1 := decide_eq_true c44
               try have c44b2 : (9223372036854775807 < 1 + (rdOf ByteArray.empty x4_1 (ji41)).size) = False := eq_false (Nat.not_lt.2 c44)
               by_cases c45 : ((⟨#[40]⟩ : ByteArray) ++ (rdOf ByteArray.empty x4_1 (ji41))).size + ((⟨#[32, 32, 32, 33, 88, 38, 124, 85, 82]⟩ : ByteArray).extract (((rd_T59 l0 x15_1).f0) : Int).toNat ((wrap64 (((rd_T59 l0 x15_1).f0) + 1)) : Int).toNat).size ≤ 9223372036854775807
               ·rw [if_pos c45] at H
                have c45b0 := eq_true c45
                have c45b1 := decide_eq_true c45
                try have c45b2 : (9223372036854775807 < ((⟨#[40]⟩ : ByteArray) ++ (rdOf ByteArray.empty x4_1 (ji41))).size + ((⟨#[32, 32, 32, 33, 88, 38, 124, 85, 82]⟩ : ByteArray).extract (((rd_T59 l0 x15_1).f0) : Int).toNat ((wrap64 (((rd_T59 l0 x15_1).f0) + 1)) : Int).toNat).size) = False := eq_false (Nat.not_lt.2 c45)
                have c45x : ((⟨#[32, 32, 32, 33, 88, 38, 124, 85, 82]⟩ : ByteArray).extract (((rd_T59 l0 x15_1).f0) : Int).toNat ((wrap64 (((rd_T59 l0 x15_1).f0) + 1)) : Int).toNat).size = ((wrap64 (((rd_T59 l0 x15_1).f0) + 1)).toNat - ((rd_T59 l0 x15_1).f0).toNat) := by rw [ByteArray.size_extract]; show min _ 9 - _ = _; rw [Nat.min_eq_left (by have h_ : (wrap64 (((rd_T59 l0 x15_1).f0) + 1)) ≤ 9 := Sh.od; omega)]
                have c45b3 : (9223372036854775807 < 1 + (rdOf ByteArray.empty x4_1 (ji41)).size + ((wrap64 (((rd_T59 l0 x15_1).f0) + 1)).toNat - ((rd_T59 l0 x15_1).f0).toNat)) = False := eq_false (Nat.not_lt.2 (by have h_ := c45; simp only [ByteArray.size_append, c45x] at h_; exact h_))
                obtain ⟨ji46, hj3⟩ : ∃ j_ : Int, (wrap64 ((x4_1.length : Int) - 1)) = j_ := ⟨_, rfl⟩
                have hj4 := hj2; (try rw [hj3] at hj4)
                replace H : (if 0 ≤ (ji46) then (if (ji46) < (x4_1.length : Int) then (if (ji41) ≤ (x4_1.length : Int) then ((some (x4_1.take ((ji41) : Int).toNat : List ByteArray)).bind fun y918 => (if (((⟨#[40]⟩ : ByteArray) ++ (rdOf ByteArray.empty x4_1 (ji41))) ++ ((⟨#[32, 32, 32, 33, 88, 38, 124, 85, 82]⟩ : ByteArray).extract (((rd_T59 l0 x15_1).f0) : Int).toNat ((wrap64 (((rd_T59 l0 x15_1).f0) + 1)) : Int).toNat)).size + (rdOf ByteArray.empty x4_1 (ji46)).size ≤ 9223372036854775807 then (if ((((⟨#[40]⟩ : ByteArray) ++ (rdOf ByteArray.empty x4_1 (ji41))) ++ ((⟨#[32, 32, 32, 33, 88, 38, 124, 85, 82]⟩ : ByteArray).extract (((rd_T59 l0 x15_1).f0) : Int).toNat ((wrap64 (((rd_T59 l0 x15_1).f0) + 1)) : Int).toNat)) ++ (rdOf ByteArray.empty x4_1 (ji46))).size + 1 ≤ 9223372036854775807 then (if y918.length < 8796093022208 then (impl_SaidText.l0 k1 (y918 ++ [((((⟨#[40]⟩ : ByteArray) ++ (rdOf ByteArray.empty x4_1 (ji41))) ++ ((⟨#[32, 32, 32, 33, 88, 38, 124, 85, 82]⟩ : ByteArray).extract (((rd_T59 l0 x15_1).f0) : Int).toNat ((wrap64 (((rd_T59 l0 x15_1).f0) + 1)) : Int).toNat)) ++ (rdOf ByteArray.empty x4_1 (ji46))) ++ (⟨#[41]⟩ : ByteArray)]) l0 (l0.length : Int) (wrap64 (x15_1 + 1))) else (none)) else (none)) else (none))) else (none)) else (none)) else (none)) = some (r1, r2) := by first | (rw [hj3] at H; exact H) | (simp only [hj3] at H ⊢; exact H)
                (try rw [hj3] at A13)
                have hji46w : (IntKind.i64.wrap ((x4_1.length : Int) - 1)) = ji46 := (i64_w _).trans hj3
                by_cases c47 : 0 ≤ (ji46)
                ·rw [if_pos c47] at H
                 have c47b0 := decide_eq_true c47
                 clear c47
                 by_cases c48 : (ji46) < (x4_1.length : Int)
                 ·rw [if_pos c48] at H
                  have c48b0 := decide_eq_true c48
                  clear c48
                  by_cases c49 : (ji41) ≤ (x4_1.length : Int)
                  ·rw [if_pos c49] at H
                   have c49b0 := eq_true c49
                   have c49b1 := decide_eq_true c49
                   clear c49
                   obtain ⟨y918, hy918⟩ : ∃ y_ : List ByteArray, y_ = (x4_1.take ((ji41) : Int).toNat) := ⟨_, rfl⟩
                   replace H : (if (((⟨#[40]⟩ : ByteArray) ++ (rdOf ByteArray.empty x4_1 (ji41))) ++ ((⟨#[32, 32, 32, 33, 88, 38, 124, 85, 82]⟩ : ByteArray).extract (((rd_T59 l0 x15_1).f0) : Int).toNat ((wrap64 (((rd_T59 l0 x15_1).f0) + 1)) : Int).toNat)).size + (rdOf ByteArray.empty x4_1 (ji46)).size ≤ 9223372036854775807 then (if ((((⟨#[40]⟩ : ByteArray) ++ (rdOf ByteArray.empty x4_1 (ji41))) ++ ((⟨#[32, 32, 32, 33, 88, 38, 124, 85, 82]⟩ : ByteArray).extract (((rd_T59 l0 x15_1).f0) : Int).toNat ((wrap64 (((rd_T59 l0 x15_1).f0) + 1)) : Int).toNat)) ++ (rdOf ByteArray.empty x4_1 (ji46))).size + 1 ≤ 9223372036854775807 then (if y918.length < 8796093022208 then (impl_SaidText.l0 k1 (y918 ++ [((((⟨#[40]⟩ : ByteArray) ++ (rdOf ByteArray.empty x4_1 (ji41))) ++ ((⟨#[32, 32, 32, 33, 88, 38, 124, 85, 82]⟩ : ByteArray).extract (((rd_T59 l0 x15_1).f0) : Int).toNat ((wrap64 (((rd_T59 l0 x15_1).f0) + 1)) : Int).toNat)) ++ (rdOf ByteArray.empty x4_1 (ji46))) ++ (⟨#[41]⟩ : ByteArray)]) l0 (l0.length : Int) (wrap64 (x15_1 + 1))) else (none)) else (none)) else (none)) = some (r1, r2) := by first | (rw [hy918]; with_reducible exact H) | (have H2_ := (Option.bind_some _ _).symm.trans H; rw [hy918]; with_reducible exact H2_) | (have H2_ := (Option.bind_some _ _).symm.trans H; with_reducible exact H2_) | with_reducible exact H | (rw [hy918]; exact H) | exact H
                   have Ny918 := am_ hy918
                   clear hy918
                   by_cases c50 : (((⟨#[40]⟩ : ByteArray) ++ (rdOf ByteArray.empty x4_1 (ji41))) ++ ((⟨#[32, 32, 32, 33, 88, 38, 124, 85, 82]⟩ : ByteArray).extract (((rd_T59 l0 x15_1).f0) : Int).toNat ((wrap64 (((rd_T59 l0 x15_1).f0) + 1)) : Int).toNat)).size + (rdOf ByteArray.empty x4_1 (ji46)).size ≤ 9223372036854775807
                   ·rw [if_pos c50] at H
                    have c50b0 := eq_true c50
                    have c50b1 := decide_eq_true c50
                    try have c50b2 : (9223372036854775807 < (((⟨#[40]⟩ : ByteArray) ++ (rdOf ByteArray.empty x4_1 (ji41))) ++ ((⟨#[32, 32, 32, 33, 88, 38, 124, 85, 82]⟩ : ByteArray).extract (((rd_T59 l0 x15_1).f0) : Int).toNat ((wrap64 (((rd_T59 l0 x15_1).f0) + 1)) : Int).toNat)).size + (rdOf ByteArray.empty x4_1 (ji46)).size) = False := eq_false (Nat.not_lt.2 c50)
                    have c50x : ((⟨#[32, 32, 32, 33, 88, 38, 124, 85, 82]⟩ : ByteArray).extract (((rd_T59 l0 x15_1).f0) : Int).toNat ((wrap64 (((rd_T59 l0 x15_1).f0) + 1)) : Int).toNat).size = ((wrap64 (((rd_T59 l0 x15_1).f0) + 1)).toNat - ((rd_T59 l0 x15_1).f0).toNat) := by rw [ByteArray.size_extract]; show min _ 9 - _ = _; rw [Nat.min_eq_left (by have h_ : (wrap64 (((rd_T59 l0 x15_1).f0) + 1)) ≤ 9 := Sh.od; omega)]
                    have c50b3 : (9223372036854775807 < 1 + (rdOf ByteArray.empty x4_1 (ji41)).size + ((wrap64 (((rd_T59 l0 x15_1).f0) + 1)).toNat - ((rd_T59 l0 x15_1).f0).toNat) + (rdOf ByteArray.empty x4_1 (ji46)).size) = False := eq_false (Nat.not_lt.2 (by have h_ := c50; simp only [ByteArray.size_append, c50x] at h_; exact h_))
                    by_cases c51 : ((((⟨#[40]⟩ : ByteArray) ++ (rdOf ByteArray.empty x4_1 (ji41))) ++ ((⟨#[32, 32, 32, 33, 88, 38, 124, 85, 82]⟩ : ByteArray).extract (((rd_T59 l0 x15_1).f0) : Int).toNat ((wrap64 (((rd_T59 l0 x15_1).f0) + 1)) : Int).toNat)) ++ (rdOf ByteArray.empty x4_1 (ji46))).size + 1 ≤ 9223372036854775807
                    ·rw [if_pos c51] at H
                     have c51b0 := eq_true c51
                     have c51b1 := decide_eq_true c51
                     try have c51b2 : (9223372036854775807 < ((((⟨#[40]⟩ : ByteArray) ++ (rdOf ByteArray.empty x4_1 (ji41))) ++ ((⟨#[32, 32, 32, 33, 88, 38, 124, 85, 82]⟩ : ByteArray).extract (((rd_T59 l0 x15_1).f0) : Int).toNat ((wrap64 (((rd_T59 l0 x15_1).f0) + 1)) : Int).toNat)) ++ (rdOf ByteArray.empty x4_1 (ji46))).size + 1) = False := eq_false (Nat.not_lt.2 c51)
                     have c51x : ((⟨#[32, 32, 32, 33, 88, 38, 124, 85, 82]⟩ : ByteArray).extract (((rd_T59 l0 x15_1).f0) : Int).toNat ((wrap64 (((rd_T59 l0 x15_1).f0) + 1)) : Int).toNat).size = ((wrap64 (((rd_T59 l0 x15_1).f0) + 1)).toNat - ((rd_T59 l0 x15_1).f0).toNat) := by rw [ByteArray.size_extract]; show min _ 9 - _ = _; rw [Nat.min_eq_left (by have h_ : (wrap64 (((rd_T59 l0 x15_1).f0) + 1)) ≤ 9 := Sh.od; omega)]
                     have c51b3 : (9223372036854775807 < 1 + (rdOf ByteArray.empty x4_1 (ji41)).size + ((wrap64 (((rd_T59 l0 x15_1).f0) + 1)).toNat - ((rd_T59 l0 x15_1).f0).toNat) + (rdOf ByteArray.empty x4_1 (ji46)).size + 1) = False := eq_false (Nat.not_lt.2 (by have h_ := c51; simp only [ByteArray.size_append, c51x] at h_; exact h_))
                     by_cases c52 : y918.length < 8796093022208
                     ·rw [if_pos c52] at H
                      have LMc52 := am_ c52
                      clear c52
                      obtain ⟨y921, hy921⟩ : ∃ y_ : List ByteArray, y_ = (y918 ++ [((((⟨#[40]⟩ : ByteArray) ++ (rdOf ByteArray.empty x4_1 (ji41))) ++ ((⟨#[32, 32, 32, 33, 88, 38, 124, 85, 82]⟩ : ByteArray).extract (((rd_T59 l0 x15_1).f0) : Int).toNat ((wrap64 (((rd_T59 l0 x15_1).f0) + 1)) : Int).toNat)) ++ (rdOf ByteArray.empty x4_1 (ji46))) ++ (⟨#[41]⟩ : ByteArray)]) := ⟨_, rfl⟩
                      replace H : (impl_SaidText.l0 k1 y921 l0 (l0.length : Int) (wrap64 (x15_1 + 1))) = some (r1, r2) := by first | (rw [hy921]; with_reducible exact H) | (have H2_ := (Option.bind_some _ _).symm.trans H; rw [hy921]; with_reducible exact H2_) | (have H2_ := (Option.bind_some _ _).symm.trans H; with_reducible exact H2_) | with_reducible exact H | (rw [hy921]; exact H) | exact H
                      have Ny921 := am_ hy921
                      clear hy921
                      have H' := am_ H
                      clear H
                      have p907 : 0 ≤ (x15_1 : Int) := Sh.od
                      have q907 : x15_1 < (l0.length : Int) := Sh.od
                      obtain ⟨ad907, e907, hx907_0, hx907_1⟩ := at_T59 HR0.out x15_1 p907 q907
                      cases e907
                      try replace hx907_0 := Sh.cw hx907_0
                      try replace hx907_1 := Sh.cw hx907_1
                      replace p907 := eq_true p907
                      replace q907 := eq_true q907
                      try go_wp2_with (first | ((with_reducible refine Sh.d 6 ?_); refine Sh.bx (N := 6) (cs := #[.int .i64 0, .int .i64 0]) (t := 59) (h := ?_); intro gb908 hg w53 hbox hb; replace HO_4 := am_ (Kd.R_below (Sh.rl HO_4.out) hb); have BK908 := am_ hbox; have GE908 := Sh.ag w hg; replace HB := Sh.hb hb; clear hb hbox hg; obtain ⟨hcz54_0, hcz54_1, hfz54_0, hfz54_1⟩ := Sh.b2 BK908.out))
                      have n0_ : Aside0 (Kd.R Kd.string 9 ((w53.setCell ⟨gb908, 0, none⟩ (.int .i64 ((rd_T59 l0 x15_1).f0))).setCell ⟨gb908, 1, none⟩ (.int .i64 ((rd_T59 l0 x15_1).f1))) w.heap.size (fun _ => True) u4 x4_1) := ⟨Sh.rl (Kd.R_mono (Kd.R_far (p := ⟨gb908, 1, none⟩) (Kd.R_far (p := ⟨gb908, 0, none⟩) (Kd.R_types HO_4.out BK908.out (by decide)) (fun _ hk => hk.2) (.int .i64 ((rd_T59 l0 x15_1).f0))) (fun _ hk => hk.2) (.int .i64 ((rd_T59 l0 x15_1).f1))) (fun _ hk => trivial))⟩
                      have n1_ : Aside0 (((w53.setCell ⟨gb908, 0, none⟩ (.int .i64 ((rd_T59 l0 x15_1).f0))).setCell ⟨gb908, 1, none⟩ (.int .i64 ((rd_T59 l0 x15_1).f1))).heap[gb908]? = some (.cells #[.int .i64 ((rd_T59 l0 x15_1).f0), .int .i64 ((rd_T59 l0 x15_1).f1)] 59 (0, 0))) := ⟨by refine Sh.pl ?_; refine blk_put (cs := #[.int .i64 ((rd_T59 l0 x15_1).f0), .int .i64 0]) ?_ 1 _ rfl; refine Sh.pl ?_; refine blk_put (cs := #[.int .i64 0, .int .i64 0]) ?_ 0 _ rfl; refine Sh.pl ?_; exact BK908.out⟩
                      have n2_ : Aside0 (Below w.heap.size w ((w53.setCell ⟨gb908, 0, none⟩ (.int .i64 ((rd_T59 l0 x15_1).f0))).setCell ⟨gb908, 1, none⟩ (.int .i64 ((rd_T59 l0 x15_1).f1)))) := ⟨Sh.bw⟩
                      (try clear HO_4)
                      (try clear BK908)
                      (try clear HB)
                      generalize ((w53.setCell ⟨gb908, 0, none⟩ (.int .i64 ((rd_T59 l0 x15_1).f0))).setCell ⟨gb908, 1, none⟩ (.int .i64 ((rd_T59 l0 x15_1).f1))) = w55 at n0_ n1_ n2_ ⊢
                      have HO_4 := n0_
                      have BK908 := n1_
                      have HB := n2_
                      clear n0_ n1_ n2_
                      replace HO_4 := am_ (Kd.R_drew HO_4.out)
                      replace BK908 := am_ (blk_drew BK908.out)
                      replace HB := am_ (below_drew1 HB.out)
                      obtain ⟨Ao57, co57, eo57⟩ := Kd.R_slice HO_4.out
                      (first | subst eo57 | (injection eo57 with f1_ f2_ f3_; have f4_ := f1_.symm; have f5_ := f3_.symm; clear f1_ f2_ f3_; subst f4_; subst f5_))
                      refine start_ (n := 11) (S := fun w' => w'.cell? ⟨gb908, 0, none⟩ = some (.int .i64 ((rd_T59 l0 x15_1).f0)) ∧ w'.cell? ⟨gb908, 1, none⟩ = some (.int .i64 ((rd_T59 l0 x15_1).f1))) (ds := []) (Sh.nm 11 0) (by kernel_rfl) rfl rfl Sh.cs (fun hHeld => ?_); refine with_tabW impl_SaidText.tab7 impl_SaidText.bits7 (fun HT_ HW_ => ?_)
                      generalize w55.drew = w56 at HO_4 BK908 HB hHeld ⊢
                      refine Sh.qA 0 ?_; refine Sh.qA 1 ?_; refine Sh.qA 2 ?_; refine Sh.qA 3 ?_; refine Sh.qA 5 ?_; refine Sh.qA 9 ?_; refine Sh.qT 4 hHeld ?_; refine Sh.qT 6 hHeld ?_; refine Sh.qA 7 ?_; refine Sh.qA 8 ?_; refine Sh.qA 10 ?_
                      refine done_ (done_of HT_.out (by kernel_rfl)) ?_
                      have hcz58_0 := Sh.bc BK908.out 0
                      have hcz58_1 := Sh.bc BK908.out 1
                      have hfz58_0 := blk_frozen BK908.out 0
                      have hfz58_1 := blk_frozen BK908.out 1
                      try go_wp2_with (first | ((with_reducible refine Sh.k 65 ?_); refine Sh.gD (some 30) Try.func65 #[.int .i64 ((rd_T59 l0 x15_1).f0)] (impl_operandsOfSaid.calls k1 ((rd_T59 l0 x15_1).f0) t909 _ A13.out) fun nd => ?_))
                      (try (rw [drewN_self w56]; generalize hq_ : World.drewN w56 _ = w56; have n0_ : Aside0 (Kd.R Kd.string 9 w56 w.heap.size (fun _ => True) (.slice Ao57 x4_1.length co57) x4_1) := ⟨by rw [← hq_]; exact (Sh.rl HO_4.out)⟩; have n1_ : Aside0 (w56.heap[gb908]? = some (.cells #[.int .i64 ((rd_T59 l0 x15_1).f0), .int .i64 ((rd_T59 l0 x15_1).f1)] 59 (0, 0))) := ⟨by rw [← hq_]; exact (Sh.pl BK908.out)⟩; have n2_ : Aside0 (Below w.heap.size w w56) := ⟨by rw [← hq_]; exact Sh.bw⟩; clear HO_4 BK908 HB hq_; have HO_4 := n0_; have BK908 := n1_; have HB := n2_; clear n0_ n1_ n2_))
                      replace HO_4 := am_ (Kd.R_drew HO_4.out)
                      replace BK908 := am_ (blk_drew BK908.out)
                      replace HB := am_ (below_drew1 HB.out)
                      have p916 : 0 ≤ ((ji41) : Int) := Sh.od
                      have q916 : (ji41) < (x4_1.length : Int) := Sh.od
                      obtain ⟨ad916, e916, hx916_0⟩ := Kd.at_string (Kd.R_reads' HO_4.out).2.2 (ji41) p916 q916
                      cases e916
                      replace p916 := eq_true p916
                      replace q916 := eq_true q916
                      have p917 : 0 ≤ ((ji46) : Int) := Sh.od
                      have q917 : (ji46) < (x4_1.length : Int) := Sh.od
                      obtain ⟨ad917, e917, hx917_0⟩ := Kd.at_string (Kd.R_reads' HO_4.out).2.2 (ji46) p917 q917
                      obtain rfl : ad916 = ad917 := (by injection e917)
                      replace p917 := eq_true p917
                      replace q917 := eq_true q917
                      have q60 : ((ji41) : Int) ≤ ((x4_1.length : Int) : Int) := Sh.od
                      obtain ⟨i060, hi060, _, hsz60, _⟩ := info_parts info9
                      have hcut60 := cut_to (P := Try.prog) 76 9 .i64 Try.underlying76 hi060 (some ad916) x4_1.length co57 (ji41) (of_decide_eq_true (by first | (with_reducible assumption) | assumption)) q60 (Kd.R_reads' HO_4.out).2.1
                      have hr60 := Kd.R_take (m := ((ji41) : Int).toNat) HO_4.out (by omega)
                      have hy60 : y918.length = ((ji41) : Int).toNat := (by rw [Ny918.out, List.length_take]; omega)
                      rw [← Ny918.out] at hr60
                      rw [← hy60] at hr60 hcut60
                      clear hy60 hi060 hsz60 HO_4
                      have HO920 := am_ hr60
                      clear hr60
                      replace q60 := eq_true q60
                      refine start_ (n := 21) (S := fun w' => w'.cell? (ad916.add ((ji41)).toNat) = some (.string (rdOf ByteArray.empty x4_1 (ji41))) ∧ w'.cell? (ad916.add ((ji46)).toNat) = some (.string (rdOf ByteArray.empty x4_1 (ji46)))) (ds := [18, 19]) (Sh.nm 21 0) (by kernel_rfl) rfl rfl ⟨hx916_0, hx917_0⟩ (fun hHeld => ?_); refine with_tabW impl_SaidText.tab9 impl_SaidText.bits9 (fun HT_ HW_ => ?_)
                      generalize w56.drew = w59 at BK908 HB HO920 hx916_0 hx917_0 hHeld ⊢
                      refine Sh.qA 0 ?_; refine Sh.qA 1 ?_; refine Sh.qA 2 ?_; refine Sh.qA 3 ?_; refine Sh.qA 4 ?_; refine Sh.qA 5 ?_; refine Sh.qA 6 ?_; refine Sh.qA 7 ?_; refine Sh.qA 10 ?_; refine Sh.qA 12 ?_; refine Sh.qA 13 ?_; refine Sh.qA 14 ?_; refine Sh.qT 8 hHeld ?_; refine Sh.qA 9 ?_; refine Sh.qA 11 ?_; refine Sh.qT 15 hHeld ?_; refine Sh.qA 16 ?_; refine Sh.qA 17 ?_
                      refine last_ (i := 18) (N := some 49) (Sh.nm 21 524287) rfl rfl (one_of HT_.out (by kernel_rfl)) (by decide) (fun K hK => ?_)
                      refine value_ (w1 := ?_) (v := ?_) (by rfl) rfl ?_ ?_
                      rotate_left 2
                      ·go_simp
                       constructor
                       ·rfl
                       ·rfl
                      refine Sh.kM hK ?_
                      clear hK K
                      refine last_ (i := 19) (N := some 50) (Sh.nm 21 1048575) rfl rfl (one_of HT_.out (by kernel_rfl)) (by decide) (fun K hK => ?_)
                      refine Kd.R_append_step Kd.string (w0 := w) w.heap.size (by rfl) (.tmp 34) (.tmp 49) 76 9 (.string ⟨#[]⟩) 16 rfl Try.underlying76 info9 rfl (by decide) (by omega) (.slice (some ad916) y918.length co57) y918 (((((⟨#[40]⟩ : ByteArray) ++ (rdOf ByteArray.empty x4_1 (ji41))) ++ ((⟨#[32, 32, 32, 33, 88, 38, 124, 85, 82]⟩ : ByteArray).extract (((rd_T59 l0 x15_1).f0) : Int).toNat ((wrap64 (((rd_T59 l0 x15_1).f0) + 1)) : Int).toNat)) ++ (rdOf ByteArray.empty x4_1 (ji46))) ++ (⟨#[41]⟩ : ByteArray)) [.string (((((⟨#[40]⟩ : ByteArray) ++ (rdOf ByteArray.empty x4_1 (ji41))) ++ ((⟨#[32, 32, 32, 33, 88, 38, 124, 85, 82]⟩ : ByteArray).extract (((rd_T59 l0 x15_1).f0) : Int).toNat ((wrap64 (((rd_T59 l0 x15_1).f0) + 1)) : Int).toNat)) ++ (rdOf ByteArray.empty x4_1 (ji46))) ++ (⟨#[41]⟩ : ByteArray))] (fun _ => True) (fun _ => False) rfl rfl ?aP (fun _ hk => hk.elim) ?aF ?aO ?aB ?aS ?aL ?_
                      (case aP => exact rfl)
                      (case aB => exact Sh.bw)
                      (case aF => exact (fun _ _ => trivial))
                      (case aO => exact (Sh.rl HO920.out))
                      (case aS => exact (below_size Sh.bw))
                      (case aL => have := LMc52.out; omega)
                      intro v922 w61 ho hb hg hat
                      rw [← Ny921.out] at ho
                      have n0_ := am_ (blk_grown (g := gb908) (o := .cells #[.int .i64 ((rd_T59 l0 x15_1).f0), .int .i64 ((rd_T59 l0 x15_1).f1)] 59 (0, 0)) (Sh.pl BK908.out) hg (Kd.R_ne HO920.out BK908.out (by decide)))
                      have n1_ := am_ hb
                      have n2_ := am_ ho
                      clear BK908
                      clear HB
                      clear HO920
                      have BK908 := n0_
                      have HB := n1_
                      have HO923 := n2_
                      clear n0_ n1_ n2_
                      clear ho hb hg hat
                      refine Sh.kM hK ?_
                      clear hK K
                      refine Sh.qA 20 ?_
                      refine done_ (done_of HT_.out (by kernel_rfl)) ?_
                      try go_wp2
                      go_roundg k1
                      case measure => have := HK1.out; omega
                      case rel => exact ⟨(y921), (wrap64 (x15_1 + 1)), (Sh.es), H', ⟨by have := HK1.out; omega⟩, ⟨Sh.rl HO923.out⟩, ⟨Sh.bw⟩⟩
                     ·rw [if_neg c52] at H
                      exact absurd H (by simp)
                    ·rw [if_neg c51] at H
                     exact absurd H (by simp)
                   ·rw [if_neg c50] at H
                    exact absurd H (by simp)
                  ·rw [if_neg c49] at H
                   exact absurd H (by simp)
                 ·rw [if_neg c48] at H
                  exact absurd H (by simp)
                ·rw [if_neg c47] at H
                 exact absurd H (by simp)
               ·rw [if_neg c45] at H
                exact absurd H (by simp)
              ·rw [if_neg c44] at H
               exact absurd H (by simp)
             ·rw [if_neg c43] at H
              exact absurd H (by simp)
            ·rw [if_neg c42] at H
             exact absurd H (by simp)
         ·rw [if_neg c12] at H
          exact absurd H (by simp)
        ·rw [if_neg c11] at H
         exact absurd H (by simp)
       ·rw [if_neg c10] at H
        exact absurd H (by simp)
      ·rw [if_neg c9] at H
       exact absurd H (by simp)
     ·rw [if_neg c8] at H
      exact absurd H (by simp)
    ·rw [if_neg c7] at H
     have c7b0 := decide_eq_false c7
     clear c7
     by_cases c62 : 0 < (x4_1.length : Int)
     ·rw [if_pos c62] at H
      have c62b0 := decide_eq_true c62
      have c62b1 : decide (0 < x4_1.length) = true := decide_eq_true (by omega)
      clear c62
      simp only [Option.some.injEq, Prod.mk.injEq] at H
      obtain ⟨rfl, rfl⟩ := H
      obtain ⟨Ao63, co63, eo63⟩ := Kd.R_slice HO_4.out
      subst eo63
      have p906 : 0 ≤ (0 : Int) := (by omega)
      have q906 : 0 < (x4_1.length : Int) := Sh.od
      obtain ⟨ad906, e906, hx906_0⟩ := Kd.at_string (Kd.R_reads' HO_4.out).2.2 0 p906 q906
      cases e906
      have qi906 : (0 < x4_1.length) = True := eq_true (by omega)
      (try rw [show ((0 : Int)).toNat = 0 from rfl] at hx906_0)
      (try rw [Addr.add_zero'] at hx906_0)
      replace p906 := eq_true p906
      replace q906 := eq_true q906
      go_wp2
      go_ret2
      exact ⟨Sh.eR, Sh.bw⟩
     ·rw [if_neg c62] at H
      exact absurd H (by simp)
 ·replace c3 := Bool.eq_false_iff.mpr c3
  subst c3
  rw [Sh.nf] at H
  simp only [Option.some.injEq, Prod.mk.injEq] at H
  obtain ⟨rfl, rfl⟩ := H
  go_enter Try.func32, Try.ntmps32
  go_wp2_with (first | ((with_reducible refine Sh.k 40 ?_); refine Sh.gL (some 10) Try.func40 #[.slice A0 l0.length c0] (h := ?_); (with_reducible refine (impl_GoodSaid.calls k _ _ l0 false _ ?side1 ?side2 A2.out).mono ?_); (case side1 => repeat (first | exact HR0.out | (with_reducible first | refine Kd.C_alloc ?_ _ | refine Kd.C_drewN ?_ _ | refine Kd.C_drew ?_))); (case side2 => exact HC0.out); rintro e w64 ⟨rfl, hb⟩; refine ⟨_, rfl, ?_⟩; replace HB := Sh.hb hb; (try clear hb); (try clear hb2); (try clear hk); (try clear hi)))
  go_ret2
  exact ⟨Sh.eR, Sh.bw⟩

end Go.Proofs.Ytaacldndbjmekaa.P
