/- Go functions of this seat as Lean functions, and the proofs that the calls come to what these say; printed by a program of this session. No condition. -/
import Derived.Test.YtgcglmkkfkjhhaaP0
import Derived.Test.YtgcglmkkfkjhhaaP35
import Derived.Test.YtgcglmkkfkjhhaaP36
namespace Go.Proofs.Ytgcglmkkfkjhhaa.P
open Go.RowKit Go.Proofs.YtgcglmkkfkjhhaaW.PrintWords Go.Proofs.YtgcglmkkfkjhhaaW.PrintLast Go.Proofs.YtgcglmkkfkjhhaaW.PrintMore Go.Proofs.Ytgcglmkkfkjhhaa.Hof
attribute [local go_sem] max2_int min2_int max_two min_two max_three min_three max_four min_four   -- for this text's walks alone
set_option linter.unusedVariables false
set_option linter.unusedSimpArgs false

/-! ### slices_Repeat_bool_bool: function 48, of one element -/
theorem slices_Repeat_bool_bool.mul (n : Nat) (h1 : n ≤ 1048576) : bits_Mul.f 1 n = some (0, (n : Int)) := by
  have e1 : Go.bits .and .u64 1 4294967295 = 1 := by rfl
  have e2 : ∀ m : Nat, m ≤ 1048576 → Go.bits .and .u64 (m : Int) 4294967295 = m := fun m hm => by
    rw [show (4294967295 : Int) = ((2 ^ 32 - 1 : Nat) : Int) by rfl, bits_and_u64_nat _ _ (by omega) (by decide), Nat.and_two_pow_sub_one_eq_mod, Nat.mod_eq_of_lt (by omega)]
  have e3 : ∀ x : Int, 0 ≤ x → x ≤ 1048576 → IntKind.u64.wrap x = x := fun x h0 h1 => by rw [IntKind.wrap_u64]; omega
  have e0 : Go.bits .and .u64 (0 : Int) 4294967295 = 0 := e2 0 (by omega)
  unfold bits_Mul.f bits_Mul64.f
  rw [e1, e2 n h1, show ((n : Int) / 4294967296) = 0 by omega, show ((1 : Int) / 4294967296) = 0 by rfl]
  simp only [Int.zero_mul, Int.one_mul, Int.mul_zero, Option.bind_some]
  rw [e3 n (by omega) (by omega), e3 0 (by omega) (by omega)]
  rw [show ((n : Int) / 4294967296) = 0 by omega]
  simp only [Int.zero_add, e3 0 (by omega) (by omega), e0, Int.zero_ediv]
def slices_Repeat_bool_bool.f (l0 : List Bool) (n : Int) : Option (List Bool) := if l0.length = 1 ∧ 0 ≤ n ∧ n ≤ 1048576 then some (List.replicate n.toNat (l0.getD 0 false)) else none
set_option maxHeartbeats 8000000 in
set_option maxRecDepth 100000 in
theorem slices_Repeat_bool_bool.calls (A0 : Option Addr) (c0 : Nat) (l0 : List (Bool)) (a1 : Int) (r : List Bool) (w : World) (hr0 : Kd.C Kd.bool w A0 l0.length l0) (hc0 : l0.length ≤ c0) (h : slices_Repeat_bool_bool.f l0 a1 = some r) :
    Calls Try.prog 48 #[.slice A0 l0.length c0, .int .i64 a1] w fun e w' => ∃ v0_ : Value, e = .returned (v0_) ∧ Kd.R Kd.bool 4 w' w.heap.size (fun _ => True) v0_ r ∧ Below w.heap.size w w' := by
  have hf : l0.length = 1 ∧ 0 ≤ a1 ∧ a1 ≤ 1048576 := by
    rcases Decidable.em (l0.length = 1 ∧ 0 ≤ a1 ∧ a1 ≤ 1048576) with h1 | h1
    · exact h1
    · rw [slices_Repeat_bool_bool.f, if_neg h1] at h; cases h
  rw [slices_Repeat_bool_bool.f, if_pos hf] at h
  obtain rfl := Option.some.inj h
  clear h
  obtain ⟨h1, h0, hN⟩ := hf
  obtain ⟨ad, e, hx⟩ := Kd.at_bool hr0 (0 : Int) (by omega) (by omega)
  subst e
  have hmul := slices_Repeat_bool_bool.mul a1.toNat (by omega)
  rw [show ((a1.toNat : Nat) : Int) = a1 by omega] at hmul
  have HM := am_ hmul
  clear hmul
  rw [show rdOf false l0 (0 : Int) = l0.getD 0 false by simp [rdOf]] at hx
  generalize l0.getD 0 false = x at hx ⊢
  generalize l0.length = n0 at *
  subst h1
  have HX := am_ hx
  clear hx hr0
  obtain ⟨N, rfl⟩ := Int.eq_ofNat_of_zero_le h0
  have n0 : ¬ ((N : Int) < 0) := by omega
  have ew : wrap64 (N : Int) = N := by unfold wrap64; omega
  have eu : IntKind.u64.wrap (N : Int) = N := by rw [IntKind.wrap_u64]; omega
  have ng : ¬ ((N : Int) > 9223372036854775807) := by omega
  have HN := am_ hN
  clear hN h0
  have HB := am_ (Below.refl w.heap.size w)
  have hsz : (Try.prog.info? 4).map (·.size) = some 1 := by kernel_rfl
  have HS := am_ hsz
  clear hsz
  have NM := am_ (show (N : Int).toNat = N from rfl)
  go_enter Try.func48, Try.ntmps48
  go_wp2_with (first
    | (go_at_call 50; refine (bits_Mul.calls 1 (N : Int) 0 (N : Int) _ HM.out).mono ?_; rintro e w' ⟨rfl, ⟨nd, rfl⟩⟩)
    | ((with_reducible refine Sh.d 30 ?_); refine Kd.R_make Kd.bool (w0 := w) w.heap.size 4 rfl (N := 30) rfl 48 _ _ rfl (N : Int) rfl rfl Try.underlying48 (.bool false) 1 info4 rfl (by decide) (by omega) false (ok := fun _ => True) (okp := fun _ => True) rfl (fun _ hk => hk) trivial (by omega) (by have := HN.out; omega) (pw_below_drewN HB.out _) (below_size (pw_below_drewN HB.out _)) ?_
       intro v1 w1 ho hb hg hat
       obtain ⟨b, hb1, _⟩ := hat
       obtain ⟨hl1, ⟨e1, _⟩ | ⟨g, cap, cur, e1, hbg, hcur, hcap, _, hsz1, _⟩⟩ := Kd.own_of_R ho
       · subst e1; simp [Value.ownBlock] at hb1
       subst e1
       obtain ⟨L, rfl⟩ : ∃ L : List Value, cur = L.toArray := ⟨cur.toList, by simp⟩
       have LEN := am_ (show L.length = cap ∧ N ≤ cap from ⟨by simpa using hsz1, by simpa using hcap⟩)
       have GB := am_ hbg
       have HC := am_ hcur
       clear hb1 hl1 hsz1 hcap ho hg hcur hbg HB
       have HB := am_ hb
       clear hb
       simp only [List.length_replicate, Int.toNat_natCast])
    | ((with_reducible refine gate_builtin (b := .copy) (xs := #[.tmp 31, .tmp 32]) rfl ?_); go_loud (refine wpList_copy_splice rfl (.tmp 31) (.tmp 32) 48 48 rfl 4 Try.underlying48 HS.out (some ⟨g, 0, none⟩) (some ad) N cap 1 c0 rfl rfl g 0 L 4 HC.out (List.replicate (min 1 N) (.bool x)) (by simp) ?hpos ?hfit ?h1 w.heap.size w HB.out GB.out ?_)
       case hpos => exact fun _ => ⟨rfl, ad, rfl, fun j v hv => by
         have hj : j = 0 ∧ v = .bool x := by
           rw [List.getElem?_replicate] at hv
           by_cases h : j < min 1 N
           · rw [if_pos h] at hv; exact ⟨by omega, (Option.some.inj hv).symm⟩
           · rw [if_neg h] at hv; cases hv
         obtain ⟨rfl, rfl⟩ := hj
         exact (HB.out.cell (World.block_lt_of_cell? w _ HX.out)).trans HX.out⟩
       case hfit => have := LEN.out; simp; omega
       case h1 => intro v hv; rw [List.eq_of_mem_replicate hv]; rfl
       intro w2 hg2 hb2
       have HC2 := am_ (show w2.heap[g]? = some (.cells (splice L 0 (List.replicate (min 1 N) (.bool x))).toArray 4 (0, 0)) from hg2)
       clear HC HB hg2
       have HB := am_ hb2
       clear hb2
       simp only [List.length_replicate]))
  go_loopg [8] N (fun gg s8 wr => ∃ m : Nat, m ≤ N ∧ (0 < N → 0 < m) ∧ N - m ≤ gg ∧ s8 = .int .i64 m ∧ Aside0 (∃ L' : List Value, wr.heap[g]? = some (.cells L'.toArray 4 (0, 0)) ∧ L'.length = cap ∧ L'.take m = List.replicate m (.bool x)) ∧ Aside0 (Below w.heap.size w wr))
  case atStart =>
    refine ⟨min 1 N, Nat.min_le_right _ _, by omega, by omega, rfl, ⟨_, HC2.out, ?_, ?_⟩, HB⟩
    · rw [length_splice _ _ _ (by have := LEN.out; simp; omega)]; exact LEN.out.1
    · simp [splice]
  case round =>
    obtain ⟨m, hm, hm0, hg, rfl, HL, HB⟩ := hrel
    obtain ⟨L', hL, hLl, hLt⟩ := HL.out
    clear HC2
    have HL1 := am_ hL
    have HL2 := am_ hLl
    have HL3 := am_ hLt
    clear hL hLl hLt HL
    by_cases hlt : m < N
    · have hltz : (m : Int) < (N : Int) := by omega
      obtain ⟨i0, hi0, _, hi1, _⟩ := info_parts info4
      have hNc := LEN.out.2
      have hcut1 : ∀ W : World, (Instr.slice 48 (.slice (some ⟨g, 0, none⟩) N cap) (some (.int .i64 (m : Int))) none none).run Try.prog W = .ok (.slice (some ⟨g, m, none⟩) (N - m) (cap - m)) W := by
        intro W
        rw [cut_from (P := Try.prog) 48 4 .i64 Try.underlying48 hi0 1 hi1 (some ⟨g, 0, none⟩) N cap (m : Int) (by omega) (by omega) W, Int.toNat_natCast, if_neg (by omega)]
        simp [Addr.add] <;> omega
      have hcut2 := cut_to (P := Try.prog) 48 4 .i64 Try.underlying48 hi0 (some ⟨g, 0, none⟩) N cap (m : Int) (by omega) (by omega) hNc
      rw [Int.toNat_natCast] at hcut2
      clear hi1
      have HI := am_ hi0
      clear hi0
      have hs := am_ (show ∀ j v, (List.replicate (min m (N - m)) (Value.bool x))[j]? = some v → wr.cell? ((⟨g, 0, none⟩ : Addr).add j) = some v from fun j v hv => by
        rw [List.getElem?_replicate] at hv
        by_cases h : j < min m (N - m)
        · rw [if_pos h] at hv
          have e : L'[j]? = some (Value.bool x) := by
            have := congrArg (fun l : List Value => l[j]?) HL3.out
            simp only [List.getElem?_take, List.getElem?_replicate] at this
            rw [if_pos (by omega), if_pos (by omega)] at this
            exact this
          rw [← Option.some.inj hv]
          have ea : (⟨g, 0, none⟩ : Addr).add j = ⟨g, j, none⟩ := by unfold Addr.add; split <;> simp_all
          rw [ea]
          exact (blk_cell HL1.out j).trans (by simpa using e)
        · rw [if_neg h] at hv; cases hv)
      have hfit := am_ (show m + (List.replicate (min m (N - m)) (Value.bool x)).length ≤ L'.length from by rw [HL2.out]; simp; omega)
      go_wp2
      go_region_law (refine step_copy_splice rfl (.tmp 41) (.tmp 44) 48 48 rfl 4 Try.underlying48 HS.out (some ⟨g, m, none⟩) (some ⟨g, 0, none⟩) (N - m) (cap - m) m cap (by simp [Act.eval, Act.put]) (by simp [Act.eval, Act.put]) g m L' 4 HL1.out (List.replicate (min m (N - m)) (.bool x)) (by simp) (fun _ => ⟨rfl, _, rfl, hs.out⟩) hfit.out (fun v hv => by rw [List.eq_of_mem_replicate hv]; rfl) w.heap.size w (by first | exact HB.out | exact below_drew1 HB.out) GB.out ?_; intro w3 hg3 hb3)
      all_goals go_wp2
      all_goals (
        go_roundg (N - (m + min m (N - m)))
        case measure => omega
        case rel =>
          refine ⟨m + min m (N - m), by omega, by omega, by omega, congrArg (Value.int .i64) (by have hN := HN.out; rw [IntKind.wrap_i64]; omega), ⟨⟨_, hg3, ?_, ?_⟩⟩, ⟨hb3⟩⟩
          · rw [length_splice _ _ _ hfit.out]; exact HL2.out
          · have h1 := HL3.out
            have h2 := HL2.out
            have h3 : L'.take m ++ List.replicate (min m (N - m)) (Value.bool x) = List.replicate (m + min m (N - m)) (Value.bool x) := by rw [h1, List.replicate_append_replicate]
            have h4 : (L'.take m ++ List.replicate (min m (N - m)) (Value.bool x)).length = m + min m (N - m) := by rw [h3, List.length_replicate]
            simp only [splice]
            rw [← List.append_assoc, List.take_append_of_le_length (by omega), ← h4, List.take_length, h3, List.length_replicate])
    · have hltz : ¬ (m : Int) < (N : Int) := by omega
      have hmN : m = N := by omega
      subst hmN
      go_wp2
      go_ret
      refine ⟨_, rfl, Kd.R_of_own (h1 := fun _ => rfl) (ok := fun _ => True) ?_ (fun _ _ => trivial), HB.out⟩
      have h1 := LEN.out
      refine ⟨by simp [encs], .inr ⟨g, cap, L'.toArray, ?_, GB.out, HL1.out, by simpa using h1.2, ?_, by simpa using HL2.out, ?_⟩⟩
      · simp
      · assumption
      · simpa [encs] using HL3.out

end Go.Proofs.Ytgcglmkkfkjhhaa.P
