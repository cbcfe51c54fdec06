/- Go functions of this seat as Lean functions, and the proofs that the calls come to what these say; printed by a program of this session. No condition. -/
import Derived.Test.YtnfpolhpanpeiaaP0
import Derived.Test.YtnfpolhpanpeiaaMFnExactLevelsOf1
set_option linter.unusedVariables false
set_option linter.unusedSimpArgs false
set_option maxHeartbeats 40000000
set_option maxRecDepth 100000
namespace Go.Proofs.Ytnfpolhpanpeiaa.P
open Go.RowKit Go.Proofs.YtnfpolhpanpeiaaW.PrintWords Go.Proofs.YtnfpolhpanpeiaaW.PrintLast Go.Proofs.YtnfpolhpanpeiaaW.PrintMore Go.Proofs.Ytnfpolhpanpeiaa.Hof
attribute [local go_sem] max2_int min2_int max_two min_two max_three min_three max_four min_four
/-- The walk at block g of W (spec.l11Walk): its row of marks is block gS, its row of points vO. -/
def IsW (nx : Value) (n b : Nat) (W : World) (g gS cS : Nat) (vO : Value) (Sn : List Bool) (O : List Int) : Prop :=
  W.heap[g]? = some (.cells #[nx, .slice (some ⟨gS, 0, none⟩) n cS, vO] 58 (0, 0)) ∧ b ≤ g ∧ Kd.R Kd.bool 4 W b (fun _ => True) (.slice (some ⟨gS, 0, none⟩) n cS) Sn ∧ Kd.R (Kd.int .i64) 3 W b (fun _ => True) vO O
/-- All stays but blocks g and gS and the row v, which is v' now. -/
def KeepW (g gS : Nat) (W : World) (v : Value) (W' : World) (v' : Value) : Prop :=
  Below 0 W W' ∧ (∀ i, i < W.heap.size → i ≠ g → i ≠ gS → some i ≠ v.ownBlock → W'.heap[i]? = W.heap[i]?) ∧ (∀ b, v'.ownBlock = some b → v.ownBlock = some b ∨ W.heap.size ≤ b)
section
variable {nx : Value} {n b : Nat} {W W1 W2 : World} {g gS cS : Nat} {v v1 v2 vO : Value} {Sn : List Bool} {O : List Int}
theorem KeepW.refl (g gS : Nat) (W : World) (v : Value) : KeepW g gS W v W v := ⟨Below.refl _ _, fun _ _ _ _ _ => rfl, fun _ h => .inl h⟩
theorem below0_trans (h : Below 0 W W1) (k : Below 0 W1 W2) : Below 0 W W2 := ⟨k.os.trans h.os, k.tape.trans h.tape, k.output.trans h.output, Nat.le_trans h.size k.size, fun i hi => absurd hi (Nat.not_lt_zero i)⟩
theorem below0 {B : Nat} (h : Below B W W1) : Below 0 W W1 := ⟨h.os, h.tape, h.output, h.size, fun i hi => absurd hi (Nat.not_lt_zero i)⟩
theorem KeepW.trans (h : KeepW g gS W v W1 v1) (k : KeepW g gS W1 v1 W2 v2) : KeepW g gS W v W2 v2 := by
  refine ⟨below0_trans h.1 k.1, fun i hi h1 h2 h3 => (k.2.1 i (Nat.lt_of_lt_of_le hi h.1.size) h1 h2 (fun e => ?_)).trans (h.2.1 i hi h1 h2 h3), fun b hb => ?_⟩
  · rcases h.2.2 i e.symm with h4 | h4
    · exact h3 h4.symm
    · omega
  · rcases k.2.2 b hb with h4 | h4
    · exact h.2.2 b h4
    · exact .inr (Nat.le_trans h.1.size h4)
theorem KeepW.below (h : KeepW g gS W v W1 v1) (k : Below W1.heap.size W1 W2) : KeepW g gS W v W2 v1 := h.trans ⟨below0 k, fun i hi _ _ _ => k.block i hi, fun _ h => .inl h⟩
theorem KeepW.setg (h : KeepW g gS W v W1 v1) (j : Nat) (u : Value) : KeepW g gS W v (W1.setCell ⟨g, j, none⟩ u) v1 :=
  h.trans ⟨⟨rfl, rfl, rfl, by simp [World.setCell], fun i hi => absurd hi (Nat.not_lt_zero i)⟩, fun i _ hg _ _ => Below.heap_setCell W1 ⟨g, j, none⟩ u i hg, fun _ h => .inl h⟩
theorem KeepW.setS (h : KeepW g gS W v W1 v1) (j : Nat) (u : Value) : KeepW g gS W v (W1.setCell ⟨gS, j, none⟩ u) v1 :=
  h.trans ⟨⟨rfl, rfl, rfl, by simp [World.setCell], fun i hi => absurd hi (Nat.not_lt_zero i)⟩, fun i _ _ hg _ => Below.heap_setCell W1 ⟨gS, j, none⟩ u i hg, fun _ h => .inl h⟩
theorem KeepW.grown (h : KeepW g gS W v W1 v1) (hg : W1.grownBy W2 v1.ownBlock) (hat : v2.ownBlock = v1.ownBlock ∨ ∃ b, v2.ownBlock = some b ∧ W1.heap.size ≤ b) : KeepW g gS W v W2 v2 := by
  refine h.trans ⟨⟨hg.os, hg.tape, hg.output, hg.size, fun i hi => absurd hi (Nat.not_lt_zero i)⟩, fun i hi _ _ hv => hg.block i hi hv, fun b hb => ?_⟩
  rcases hat with h1 | ⟨b', h1, h2⟩
  · exact .inl (h1 ▸ hb)
  · rw [h1] at hb; injection hb with hb; subst hb; exact .inr h2
theorem KeepW.toBelow {B : Nat} (h : KeepW g gS W v W1 v1) (hg : B ≤ g) (hs : B ≤ gS) (hv : ∀ k, v.ownBlock = some k → B ≤ k) (hb : B ≤ W.heap.size) : Below B W W1 :=
  ⟨h.1.os, h.1.tape, h.1.output, h.1.size, fun i hi => h.2.1 i (by omega) (by omega) (by omega) (fun e => by have := hv i e.symm; omega)⟩
theorem IsW.below (h : IsW nx n b W g gS cS vO Sn O) (hw : Below W.heap.size W W1) : IsW nx n b W1 g gS cS vO Sn O := ⟨blk_below h.1 hw, h.2.1, Kd.R_below h.2.2.1 hw, Kd.R_below h.2.2.2 hw⟩
theorem IsW.setSeen (h : IsW nx n b W g gS cS vO Sn O) (i : Int) (x : Bool) : IsW nx n b (W.setCell ⟨gS, i.toNat, none⟩ (.bool x)) g gS cS vO (Sn.set i.toNat x) O := by
  obtain ⟨h1, h2, h3, h4⟩ := h
  have hp := Kd.R_putg h3 i x
  obtain ⟨cells, hc⟩ := Kd.R_typed h3 gS rfl
  have hg : some g ≠ some gS := by
    intro e
    injection e with e
    subst e
    rw [h1] at hc
    injection hc with hc
    injection hc with _ hc
    exact absurd hc (by decide)
  exact ⟨blk_grown h1 hp.2 hg, h2, hp.1, Kd.R_mono (Kd.R_grown1 h4 rfl hp.2 (Kd.R_ne h4 hc (by decide))) (fun _ _ => trivial)⟩
theorem IsW.setO (h : IsW nx n b W g gS cS vO Sn O) {vT : Value} {O' : List Int} (hg : W.grownBy W1 vO.ownBlock) (hT : Kd.R (Kd.int .i64) 3 W1 b (fun _ => True) vT O') : IsW nx n b (W1.setCell ⟨g, 2, none⟩ vT) g gS cS vT Sn O' := by
  obtain ⟨h1, h2, h3, h4⟩ := h
  obtain ⟨cells, hc⟩ := Kd.R_typed h3 gS rfl
  have hb := blk_grown h1 hg (Kd.R_ne h4 h1 (by decide))
  have hs : Kd.R Kd.bool 4 W1 b (fun _ => True) (.slice (some ⟨gS, 0, none⟩) n cS) Sn := Kd.R_mono (Kd.R_grown1 h3 rfl hg (fun e => Kd.R_ne h4 hc (by decide) e.symm)) (fun _ _ => trivial)
  have far : ∀ {α : Type} {enc : α → Value} {h1 : ∀ x, (enc x).oneCell' = true} {e : Nat} {u : Value} {xs : List α}, Kd.R (Kd.scalar enc h1) e W1 b (fun _ => True) u xs → e ≠ 58 → Kd.R (Kd.scalar enc h1) e (W1.setCell ⟨g, 2, none⟩ vT) b (fun _ => True) u xs := fun hr he =>
    Kd.R_mono (Kd.R_far (p := ⟨g, 2, none⟩) (Kd.R_far1 hr rfl (Kd.R_ne hr hb he)) (fun _ hk => hk.2) vT) (fun _ _ => trivial)
  exact ⟨blk_put hb 2 vT rfl, h2, far hs (by decide), far hT (by decide)⟩
theorem TJ_b3 {w : World} {g : Nat} {t : TypeId} {a b c : Value} (h : w.heap[g]? = some (.cells #[a, b, c] t (0, 0))) : (w.cell? ⟨g, 0, none⟩ = some a ∧ w.cell? ⟨g, 1, none⟩ = some b ∧ w.cell? ⟨g, 2, none⟩ = some c) ∧ w.frozen? ⟨g, 2, none⟩ = false :=
  ⟨⟨Sh.bc h 0 rfl, Sh.bc h 1 rfl, Sh.bc h 2 rfl⟩, blk_frozen h 2⟩
end
/-- The rows of N read so in every world of Kp. -/
def RdN (Kp : World → Prop) (An : Option Addr) (N : List (List Int)) : Prop :=
  ∀ m : Int, 0 ≤ m → m < (N.length : Int) → ∃ ad A1 c1, An = some ad ∧ (rd_L1 N m).length ≤ c1 ∧ ∀ W', Kp W' → W'.cell? (ad.add m.toNat) = some (.slice A1 (rd_L1 N m).length c1) ∧ (Kd.int .i64).C W' A1 (rd_L1 N m).length (rd_L1 N m)
theorem RdN.mono {Kp Kq : World → Prop} {An : Option Addr} {N : List (List Int)} (h : RdN Kp An N) (hk : ∀ W, Kq W → Kp W) : RdN Kq An N := fun m h0 h1 => by
  obtain ⟨ad, A1, c1, e, hc, hr⟩ := h m h0 h1
  exact ⟨ad, A1, c1, e, hc, fun W' hW => hr W' (hk W' hW)⟩
theorem RdN_C {Kp : World → Prop} {An : Option Addr} {N : List (List Int)} {w0 : World} (h : Kd.C (Kd.slice 3 (Kd.int .i64)) w0 An N.length N) (hk : ∀ W, Kp W → Below w0.heap.size w0 W) : RdN Kp An N := fun m h0 h1 => by
  obtain ⟨ad, A1, c1, e, h2, h3, h4⟩ := at_L1 h m h0 h1
  exact ⟨ad, A1, c1, e, h3, fun W' hW => ⟨Sh.cw h2 (hk W' hW), Sh.cB h4 (hk W' hW)⟩⟩
theorem RdN_R {Kp : World → Prop} {An : Option Addr} {N : List (List Int)} {W : World} {base e cn : Nat} {ok : Nat → Prop} (h : Kd.R (Kd.slice 3 (Kd.int .i64)) e W base ok (.slice An N.length cn) N) (hk : ∀ W', Kp W' → ∀ k, ok k → k < W.heap.size → W'.heap[k]? = W.heap[k]?) : RdN Kp An N := fun m h0 h1 => by
  obtain ⟨ad, A1, c1, e1, h2, h3, h4⟩ := at_L1 (Kd.R_reads' h).2.2 m h0 h1
  subst e1
  refine ⟨ad, A1, c1, rfl, h3, fun W' hW => ?_⟩
  obtain ⟨ad', A1', c1', e2, h2', h3', h4'⟩ := at_L1 (Kd.R_reads' (Kd.R_step h (hk W' hW))).2.2 m h0 h1
  injection e2 with e2
  subst e2
  have hab : (ad.add m.toNat).block = ad.block := by unfold Addr.add; split <;> rfl
  have hq : W'.cell? (ad.add m.toNat) = W.cell? (ad.add m.toNat) := World.cell?_of_block (by rw [hab]; exact hk W' hW _ (h.1 _ rfl) (Kd.R_lt h _ rfl))
  rw [h2'] at hq
  have hq2 := hq.trans h2
  injection hq2 with hq2
  injection hq2 with e3 _ e5
  subst e3 e5
  exact ⟨h2', h4'⟩
section
variable {nx : Value} {n b : Nat} {W W1 W2 : World} {g gS cS : Nat} {v v1 vO : Value} {Sn : List Bool} {O : List Int}
theorem IsW.rl (h : IsW nx n b W g gS cS vO Sn O) (hs : Below W.heap.size W W1 := by (repeat (with_reducible first | apply below_alloc | apply pw_below_drewN | apply below_drew1)); exact Below.refl _ _) : IsW nx n b W1 g gS cS vO Sn O := h.below hs
theorem KeepW.rl (h : KeepW g gS W v W1 v1) (hs : Below W1.heap.size W1 W2 := by (repeat (with_reducible first | apply below_alloc | apply pw_below_drewN | apply below_drew1)); exact Below.refl _ _) : KeepW g gS W v W2 v1 := h.below hs
theorem IsW.ltb (h : IsW nx n b W g gS cS vO Sn O) (hs : Below W.heap.size W W1 := by (repeat (with_reducible first | apply below_alloc | apply pw_below_drewN | apply below_drew1)); exact Below.refl _ _) : b ≤ W1.heap.size := by
  have h1 := blk_lt (h.below hs).1
  have h2 := h.2.1
  omega
end
theorem TJ_bl {W W1 : World} (hs : Below W.heap.size W W1 := by (repeat (with_reducible first | apply below_alloc | apply pw_below_drewN | apply below_drew1)); exact Below.refl _ _) : Below W.heap.size W W1 := hs

mutual
def spec_walk.l0 : Nat → List (List Int) → List Int → Int → List Bool → List Int → Option (List Bool × List Int)
 | 0, _, _, _, _, _ => none
 | k + 1, N, row, i, Sn, O => if i < (row.length : Int) then (if 0 ≤ i then (spec_walk.f k N (rd row i) Sn O).bind fun t => spec_walk.l0 k N row (wrap64 (i + 1)) t.1 t.2 else none) else some (Sn, O)
def spec_walk.f : Nat → List (List Int) → Int → List Bool → List Int → Option (List Bool × List Int)
 | 0, _, _, _, _ => none
 | k + 1, N, m, Sn, O => if 0 ≤ m ∧ m < (N.length : Int) then (if Sn.getD m.toNat false = true then some (Sn, O) else (spec_walk.l0 k N (rd_L1 N m) 0 (Sn.set m.toNat true) O).bind fun t => if t.2.length < 17592186044416 then some (t.1, t.2 ++ [m]) else none) else none
end
theorem spec_walk.calls (k : Nat) : ∀ (An : Option Addr) (cn : Nat) (N : List (List Int)) (b g gS cS : Nat) (vO : Value) (Sn : List Bool) (O : List Int) (m : Int) (r : List Bool × List Int) (w : World) (hN : RdN (fun W' => ∃ v', KeepW g gS w vO W' v') An N) (hI : IsW (.slice An N.length cn) N.length b w g gS cS vO Sn O) (h : spec_walk.f k N m Sn O = some r),
  Calls Try.prog 45 #[.pointer (some ⟨g, 0, none⟩), .int .i64 m] w fun e w' => e = .returned (.tuple #[]) ∧ ∃ vO', IsW (.slice An N.length cn) N.length b w' g gS cS vO' r.1 r.2 ∧ KeepW g gS w vO w' vO' := by
 induction k using Nat.strongRecOn with
 | _ k ih =>
 intro An cn N b g gS cS vO Sn O m r w hN hI h
 cases k with
 | zero => exact absurd h (by simp [spec_walk.f])
 | succ k =>
 simp only [spec_walk.f] at h
 have hu58 := Try.underlying58
 have HN := am_ hN
 have HI := am_ hI
 have IH := am_ ih
 clear ih hN hI
 by_cases c1 : 0 ≤ m ∧ m < (N.length : Int)
 ·rw [if_pos c1] at h
  obtain ⟨p1, q1⟩ := c1
  have hcS : w.cell? ⟨gS, m.toNat, none⟩ = some (.bool (rdOf false Sn m)) := (Kd.R_celln false HI.out.2.2.1 m p1 q1).1
  have hfS : w.frozen? ⟨gS, m.toNat, none⟩ = false := (Kd.R_celln false HI.out.2.2.1 m p1 q1).2
  obtain ⟨⟨hcz_0, hcz_1, hcz_2⟩, hfz_2⟩ := TJ_b3 HI.out.1
  have p1b := decide_eq_true p1
  have q1b := decide_eq_true q1
  have p1t := eq_true p1
  have q1t := eq_true q1
  by_cases c2 : Sn.getD m.toNat false = true
  ·rw [if_pos c2] at h
   injection h with h
   subst h
   have c2b : rdOf false Sn m = true := c2
   rw [c2b] at hcS
   go_enter Try.func45, Try.ntmps45
   go_wp2
   exact bodyPost_ret (results_list (rs := []) rfl (by simp) .nil) rfl ⟨rfl, vO, HI.out, KeepW.refl _ _ _ _⟩
  ·rw [if_neg c2] at h
   have c2b : rdOf false Sn m = false := Bool.eq_false_iff.mpr c2
   rw [c2b] at hcS
   have H' := am_ h
   clear h
   go_enter Try.func45, Try.ntmps45
   go_wp2_with (first | ((with_reducible refine gate_store (t := 4) (p := 18) rfl ?_); refine store_event (t := 4) (p := 18) (v := ?vo_w4) (w1 := (w.setCell ⟨gS, m.toNat, none⟩ (.bool true))) ?hg ?ho ?hn ?hr ?_; (case ho => rfl); (case hg => rfl); (case hn => rfl); (case hr => first | (go_simp; done) | (go_simp; rfl)); intro w4 hw; have n1_ := am_ (show IsW _ _ b w4 g gS cS vO (Sn.set m.toNat true) O from (by rw [hw]; exact HI.out.setSeen m true)); have n2_ := am_ (show KeepW g gS w vO w4 vO from (by rw [hw]; exact (KeepW.refl _ _ _ _).setS _ _)); clear hw HI hcS hfS hcz_0 hcz_1 hcz_2 hfz_2; have HI := n1_; have HK := n2_; clear n1_ n2_; obtain ⟨⟨hcz_0, hcz_1, hcz_2⟩, hfz_2⟩ := TJ_b3 HI.out.1; obtain ⟨ad, A1, c1, e1, HL, HR⟩ := HN.out m p1 q1; subst e1; have hx1 := (HR w4 ⟨_, HK.out⟩).1; replace HR := am_ HR; replace HL := am_ HL))
   go_loopg [27] k (fun kq v27 w' => ∃ (i : Int) (vT : Value) (xS : List Bool) (xO : List Int), v27 = .int .i64 i ∧ Aside0 ((spec_walk.l0 kq N (rd_L1 N m) i xS xO).bind (fun t => if t.2.length < 17592186044416 then some (t.1, t.2 ++ [m]) else none) = some r) ∧ Aside0 (kq ≤ k) ∧ Aside0 (IsW (.slice (some ad) N.length cn) N.length b w' g gS cS vT xS xO) ∧ Aside0 (KeepW g gS w vO w' vT))
   case atStart => exact ⟨0, _, _, _, rfl, H', ⟨Nat.le_refl _⟩, HI, HK⟩
   case round =>
    clear H' HI HK hcz_0 hcz_1 hcz_2 hfz_2 hx1
    obtain ⟨i, vT, xS, xO, rfl, HA, HK1, HI, HK⟩ := hrel
    cases gk with
    | zero => exact absurd HA.out (by simp [spec_walk.l0])
    | succ k1 =>
     have H := HA.out
     clear HA
     simp only [spec_walk.l0] at H
     by_cases c3 : i < ((rd_L1 N m).length : Int)
     ·rw [if_pos c3] at H
      by_cases c4 : 0 ≤ i
      ·rw [if_pos c4] at H
       have c3b := decide_eq_true c3
       have c3t := eq_true c3
       have c4t := eq_true c4
       have c4b := decide_eq_true c4
       obtain ⟨ad2, e2, hxi⟩ := Kd.at_int (HR.out wr ⟨_, HK.out⟩).2 i c4 c3
       subst e2
       rw [Option.bind_assoc] at H
       obtain ⟨t, A_, H⟩ := Sh.ba H
       have H' := am_ H
       clear H
       obtain ⟨ww, hww⟩ : ∃ ww, ww = rd (rd_L1 N m) i := ⟨_, rfl⟩
       rw [← hww] at hxi A_
       clear hww
       have HQ := am_ (show ∀ W1, Below wr.heap.size wr W1 → RdN (fun W' => ∃ v', KeepW g gS W1 vT W' v') (some ad) N from fun W1 hW1 => RdN.mono HN.out (fun W' hW => hW.elim (fun v' hv => ⟨v', (KeepW.below HK.out hW1).trans hv⟩)))
       have hlt := am_ (show k1 < k + 1 by have := HK1.out; omega)
       go_wp2_with (first | (go_at_call 45; go_loud (with_reducible refine (IH.out k1 hlt.out _ _ N b g gS cS vT xS xO ww t _ (HQ.out _ TJ_bl) (IsW.rl HI.out) A_.out).mono ?_); rintro e w9 ⟨rfl, vU, hI, hk⟩; have n1_ := am_ hI; have n2_ := am_ ((KeepW.rl HK.out).trans hk); clear hI hk HI HK hxi; have HI := n1_; have HK := n2_; clear n1_ n2_))
       go_roundg k1
       case measure => have := HK1.out; omega
       case rel => exact ⟨_, _, _, _, rfl, H', ⟨by have := HK1.out; omega⟩, ⟨IsW.rl HI.out⟩, ⟨KeepW.rl HK.out⟩⟩
      ·rw [if_neg c4] at H
       exact absurd H (by simp)
     ·rw [if_neg c3] at H
      have c3b := decide_eq_false c3
      simp only [Option.bind_some] at H
      by_cases c5 : xO.length < 17592186044416
      ·rw [if_pos c5] at H
       injection H with H
       subst H
       have LM : Aside0 ((xO.length + 1) * 8 ≤ 140737488355328) := ⟨by omega⟩
       clear c5
       obtain ⟨AO, cO, eO⟩ := Kd.R_slice HI.out.2.2.2
       subst eO
       obtain ⟨⟨hcz_0, hcz_1, hcz_2⟩, hfz_2⟩ := TJ_b3 HI.out.1
       go_wp2_with (first | ((with_reducible refine gate_builtin (b := .append) (xs := #[.tmp 39, .tmp 41]) rfl ?_); at_builtin; refine Kd.R_append (Kd.int .i64) (w0 := wr) b rfl (.tmp 39) (.tmp 41) 26 3 (.int .i64 0) 8 rfl Try.underlying26 info3 rfl (by decide) (by decide) (.slice AO xO.length cO) xO m [.int .i64 m] (fun _ => True) (fun _ => False) rfl rfl ?aP (fun _ hk => hk.elim) ?aF ?aO ?aB ?aS ?aL ?_; (case aP => exact rfl); (case aF => exact (fun _ _ => trivial)); (case aO => exact (Sh.rl HI.out.2.2.2)); (case aB => exact Below.refl _ _); (case aS => exact (IsW.ltb HI.out)); (case aL => exact LM.out); intro v7 w7 ho hb hg hat; obtain ⟨Ao, co, eo⟩ := Kd.R_slice ho; subst eo; have n1_ : Aside0 (∀ W_, W_ = w7.setCell ⟨g, 2, none⟩ (.slice Ao (xO ++ [m]).length co) → IsW (.slice (some ad) N.length cn) N.length b W_ g gS cS (.slice Ao (xO ++ [m]).length co) xS (xO ++ [m]) ∧ KeepW g gS w vO W_ (.slice Ao (xO ++ [m]).length co)) := ⟨fun W_ e_ => (by rw [e_]; exact ⟨IsW.setO (IsW.rl HI.out) hg ho, KeepW.setg (KeepW.grown (KeepW.rl HK.out) hg hat) _ _⟩)⟩; have n3_ := am_ (blk_grown (IsW.rl HI.out).1 hg (Kd.R_ne HI.out.2.2.2 HI.out.1 (by decide))); clear HI HK hb hg hat ho hcz_0 hcz_1 hcz_2 hfz_2; have HI := n1_; have BK := n3_; clear n1_ n3_; obtain ⟨⟨hcz_0, hcz_1, hcz_2⟩, hfz_2⟩ := TJ_b3 BK.out) | ((with_reducible refine gate_store (t := 26) (p := 44) rfl ?_); refine store_event (t := 26) (p := 44) (v := ?vo_w8) (w1 := (w7.setCell ⟨g, 2, none⟩ (.slice Ao (xO ++ [m]).length co))) ?hg ?ho ?hn ?hr ?_; (case ho => rfl); (case hg => rfl); (case hn => rfl); (case hr => first | (go_simp; done) | (go_simp; rfl)); intro w8 hw; have n1_ := am_ (HI.out w8 hw); clear hw HI BK hcz_0 hcz_1 hcz_2 hfz_2; have HI := n1_; clear n1_))
       exact bodyPost_end (results_list (rs := []) rfl (by simp) .nil) rfl ⟨rfl, _, HI.out.1, HI.out.2⟩
      ·rw [if_neg c5] at H
       exact absurd H (by simp)
 ·rw [if_neg c1] at h
  exact absurd h (by simp)

/-- spec.l11Parts behind its first pass: the first walk's block g1 with its points O, the second walk at g2 over the turned rows M, the answer's row g8. -/
def IsP (w W : World) (g1 : Nat) (vO1 : Value) (g2 gS2 cS2 : Nat) (vO2 : Value) (g8 n c8 : Nat) (AM : Option Addr) (cM : Nat) (O : List Int) (M : List (List Int)) (xS : List Bool) (xO out : List Int) : Prop :=
  (∃ a b, W.heap[g1]? = some (.cells #[a, b, vO1] 58 (0, 0))) ∧ Kd.R (Kd.int .i64) 3 W w.heap.size (fun k => k ≠ g2 ∧ k ≠ gS2 ∧ k ≠ g8) vO1 O ∧ IsW (.slice AM M.length cM) M.length w.heap.size W g2 gS2 cS2 vO2 xS xO ∧
  Kd.R (Kd.slice 3 (Kd.int .i64)) 26 W w.heap.size (fun k => k ≠ g2 ∧ k ≠ gS2 ∧ k ≠ g8) (.slice AM M.length cM) M ∧ Kd.R (Kd.int .i64) 3 W w.heap.size (fun _ => True) (.slice (some ⟨g8, 0, none⟩) n c8) out ∧
  (g1 ≠ g2 ∧ g1 ≠ gS2 ∧ g1 ≠ g8 ∧ g8 ≠ g2 ∧ g8 ≠ gS2) ∧ some g8 ≠ vO2.ownBlock
section
variable {w W W1 : World} {g1 g2 gS2 cS2 g8 n c8 cM : Nat} {vO1 vO2 : Value} {AM : Option Addr} {O xO out : List Int} {M : List (List Int)} {xS : List Bool}
theorem IsP.below (h : IsP w W g1 vO1 g2 gS2 cS2 vO2 g8 n c8 AM cM O M xS xO out) (hw : Below W.heap.size W W1) : IsP w W1 g1 vO1 g2 gS2 cS2 vO2 g8 n c8 AM cM O M xS xO out := by
  obtain ⟨⟨a, b, h1⟩, h2, h3, h4, h5, h6, h7⟩ := h
  exact ⟨⟨a, b, blk_below h1 hw⟩, Kd.R_below h2 hw, h3.below hw, Kd.R_below h4 hw, Kd.R_below h5 hw, h6, h7⟩
theorem IsP.rl (h : IsP w W g1 vO1 g2 gS2 cS2 vO2 g8 n c8 AM cM O M xS xO out) (hs : Below W.heap.size W W1 := by (repeat (with_reducible first | apply below_alloc | apply pw_below_drewN | apply below_drew1)); exact Below.refl _ _) : IsP w W1 g1 vO1 g2 gS2 cS2 vO2 g8 n c8 AM cM O M xS xO out := h.below hs
theorem IsP.nil (h : IsP w W g1 vO1 g2 gS2 cS2 vO2 g8 n c8 AM cM O M xS xO out) : IsP w (W.setCell ⟨g2, 2, none⟩ (.slice none 0 0)) g1 vO1 g2 gS2 cS2 (.slice none 0 0) g8 n c8 AM cM O M xS [] out := by
  obtain ⟨⟨a, b, h1⟩, h2, h3, h4, h5, ⟨k1, k2, k3, k4, k5⟩, h7⟩ := h
  refine ⟨⟨a, b, ?_⟩, Kd.R_far h2 (fun k hk => hk.1) _, h3.setO (World.grownBy.refl _ _) (Kd.R_nil _ _ _ _ _), Kd.R_far h4 (fun k hk => hk.1) _, ?_, ⟨k1, k2, k3, k4, k5⟩, by simp [Value.ownBlock]⟩
  · rw [Below.heap_setCell W ⟨g2, 2, none⟩ _ g1 k1]; exact h1
  · exact Kd.R_mono (Kd.R_far (p := ⟨g2, 2, none⟩) (Kd.R_far1 h5 rfl (fun e => k4 (by simpa [Value.ownBlock] using e.symm))) (fun _ hk => hk.2) _) (fun _ _ => trivial)
theorem IsP.walk (h : IsP w W g1 vO1 g2 gS2 cS2 (.slice none 0 0) g8 n c8 AM cM O M xS xO out) {vU : Value} {xS' : List Bool} {xO' : List Int} (hi : IsW (.slice AM M.length cM) M.length w.heap.size W1 g2 gS2 cS2 vU xS' xO') (hk : KeepW g2 gS2 W (.slice none 0 0) W1 vU) : IsP w W1 g1 vO1 g2 gS2 cS2 vU g8 n c8 AM cM O M xS' xO' out := by
  obtain ⟨⟨a, b, h1⟩, h2, h3, h4, h5, ⟨k1, k2, k3, k4, k5⟩, h7⟩ := h
  have hn : ∀ i : Nat, some i ≠ (Value.slice none 0 0).ownBlock := by simp [Value.ownBlock]
  have l8 := Kd.R_lt h5 g8 rfl
  refine ⟨⟨a, b, ?_⟩, Kd.R_step h2 (fun k ho hl => hk.2.1 k hl ho.1 ho.2.1 (hn k)), hi, Kd.R_step h4 (fun k ho hl => hk.2.1 k hl ho.1 ho.2.1 (hn k)), ?_, ⟨k1, k2, k3, k4, k5⟩, fun e => ?_⟩
  · rw [hk.2.1 g1 (blk_lt h1) k1 k2 (hn g1)]; exact h1
  · have h6 : Kd.R (Kd.int .i64) 3 W w.heap.size (fun k => k = g8) (.slice (some ⟨g8, 0, none⟩) n c8) out := by
      obtain ⟨_, hh⟩ := h5
      exact ⟨fun k hk => by simpa [Value.ownBlock] using hk.symm, hh.imp_ (fun _ _ hp => hp)⟩
    exact Kd.R_mono (Kd.R_step h6 (fun k ho hl => hk.2.1 k hl (by rw [ho]; exact k4) (by rw [ho]; exact k5) (hn k))) (fun _ _ => trivial)
  · rcases hk.2.2 g8 e.symm with h8 | h8
    · simp [Value.ownBlock] at h8
    · omega
theorem IsP.setOut (h : IsP w W g1 vO1 g2 gS2 cS2 vO2 g8 n c8 AM cM O M xS xO out) (i x : Int) : IsP w (W.setCell ⟨g8, i.toNat, none⟩ (.int .i64 x)) g1 vO1 g2 gS2 cS2 vO2 g8 n c8 AM cM O M xS xO (out.set i.toNat x) := by
  obtain ⟨⟨a, b, h1⟩, h2, ⟨h3a, h3b, h3c, h3d⟩, h4, h5, ⟨k1, k2, k3, k4, k5⟩, h7⟩ := h
  have hp := Kd.R_putg h5 i x
  refine ⟨⟨a, b, ?_⟩, Kd.R_far h2 (fun k hk => hk.2.2) _, ⟨?_, h3b, ?_, TJ_far h3d h7⟩, Kd.R_far h4 (fun k hk => hk.2.2) _, hp.1, ⟨k1, k2, k3, k4, k5⟩, h7⟩
  · rw [Below.heap_setCell W ⟨g8, _, none⟩ _ g1 k3]; exact h1
  · rw [Below.heap_setCell W ⟨g8, _, none⟩ _ g2 (fun e => k4 e.symm)]; exact h3a
  · exact Kd.R_mono (Kd.R_far (p := ⟨g8, i.toNat, none⟩) (Kd.R_far1 h3c rfl (fun e => k5 (by simpa [Value.ownBlock] using e))) (fun _ hk => hk.2) _) (fun _ _ => trivial)
theorem IsP.rdn (h : IsP w W g1 vO1 g2 gS2 cS2 (.slice none 0 0) g8 n c8 AM cM O M xS xO out) : RdN (fun W' => ∃ v', KeepW g2 gS2 W (.slice none 0 0) W' v') AM M :=
  RdN_R h.2.2.2.1 (fun W' hW k ho hl => by
    obtain ⟨v', hk⟩ := hW
    exact hk.2.1 k hl ho.1 ho.2.1 (by simp [Value.ownBlock]))
theorem IsP.kept (h : IsP w W g1 vO1 g2 gS2 cS2 (.slice none 0 0) g8 n c8 AM cM O M xS xO out) (hB : Below w.heap.size w W) {vU : Value} (hk : KeepW g2 gS2 W (.slice none 0 0) W1 vU) : Below w.heap.size w W1 := by
  have hk2 := hk.toBelow (B := w.heap.size) h.2.2.1.2.1 (Kd.R_base h.2.2.1.2.2.1 gS2 rfl) (by simp [Value.ownBlock]) hB.size
  exact ⟨hk2.os.trans hB.os, hk2.tape.trans hB.tape, hk2.output.trans hB.output, Nat.le_trans hB.size hk2.size, fun k hl => (hk2.block k hl).trans (hB.block k hl)⟩
end
/-- What the region of open order has made: the turned rows, the second walk's marks. -/
def MK7 (n : Nat) (M : List (List Int)) (W1 W : World) (a b : Bool) (vM vS : Value) : Prop :=
  Below W1.heap.size W1 W ∧ (a = true → Kd.R (Kd.slice 3 (Kd.int .i64)) 26 W W1.heap.size (fun _ => True) vM M) ∧ (b = true → (∃ k, vS.ownBlock = some k) ∧ Kd.R Kd.bool 4 W W1.heap.size (fun _ => True) vS (List.replicate n false))
section
variable {n : Nat} {M : List (List Int)} {W1 W W2 : World} {a b : Bool} {vM vS v : Value}
theorem MK7.step (h : MK7 n M W1 W a b vM vS) (hw : Below W.heap.size W W2) : MK7 n M W1 W2 a b vM vS := ⟨below_step h.1 hw, fun k => Kd.R_below (h.2.1 k) hw, fun k => ⟨(h.2.2 k).1, Kd.R_below (h.2.2 k).2 hw⟩⟩
theorem MK7.pa (h : MK7 n M W1 W false b vM vS) (hw : Below W.heap.size W W2) (ho : Kd.S (Kd.slice 3 (Kd.int .i64)) 26 W2 W.heap.size (fun _ => True) v M) : MK7 n M W1 W2 true b v vS := by
  have hs := h.step hw
  exact ⟨hs.1, fun _ => Kd.R_lower (Kd.S_R ho) (below_size h.1), hs.2.2⟩
theorem MK7.pb (h : MK7 n M W1 W a false vM vS) (hw : Below W.heap.size W W2) (ho : Kd.R Kd.bool 4 W2 W.heap.size (fun _ => True) v (List.replicate n false)) (hat : ∃ k, v.ownBlock = some k) : MK7 n M W1 W2 a true vM v := by
  have hs := h.step hw
  exact ⟨hs.1, hs.2.1, fun _ => ⟨hat, Kd.R_lower ho (below_size h.1)⟩⟩
end
theorem TJ_atB {w w0 : World} {v : Value} {xs : List Bool} (h : Kd.R Kd.bool 4 w w0.heap.size (fun _ => True) v xs) (hv : ∃ k, v.ownBlock = some k) : ∃ g c, v = .slice (some ⟨g, 0, none⟩) xs.length c := by
  obtain ⟨k, hk⟩ := hv
  obtain ⟨h1, ⟨e1, e2⟩ | ⟨g, cap, cur, e1, _⟩⟩ := Kd.own_of_R h
  · subst e1; simp [Value.ownBlock] at hk
  · exact ⟨g, cap, e1⟩
section
variable {nx : Value} {n : Nat} {w W W1 W2 : World} {g gS cS : Nat} {v vO : Value} {Sn : List Bool} {O : List Int}
theorem IsW.kept (h : IsW nx n w.heap.size W g gS cS vO Sn O) (hB : Below w.heap.size w W) (hk : KeepW g gS W vO W1 v) : Below w.heap.size w W1 := by
  have hk2 := hk.toBelow (B := w.heap.size) h.2.1 (Kd.R_base h.2.2.1 gS rfl) (fun k hk => Kd.R_base h.2.2.2 k hk) hB.size
  exact ⟨hk2.os.trans hB.os, hk2.tape.trans hB.tape, hk2.output.trans hB.output, Nat.le_trans hB.size hk2.size, fun k hl => (hk2.block k hl).trans (hB.block k hl)⟩
theorem IsW.rdn {A0 : Option Addr} {N : List (List Int)} (hN : Kd.C (Kd.slice 3 (Kd.int .i64)) w A0 N.length N) (h : IsW nx n w.heap.size W g gS cS vO Sn O) (hB : Below w.heap.size w W) (hw : Below W.heap.size W W2) : RdN (fun W' => ∃ v', KeepW g gS W2 vO W' v') A0 N :=
  RdN_C hN (fun W' hW => by
    obtain ⟨v', hk⟩ := hW
    exact (h.below hw).kept (below_step hB hw) hk)
end
theorem MK7.b {n : Nat} {M : List (List Int)} {W1 W : World} {a b : Bool} {vM vS : Value} (h : MK7 n M W1 W a b vM vS) : Below W1.heap.size W1 W := h.1
theorem IsP.mk {nx vO1 : Value} {n n8 c8 g8 g1 g2 gS cS gS2 cS2 cM : Nat} {AM : Option Addr} {w wr w1 w2 : World} {Sn : List Bool} {O out : List Int} {M : List (List Int)} (hI : IsW nx n w.heap.size wr g1 gS cS vO1 Sn O) (hB : Below w.heap.size w wr) (hM : MK7 M.length M wr w1 true true (.slice AM M.length cM) (.slice (some ⟨gS2, 0, none⟩) M.length cS2)) (hbk : w1.heap[g2]? = some (.cells #[.slice AM M.length cM, .slice (some ⟨gS2, 0, none⟩) M.length cS2, .slice none 0 0] 58 (0, 0))) (hg2 : wr.heap.size ≤ g2 ∧ gS2 < g2)
    (h8 : Kd.R (Kd.int .i64) 3 w2 w1.heap.size (fun _ => True) (.slice (some ⟨g8, 0, none⟩) n8 c8) out) (hw : Below w1.heap.size w1 w2) : IsP w w2 g1 vO1 g2 gS2 cS2 (.slice none 0 0) g8 n8 c8 AM cM O M (List.replicate M.length false) [] out := by
  have hs1 := hB.size
  have hs2 := hM.1.size
  have l2 := blk_lt hbk
  have b8 := Kd.R_base h8 g8 rfl
  have l1 := blk_lt hI.1
  have rM := hM.2.1 rfl
  have rS := (hM.2.2 rfl).2
  have bS := Kd.R_base rS gS2 rfl
  obtain ⟨cells, hc⟩ := Kd.R_typed rS gS2 rfl
  refine ⟨⟨_, _, blk_below (blk_below hI.1 hM.1) hw⟩, ?_, ⟨blk_below hbk hw, by omega, Kd.R_lower (Kd.R_below rS hw) hs1, Kd.R_nil _ _ _ _ _⟩, ?_, Kd.R_lower h8 (by omega), ⟨by omega, by omega, by omega, by omega, by omega⟩, by simp [Value.ownBlock]⟩
  · exact Kd.R_below (Kd.R_below (Kd.R_mono (Kd.R_bound hI.2.2.2) (fun k hk => ⟨by have := hk.2.2.1; omega, by have := hk.2.2.1; omega, by have := hk.2.2.1; omega⟩)) hM.1) hw
  · have r1 := Kd.R_types rM hbk (by decide)
    have r2 := Kd.R_types r1 hc (by decide)
    exact Kd.R_lower (Kd.R_below (Kd.R_mono (Kd.R_bound r2) (fun k hk => ⟨hk.1.1.2, hk.1.2, by have := hk.2.2.1; omega⟩)) hw) hs1
theorem IsP.w {w W : World} {g1 g2 gS2 cS2 g8 n c8 cM : Nat} {vO1 vO2 : Value} {AM : Option Addr} {O xO out : List Int} {M : List (List Int)} {xS : List Bool} (h : IsP w W g1 vO1 g2 gS2 cS2 vO2 g8 n c8 AM cM O M xS xO out) : IsW (.slice AM M.length cM) M.length w.heap.size W g2 gS2 cS2 vO2 xS xO := h.2.2.1

def spec_l11Parts.w : Nat → List (List Int) → Int → List Bool → List Int → Option (List Int)
 | 0, _, _, _, _ => none
 | k + 1, N, i, Sn, O => if i < (N.length : Int) then ((spec_walk.f k N i Sn O).bind fun t => spec_l11Parts.w k N (wrap64 (i + 1)) t.1 t.2) else some O
def spec_l11Parts.m : Nat → List Int → Int → Int → Option Int
 | 0, _, _, _ => none
 | k + 1, row, i, l => if i < (row.length : Int) then (if 0 ≤ i then spec_l11Parts.m k row (wrap64 (i + 1)) (if rd row i < l then rd row i else l) else none) else some l
def spec_l11Parts.s : Nat → List Int → Int → Int → List Int → Option (List Int)
 | 0, _, _, _, _ => none
 | k + 1, row, i, l, out => if i < (row.length : Int) then (if 0 ≤ i ∧ 0 ≤ rd row i ∧ rd row i < (out.length : Int) then spec_l11Parts.s k row (wrap64 (i + 1)) l (out.set (rd row i).toNat l) else none) else some out
def spec_l11Parts.o : Nat → List Int → List (List Int) → Int → List Bool → List Int → Option (List Int)
 | 0, _, _, _, _, _ => none
 | k + 1, O, M, i, Sn, out => if i ≥ 0 then (if i < (O.length : Int) then ((spec_walk.f k M (rd O i) Sn []).bind fun t => (spec_l11Parts.m k t.2 0 (M.length : Int)).bind fun l => (spec_l11Parts.s k t.2 0 l out).bind fun out' => spec_l11Parts.o k O M (wrap64 (i - 1)) t.1 out') else none) else some out
def spec_l11Parts.f (k : Nat) (N : List (List Int)) : Option (List Int) := if N.length ≤ 1048576 then ((spec_l11Parts.w k N 0 (List.replicate N.length false) []).bind fun O => (spec_l11Turn.f k N).bind fun M => if M.length = N.length then spec_l11Parts.o k O M (wrap64 ((O.length : Int) - 1)) (List.replicate N.length false) (List.replicate N.length 0) else none) else none
theorem TJ_info4 : (Try.prog.info? 4).map (fun i => (i.zero, i.size, i.bytes)) = some (some (.bool false), 1, 1) := by kernel_rfl
def spec_l11Parts.T7 : Bool × List (List Nat × List Nat) := (true, [([], []), ([0], [0]), ([], []), ([2], [2]), ([3, 3], [3]), ([1, 4], [1, 4]), ([5], [5]), ([6, 1, 0, 1, 2, 3, 4, 5, 6], [6])])
def spec_l11Parts.B7 : List Nat := [0, 1, 0, 4, 12, 31, 63, 127]
theorem spec_l11Parts.tab7 : rtab .any (opsOf Try.f28 7) = spec_l11Parts.T7 := by kernel_rfl
theorem spec_l11Parts.bits7 : waitsOk spec_l11Parts.T7.2 spec_l11Parts.B7 = true := by kernel_rfl
theorem spec_l11Parts.calls (k : Nat) (A0 : Option Addr) (c0 : Nat) (N : List (List Int)) (r : List Int) (w : World) (hr0 : Kd.C (Kd.slice 3 (Kd.int .i64)) w A0 N.length N) (hc0 : N.length ≤ c0) (h : spec_l11Parts.f k N = some r) :
    Calls Try.prog 28 #[.slice A0 N.length c0] w fun e w' => ∃ v0_ : Value, e = .returned (v0_) ∧ Kd.R (Kd.int .i64) 3 w' w.heap.size (fun _ => True) v0_ r ∧ Below w.heap.size w w' := by
 unfold spec_l11Parts.f at h
 by_cases c1 : N.length ≤ 1048576
 ·skip
  rw [if_pos c1] at h
  obtain ⟨O, AW_, h⟩ := Sh.ba h
  obtain ⟨M, AT_, h⟩ := Sh.ba h
  by_cases c2 : M.length = N.length
  ·skip
   rw [if_pos c2] at h
   have hu58 := Try.underlying58
   have HN := am_ hr0
   have HC := am_ hc0
   have LM := am_ c1
   have ML := am_ c2
   have LQ : Aside0 (((N.length : Int)).toNat * 1 ≤ 281474976710656) := ⟨by omega⟩
   have H' := am_ h
   have HB := am_ (Below.refl w.heap.size w)
   clear h c1 c2 hr0 hc0
   go_enter Try.func28, Try.ntmps28
   go_wp2_with (first | ((with_reducible refine Sh.d 16 ?_); refine Kd.R_make Kd.bool (w0 := w) w.heap.size 4 rfl (N := 16) rfl 56 _ _ rfl (N.length : Int) rfl rfl Try.underlying56 (.bool false) 1 TJ_info4 rfl (by decide) (by decide) false (ok := fun _ => True) (okp := fun _ => True) rfl (fun _ hk => hk) trivial (Int.natCast_nonneg _) LQ.out Sh.bw (below_size Sh.bw) ?_; intro v3 w3 ho hb hg hat; rw [TJ_len1] at ho; obtain ⟨b3, hb3, _⟩ := hat; obtain ⟨gS, cS, eS⟩ := TJ_atB ho ⟨b3, hb3⟩; subst eS; rw [List.length_replicate] at ho ⊢; have HS := am_ ho; clear HB hb3 hg ho; have HB := am_ hb; clear hb) | ((with_reducible refine Sh.d 18 ?_); refine Sh.bx (N := 18) (cs := #[.slice A0 N.length c0, .slice (some ⟨gS, 0, none⟩) N.length cS, .slice none 0 0]) (t := 58) (h := ?_); intro g1 hg w4 hbox hb; have HI := am_ (show IsW (.slice A0 N.length c0) N.length w.heap.size w4 g1 gS cS (.slice none 0 0) (List.replicate N.length false) [] from ⟨hbox, by rw [hg]; exact below_size HB.out, Kd.R_below HS.out hb, Kd.R_nil _ _ _ _ _⟩); replace HB := Sh.hb hb; clear hb hbox hg HS))
   go_loopg [21] k (fun kq v21 w' => ∃ (i : Int) (vT : Value) (xS : List Bool) (xO : List Int), v21 = .int .i64 i ∧ Aside0 (spec_l11Parts.w kq N i xS xO = some O) ∧ Aside0 (kq ≤ k) ∧ Aside0 (IsW (.slice A0 N.length c0) N.length w.heap.size w' g1 gS cS vT xS xO) ∧ Aside0 (Below w.heap.size w w'))
   case atStart => exact ⟨0, _, _, _, rfl, AW_, ⟨Nat.le_refl _⟩, HI, HB⟩
   case round =>
    clear AW_ HI HB
    obtain ⟨i, vT, xS, xO, rfl, HA, HK1, HI, HB⟩ := hrel
    cases gk with
    | zero => exact absurd HA.out (by simp [spec_l11Parts.w])
    | succ k1 =>
     have H := HA.out
     clear HA
     simp only [spec_l11Parts.w] at H
     by_cases c3 : i < (N.length : Int)
     ·rw [if_pos c3] at H
      have c3b := decide_eq_true c3
      have c3t := eq_true c3
      obtain ⟨t, A_, H⟩ := Sh.ba H
      have H2 := am_ H
      clear H
      have HQ := am_ (show ∀ W1, Below wr.heap.size wr W1 → RdN (fun W' => ∃ v', KeepW g1 gS W1 vT W' v') A0 N from fun W1 hW1 => IsW.rdn HN.out HI.out HB.out hW1)
      go_wp2_with (first | (go_at_call 45; (with_reducible refine (spec_walk.calls k1 _ _ N w.heap.size g1 gS cS vT xS xO i t _ (HQ.out _ TJ_bl) (IsW.rl HI.out) A_.out).mono ?_); rintro e w9 ⟨rfl, vU, hI, hk⟩; have n1_ := am_ hI; have n2_ := am_ (IsW.kept (IsW.rl HI.out) Sh.bw hk); clear hI hk HI HB HQ; have HI := n1_; have HB := n2_; clear n1_ n2_))
      go_roundg k1
      case measure => have := HK1.out; omega
      case rel => exact ⟨_, _, _, _, rfl, H2, ⟨by have := HK1.out; omega⟩, ⟨IsW.rl HI.out⟩, ⟨Sh.bw⟩⟩
     ·rw [if_neg c3] at H
      have c3b := decide_eq_false c3
      injection H with H
      subst H
      obtain ⟨AO, cO, eO⟩ := Kd.R_slice HI.out.2.2.2
      subst eO
      go_wp2
      obtain ⟨vM, eM⟩ : ∃ v : Value, v = undef := ⟨_, rfl⟩
      obtain ⟨vS, eS⟩ : ∃ v : Value, v = undef := ⟨_, rfl⟩
      have hM := am_ (show MK7 M.length M wr wr.drew false false vM vS from ⟨below_drew1 (Below.refl _ _), by simp, by simp⟩)
      clear eM eS
      refine start_ (n := 8) (S := fun w' => True) (ds := []) (Sh.nm 8 0) (by kernel_rfl) rfl rfl trivial (fun hHeld => ?_)
      refine with_tabW spec_l11Parts.tab7 spec_l11Parts.bits7 (fun HT_ HW_ => ?_)
      refine Sh.qA 0 ?_; refine Sh.qA 2 ?_; refine Sh.qA 3 ?_
      refine join_ (σ := Value × Value) 3 (Sh.nm 8 31) (fun s => [(29, s.1), (32, s.2)]) (fun s w' => MK7 M.length M wr w' true true s.1 s.2) ?_ ?_
      rotate_left
      · intro hJ1_4
        refine join_ (σ := Value × Value) 4 (Sh.nm 8 15) (fun s => [(29, s.1)]) (fun s w' => MK7 M.length M wr w' true false s.1 s.2) ?_ ?_
        rotate_left
        · intro hJ1
          refine join_ (σ := Value × Value) 4 (Sh.nm 8 29) (fun s => [(32, s.2)]) (fun s w' => MK7 M.length M wr w' false true s.1 s.2) ?_ ?_
          rotate_left
          · intro hJ4
            refine two_ (i := 1) (j := 4) (Ni := some 29) (Nj := some 32) (Sh.nm 8 15) (Sh.nm 8 29) rfl rfl rfl rfl (two_of HT_.out (by kernel_rfl)) (by decide) (by decide) (fun K hK => ?_) (fun K hK => ?_)
            · skip
              refine goes_ Try.func37 (by kernel_rfl) rfl #[.slice A0 N.length c0] (by rfl) rfl rfl (by simp only [List.map_toArray, List.map_cons, List.map_nil]; rfl) ?_
              with_reducible refine (spec_l11Turn.calls k _ _ N M _ (Kd.C_below HN.out (below_step HB.out (MK7.b hM.out))) HC.out AT_.out).mono ?_
              rintro e w1 ⟨v1, rfl, ho, hb⟩
              refine ⟨_, rfl, ?_⟩
              have hM2 := am_ (MK7.pa hM.out hb ho)
              clear ho hb hM
              refine hK.out _ _ trivial (fun hHeld => ?_)
              clear hK K
              refine norm_ (a' := ?_) ?_ ?_
              rotate_left
              · show Act.put _ (some 29) _ = _
                simp only [Act.put, List.setIfInBounds_toArray, List.set_cons_zero, List.set_cons_succ, i64_w, i32_w]
                rfl
              exact norm_ (by first | (simp only [putAll, Act.put, List.setIfInBounds_toArray, List.set_cons_zero, List.set_cons_succ]; done) | (simp only [putAll, Act.put, List.setIfInBounds_toArray, List.set_cons_zero, List.set_cons_succ]; rfl)) (hJ1 (v1, vS) _ hM2.out)
            · skip
              refine Kd.R_make_step Kd.bool _ 4 (by rfl) rfl 56 _ _ rfl (N.length : Int) (by rfl) (by rfl) Try.underlying56 (.bool false) 1 TJ_info4 rfl (by decide) (by omega) false (ok := fun _ => True) (okp := fun _ => True) rfl (fun _ hk => hk) trivial (by omega) (by have := LM.out; omega) (Below.refl _ _) (Nat.le_refl _) ?_
              intro v1 w1 ho hb _ hat
              obtain ⟨b1, hat1, _⟩ := hat
              rw [TJ_len1, ← ML.out] at ho
              have hM2 := am_ (MK7.pb hM.out hb ho ⟨b1, hat1⟩)
              clear ho hb hat1 hM
              refine hK.out _ _ trivial (fun hHeld => ?_)
              clear hK K
              refine norm_ (a' := ?_) ?_ ?_
              rotate_left
              · show Act.put _ (some 32) _ = _
                simp only [Act.put, List.setIfInBounds_toArray, List.set_cons_zero, List.set_cons_succ, i64_w, i32_w]
                rfl
              exact norm_ (by first | (simp only [putAll, Act.put, List.setIfInBounds_toArray, List.set_cons_zero, List.set_cons_succ]; done) | (simp only [putAll, Act.put, List.setIfInBounds_toArray, List.set_cons_zero, List.set_cons_succ]; rfl)) (hJ4 (vM, v1) _ hM2.out)
          · skip
            rintro ⟨vM, vS⟩ w' hM
            have hHeld : True := trivial
            dsimp only at hM
            replace hM := am_ hM
            refine norm_ (a' := ?_) ?_ ?_
            rotate_left
            · simp only [putAll, Act.put, List.setIfInBounds_toArray, List.set_cons_zero, List.set_cons_succ]
              rfl
            refine one_ (i := 1) (N := some 29) (Sh.nm 8 31) rfl rfl (one_of HT_.out (by kernel_rfl)) (by decide) (fun K hK => ?_)
            refine goes_ Try.func37 (by kernel_rfl) rfl #[.slice A0 N.length c0] (by rfl) rfl rfl (by simp only [List.map_toArray, List.map_cons, List.map_nil]; rfl) ?_
            with_reducible refine (spec_l11Turn.calls k _ _ N M _ (Kd.C_below HN.out (below_step HB.out (MK7.b hM.out))) HC.out AT_.out).mono ?_
            rintro e w1 ⟨v1, rfl, ho, hb⟩
            refine ⟨_, rfl, ?_⟩
            have hM2 := am_ (MK7.pa hM.out hb ho)
            clear ho hb hM
            refine hK.out _ _ trivial (fun hHeld => ?_)
            clear hK K
            refine norm_ (a' := ?_) ?_ ?_
            rotate_left
            · show Act.put _ (some 29) _ = _
              simp only [Act.put, List.setIfInBounds_toArray, List.set_cons_zero, List.set_cons_succ, i64_w, i32_w]
              rfl
            exact norm_ (by first | (simp only [putAll, Act.put, List.setIfInBounds_toArray, List.set_cons_zero, List.set_cons_succ]; done) | (simp only [putAll, Act.put, List.setIfInBounds_toArray, List.set_cons_zero, List.set_cons_succ]; rfl)) (hJ1_4 (v1, vS) _ hM2.out)
        · skip
          rintro ⟨vM, vS⟩ w' hM
          have hHeld : True := trivial
          dsimp only at hM
          replace hM := am_ hM
          refine norm_ (a' := ?_) ?_ ?_
          rotate_left
          · simp only [putAll, Act.put, List.setIfInBounds_toArray, List.set_cons_zero, List.set_cons_succ]
            rfl
          refine one_ (i := 4) (N := some 32) (Sh.nm 8 31) rfl rfl (one_of HT_.out (by kernel_rfl)) (by decide) (fun K hK => ?_)
          refine Kd.R_make_step Kd.bool _ 4 (by rfl) rfl 56 _ _ rfl (N.length : Int) (by rfl) (by rfl) Try.underlying56 (.bool false) 1 TJ_info4 rfl (by decide) (by omega) false (ok := fun _ => True) (okp := fun _ => True) rfl (fun _ hk => hk) trivial (by omega) (by have := LM.out; omega) (Below.refl _ _) (Nat.le_refl _) ?_
          intro v1 w1 ho hb _ hat
          obtain ⟨b1, hat1, _⟩ := hat
          rw [TJ_len1, ← ML.out] at ho
          have hM2 := am_ (MK7.pb hM.out hb ho ⟨b1, hat1⟩)
          clear ho hb hat1 hM
          refine hK.out _ _ trivial (fun hHeld => ?_)
          clear hK K
          refine norm_ (a' := ?_) ?_ ?_
          rotate_left
          · show Act.put _ (some 32) _ = _
            simp only [Act.put, List.setIfInBounds_toArray, List.set_cons_zero, List.set_cons_succ, i64_w, i32_w]
            rfl
          exact norm_ (by first | (simp only [putAll, Act.put, List.setIfInBounds_toArray, List.set_cons_zero, List.set_cons_succ]; done) | (simp only [putAll, Act.put, List.setIfInBounds_toArray, List.set_cons_zero, List.set_cons_succ]; rfl)) (hJ1_4 (vM, v1) _ hM2.out)
      rintro ⟨vM, vS⟩ w' hM
      have hHeld : True := trivial
      dsimp only at hM
      replace hM := am_ hM
      obtain ⟨AM, cM, eM⟩ := Kd.R_slice (hM.out.2.1 rfl)
      obtain ⟨gS2, cS2, eS⟩ := TJ_atB (hM.out.2.2 rfl).2 (hM.out.2.2 rfl).1
      subst eM eS
      rw [List.length_replicate] at hM ⊢
      refine norm_ (a' := ?_) ?_ ?_
      rotate_left
      · simp only [putAll, Act.put, List.setIfInBounds_toArray, List.set_cons_zero, List.set_cons_succ]
        rfl
      refine one_ (i := 5) (N := some 33) (Sh.nm 8 63) rfl rfl (one_of HT_.out (by kernel_rfl)) (by decide) (fun K hK => ?_)
      refine value_ (w1 := ?_) (v := ?_) (by rfl) rfl ?_ ?_
      rotate_left 2
      · go_simp
        constructor
        · rfl
        · rfl
      refine hK.out _ _ trivial (fun hHeld => ?_)
      clear hK K
      refine norm_ (a' := ?_) ?_ ?_
      rotate_left
      · show Act.put _ (some 33) _ = _
        simp only [Act.put, List.setIfInBounds_toArray, List.set_cons_zero, List.set_cons_succ, i64_w, i32_w]
        rfl
      refine one_ (i := 6) (N := some 34) (Sh.nm 8 127) rfl rfl (one_of HT_.out (by kernel_rfl)) (by decide) (fun K hK => ?_)
      obtain ⟨g2, hg⟩ : ∃ g, g = w'.heap.size := ⟨_, rfl⟩
      refine value_ (w1 := w'.alloc (.cells #[.slice AM M.length cM, .slice (some ⟨gS2, 0, none⟩) M.length cS2, .slice none 0 0] 58 (0, 0))) (v := .pointer (some ⟨g2, 0, none⟩)) (by rfl) rfl (by rw [hg]; first | (go_simp; done) | (go_simp; rfl)) ?_
      have hBK := am_ (heap_alloc_new w' (.cells #[.slice AM M.length cM, .slice (some ⟨gS2, 0, none⟩) M.length cS2, .slice none 0 0] 58 (0, 0)))
      have hM3 := am_ (MK7.step hM.out (below_alloc (Below.refl _ _) (.cells #[.slice AM M.length cM, .slice (some ⟨gS2, 0, none⟩) M.length cS2, .slice none 0 0] 58 (0, 0))))
      rw [← hg] at hBK
      have hG2 := am_ (show wr.heap.size ≤ g2 ∧ gS2 < g2 from ⟨by rw [hg]; exact below_size hM.out.1, by rw [hg]; exact Kd.R_lt (hM.out.2.2 rfl).2 gS2 rfl⟩)
      clear hg hM
      generalize w'.alloc _ = w1 at hBK hM3 ⊢
      refine hK.out _ _ trivial (fun hHeld => ?_)
      clear hK K
      refine norm_ (a' := ?_) ?_ ?_
      rotate_left
      · show Act.put _ (some 34) _ = _
        simp only [Act.put, List.setIfInBounds_toArray, List.set_cons_zero, List.set_cons_succ, i64_w, i32_w]
        rfl
      refine Sh.qA 7 ?_
      refine done_ (done_of HT_.out (by kernel_rfl)) ?_
      clear hHeld
      have L8 : Aside0 (((N.length : Int)).toNat * 8 ≤ 281474976710656) := ⟨by have := LM.out; omega⟩
      go_wp2_with (first | ((with_reducible refine Sh.d 37 ?_); refine Kd.R_make (Kd.int .i64) (w0 := w1) w1.heap.size 3 rfl (N := 37) rfl 26 _ _ rfl (N.length : Int) rfl rfl Try.underlying26 (.int .i64 0) 8 info3 rfl (by decide) (by decide) 0 (ok := fun _ => True) (okp := fun _ => True) rfl (fun _ hk => hk) trivial (Int.natCast_nonneg _) L8.out TJ_bl (below_size TJ_bl) ?_; intro v8 w8 ho hb hg hat; rw [TJ_len1] at ho; obtain ⟨b8, hb8, _⟩ := hat; obtain ⟨g8, c8, e8⟩ := TJ_at ho (.inl ⟨b8, hb8⟩); subst e8; rw [List.length_replicate] at ho ⊢; have HP := am_ (IsP.mk HI.out HB.out hM3.out hBK.out hG2.out ho hb); replace HB := am_ (below_step (below_step HB.out (MK7.b hM3.out)) hb); clear hb8 hg hb ho HI hM3 hBK hG2; obtain ⟨a1_, b1_, h1_⟩ := HP.out.1; have hg1 := (TJ_b3 h1_).1.2.2; clear h1_))
      go_loopg [7] k (fun kq v7 w' => ∃ (i : Int) (vU : Value) (yS : List Bool) (yO out : List Int), v7 = .int .i64 i ∧ Aside0 (spec_l11Parts.o kq xO M i yS out = some r) ∧ Aside0 (kq ≤ k) ∧ Aside0 (IsP w w' g1 (.slice AO xO.length cO) g2 gS2 cS2 vU g8 N.length c8 AM cM xO M yS yO out) ∧ Aside0 (Below w.heap.size w w'))
      case atStart =>
       have HR_ : List.replicate M.length false = List.replicate N.length false := by rw [ML.out]
       rw [← HR_] at H'
       exact ⟨_, _, _, _, _, rfl, H', ⟨Nat.le_refl _⟩, ⟨IsP.rl HP.out⟩, ⟨Sh.bw⟩⟩
      case round =>
       clear H' HP HB hg1 a1_ b1_ HK1 c3b
       obtain ⟨i2, vU, yS, yO, out, rfl, HA, HK2, HP, HB⟩ := hrel
       cases gk with
       | zero => exact absurd HA.out (by simp [spec_l11Parts.o])
       | succ k2 =>
        have H := HA.out
        clear HA
        simp only [spec_l11Parts.o] at H
        obtain ⟨a1_, b1_, h1_⟩ := HP.out.1
        have hg1 := (TJ_b3 h1_).1.2.2
        clear h1_
        obtain ⟨⟨hcz_0, hcz_1, hcz_2⟩, hfz_2⟩ := TJ_b3 HP.out.2.2.1.1
        by_cases c4 : i2 ≥ 0
        ·rw [if_pos c4] at H
         have c4b := decide_eq_true c4
         by_cases c5 : i2 < (xO.length : Int)
         ·rw [if_pos c5] at H
          have c5b := decide_eq_true c5
          have c5t := eq_true c5
          have c4t := eq_true (show 0 ≤ i2 from c4)
          have c4u := decide_eq_true (show 0 ≤ i2 from c4)
          obtain ⟨t, A1_, H⟩ := Sh.ba H
          obtain ⟨l, A2_, H⟩ := Sh.ba H
          obtain ⟨out2, A3_, H⟩ := Sh.ba H
          rw [ML.out] at A2_
          have H' := am_ H
          clear H
          obtain ⟨ad1, e1, hx1⟩ := Kd.at_int (Kd.R_reads' HP.out.2.1).2.2 i2 c4 c5
          subst e1
          obtain ⟨ww, hww⟩ : ∃ ww, ww = rd xO i2 := ⟨_, rfl⟩
          rw [← hww] at hx1 A1_
          have HX := am_ (show ∀ W, Kd.C (Kd.int .i64) W (some ad1) xO.length xO → W.cell? (ad1.add i2.toNat) = some (.int .i64 ww) from fun W hC => by obtain ⟨ad_, e_, hx_⟩ := Kd.at_int hC i2 c4 c5; injection e_ with e_; subst e_; rw [hww]; exact hx_)
          clear hww
          go_wp2_with (first | ((with_reducible refine gate_store (t := 26) (p := 50) rfl ?_); go_loud (refine store_event (t := 26) (p := 50) (v := ?vo_w12) (w1 := (wr.setCell ⟨g2, 2, none⟩ (.slice none 0 0))) ?hg ?ho ?hn ?hr ?_; (case ho => rfl); (case hg => rfl); (case hn => rfl); (case hr => first | (go_simp; done) | (go_simp; rfl)); intro w12 hw); have n1_ := am_ (show IsP w w12 g1 (.slice (some ad1) xO.length cO) g2 gS2 cS2 (.slice none 0 0) g8 N.length c8 AM cM xO M yS [] out from (by rw [hw]; exact IsP.nil HP.out)); have n2_ := am_ (show Below w.heap.size w w12 from (by rw [hw]; exact below_set HB.out HP.out.2.2.1.2.1)); clear hw HP HB hx1 hg1 hcz_0 hcz_1 hcz_2 hfz_2; have HP := n1_; have HB := n2_; clear n1_ n2_; obtain ⟨a1_, b1_, h1_⟩ := HP.out.1; have hg1 := (TJ_b3 h1_).1.2.2; clear h1_; obtain ⟨⟨hcz_0, hcz_1, hcz_2⟩, hfz_2⟩ := TJ_b3 HP.out.2.2.1.1; have hx1 := HX.out w12 (Kd.R_reads' HP.out.2.1).2.2) | (go_at_call 45; go_loud (with_reducible refine (spec_walk.calls k2 _ _ M w.heap.size g2 gS2 cS2 (.slice none 0 0) yS [] ww t _ (IsP.rdn (IsP.rl HP.out)) (IsW.rl (IsP.w HP.out)) A1_.out).mono ?_); rintro e w13 ⟨rfl, vT, hI, hk⟩; have n1_ := am_ (IsP.walk (IsP.rl HP.out) hI hk); have n2_ := am_ (IsP.kept (IsP.rl HP.out) Sh.bw hk); clear hI hk HP HB hx1 hg1 hcz_0 hcz_1 hcz_2 hfz_2; have HP := n1_; have HB := n2_; clear n1_ n2_; obtain ⟨AT, cT, eT⟩ := Kd.R_slice HP.out.2.2.1.2.2.2; subst eT; obtain ⟨⟨hcz_0, hcz_1, hcz_2⟩, hfz_2⟩ := TJ_b3 HP.out.2.2.1.1))
          go_loopg [8, 67] k2 (fun kq v8 v67 w' => ∃ (j lj : Int), v8 = .int .i64 lj ∧ v67 = .int .i64 j ∧ Aside0 (spec_l11Parts.m kq t.2 j lj = some l) ∧ Aside0 (kq ≤ k2) ∧ Aside0 (IsP w w' g1 (.slice (some ad1) xO.length cO) g2 gS2 cS2 (.slice AT t.2.length cT) g8 N.length c8 AM cM xO M t.1 t.2 out) ∧ Aside0 (Below w.heap.size w w'))
          case atStart => exact ⟨_, _, rfl, rfl, A2_, ⟨Nat.le_refl _⟩, HP, HB⟩
          case round =>
           clear A2_ HP HB hcz_0 hcz_1 hcz_2 hfz_2
           obtain ⟨j, lj, rfl, rfl, HA, HK3, HP, HB⟩ := hrel
           obtain ⟨⟨hcz_0, hcz_1, hcz_2⟩, hfz_2⟩ := TJ_b3 HP.out.2.2.1.1
           cases gk with
           | zero => exact absurd HA.out (by simp [spec_l11Parts.m])
           | succ k3 =>
            have H := HA.out
            clear HA
            simp only [spec_l11Parts.m] at H
            by_cases c6 : j < (t.2.length : Int)
            ·rw [if_pos c6] at H
             by_cases c7 : 0 ≤ j
             ·rw [if_pos c7] at H
              have c6b := decide_eq_true c6
              have c6t := eq_true c6
              have c7b := decide_eq_true c7
              have c7t := eq_true c7
              obtain ⟨ad3, e3, hx3⟩ := Kd.at_int (Kd.R_reads' HP.out.2.2.1.2.2.2).2.2 j c7 c6
              subst e3
              obtain ⟨xx, hxx⟩ : ∃ xx, xx = rd t.2 j := ⟨_, rfl⟩
              rw [← hxx] at hx3 H
              clear hxx
              by_cases c8 : xx < lj
              ·rw [if_pos c8] at H
               have c8b := decide_eq_true c8
               have H3 := am_ H
               clear H
               go_wp2
               go_roundg k3
               case measure => have := HK3.out; omega
               case rel => exact ⟨_, _, rfl, rfl, H3, ⟨by have := HK3.out; omega⟩, ⟨IsP.rl HP.out⟩, ⟨Sh.bw⟩⟩
              ·rw [if_neg c8] at H
               have c8b := decide_eq_false c8
               have H3 := am_ H
               clear H
               go_wp2
               go_roundg k3
               case measure => have := HK3.out; omega
               case rel => exact ⟨_, _, rfl, rfl, H3, ⟨by have := HK3.out; omega⟩, ⟨IsP.rl HP.out⟩, ⟨Sh.bw⟩⟩
             ·rw [if_neg c7] at H
              exact absurd H (by simp)
            ·rw [if_neg c6] at H
             have c6b := decide_eq_false c6
             injection H with H
             subst H
             go_wp2
             go_loopg [81] k2 (fun kq v81 w' => ∃ (j : Int) (out' : List Int), v81 = .int .i64 j ∧ Aside0 (spec_l11Parts.s kq t.2 j lj out' = some out2) ∧ Aside0 (kq ≤ k2) ∧ Aside0 (IsP w w' g1 (.slice (some ad1) xO.length cO) g2 gS2 cS2 (.slice AT t.2.length cT) g8 N.length c8 AM cM xO M t.1 t.2 out') ∧ Aside0 (Below w.heap.size w w'))
             case atStart => exact ⟨_, _, rfl, A3_, ⟨Nat.le_refl _⟩, ⟨IsP.rl HP.out⟩, ⟨Sh.bw⟩⟩
             case round =>
              clear A3_ HP HB c6b c6 hcz_0 hcz_1 hcz_2 hfz_2
              obtain ⟨j, out', rfl, HA, HK4, HP, HB⟩ := hrel
              obtain ⟨⟨hcz_0, hcz_1, hcz_2⟩, hfz_2⟩ := TJ_b3 HP.out.2.2.1.1
              cases gk with
              | zero => exact absurd HA.out (by simp [spec_l11Parts.s])
              | succ k4 =>
               have H := HA.out
               clear HA
               simp only [spec_l11Parts.s] at H
               by_cases c9 : j < (t.2.length : Int)
               ·rw [if_pos c9] at H
                by_cases c10 : 0 ≤ j ∧ 0 ≤ rd t.2 j ∧ rd t.2 j < (out'.length : Int)
                ·rw [if_pos c10] at H
                 obtain ⟨p10, p11, q11⟩ := c10
                 have hl8 : out'.length = N.length := (Kd.R_reads' HP.out.2.2.2.2.1).1.symm
                 rw [hl8] at q11
                 have c9b := decide_eq_true c9
                 have c9t := eq_true c9
                 have p10b := decide_eq_true p10
                 have p10t := eq_true p10
                 obtain ⟨ad4, e4, hx4⟩ := Kd.at_int (Kd.R_reads' HP.out.2.2.1.2.2.2).2.2 j p10 c9
                 subst e4
                 obtain ⟨xx, hxx⟩ : ∃ xx, xx = rd t.2 j := ⟨_, rfl⟩
                 rw [← hxx] at hx4 H p11 q11
                 clear hxx
                 have p11b := decide_eq_true p11
                 have p11t := eq_true p11
                 have q11b := decide_eq_true q11
                 have q11t := eq_true q11
                 have hc8 : wr.cell? ⟨g8, xx.toNat, none⟩ = some (.int .i64 (rd out' xx)) := (Kd.R_celln 0 HP.out.2.2.2.2.1 xx p11 q11).1
                 have hf8 : wr.frozen? ⟨g8, xx.toNat, none⟩ = false := (Kd.R_celln 0 HP.out.2.2.2.2.1 xx p11 q11).2
                 have H3 := am_ H
                 clear H
                 go_wp2_with (first | ((with_reducible refine gate_store (t := 3) (p := 88) rfl ?_); refine store_event (t := 3) (p := 88) (v := ?vo_w24) (w1 := (wr.setCell ⟨g8, xx.toNat, none⟩ (.int .i64 lj))) ?hg ?ho ?hn ?hr ?_; (case ho => rfl); (case hg => rfl); (case hn => rfl); (case hr => first | (go_simp; done) | (go_simp; rfl)); intro w24 hw; have n1_ := am_ (show IsP w w24 g1 (.slice (some ad1) xO.length cO) g2 gS2 cS2 (.slice (some ad4) t.2.length cT) g8 N.length c8 AM cM xO M t.1 t.2 (out'.set xx.toNat lj) from (by rw [hw]; exact IsP.setOut HP.out xx lj)); have n2_ := am_ (show Below w.heap.size w w24 from (by rw [hw]; exact below_set HB.out (Kd.R_base HP.out.2.2.2.2.1 g8 rfl))); clear hw HP HB hx4 hc8 hf8 hcz_0 hcz_1 hcz_2 hfz_2; have HP := n1_; have HB := n2_; clear n1_ n2_))
                 go_roundg k4
                 case measure => have := HK4.out; omega
                 case rel => exact ⟨_, _, rfl, H3, ⟨by have := HK4.out; omega⟩, ⟨IsP.rl HP.out⟩, ⟨Sh.bw⟩⟩
                ·rw [if_neg c10] at H
                 exact absurd H (by simp)
               ·rw [if_neg c9] at H
                have c9b := decide_eq_false c9
                injection H with H
                subst H
                go_wp2
                go_roundg k2
                case measure => have := HK2.out; omega
                case rel => exact ⟨_, _, _, _, _, rfl, H', ⟨by have := HK2.out; omega⟩, ⟨IsP.rl HP.out⟩, ⟨Sh.bw⟩⟩
         ·rw [if_neg c5] at H
          exact absurd H (by simp)
        ·rw [if_neg c4] at H
         have c4b := decide_eq_false c4
         injection H with H
         subst H
         go_wp2
         exact bodyPost_ret (results_tmp rfl _ _ _) rfl ⟨.slice (some ⟨g8, 0, none⟩) N.length c8, rfl, HP.out.2.2.2.2.1, HB.out⟩
  ·rw [if_neg c2] at h
   exact absurd h (by simp)
 ·rw [if_neg c1] at h
  exact absurd h (by simp)

theorem spec_walk.mono_l : ∀ k, (∀ y0 y1 y2 y3 y4, LeO (spec_walk.l0 k y0 y1 y2 y3 y4) (spec_walk.l0 (k + 1) y0 y1 y2 y3 y4)) ∧ (∀ y0 y1 y2 y3, LeO (spec_walk.f k y0 y1 y2 y3) (spec_walk.f (k + 1) y0 y1 y2 y3))
 | 0 => ⟨fun _ _ _ _ _ r h => by simp [spec_walk.l0] at h, fun _ _ _ _ r h => by simp [spec_walk.f] at h⟩
 | k + 1 => by
  obtain ⟨ih0, ih1⟩ := spec_walk.mono_l k
  and_intros <;> intros
  all_goals (first | unfold spec_walk.l0 | unfold spec_walk.f)
  all_goals repeat' with_reducible first | apply ih0 | apply ih1 | exact LeO.refl _ | exact LeO.none _ | apply LeO.ite | refine LeO.bind ?_ fun _ => ?_
theorem spec_l11Parts.mono_w : ∀ k, (∀ y0 y1 y2 y3, LeO (spec_l11Parts.w k y0 y1 y2 y3) (spec_l11Parts.w (k + 1) y0 y1 y2 y3))
 | 0 => fun _ _ _ _ r h => by simp [spec_l11Parts.w] at h
 | k + 1 => by
  have ih0 := spec_l11Parts.mono_w k
  have ih1 := (spec_walk.mono_l k).2
  intros
  unfold spec_l11Parts.w
  repeat' with_reducible first | apply ih0 | apply ih1 | exact LeO.refl _ | exact LeO.none _ | apply LeO.ite | refine LeO.bind ?_ fun _ => ?_
theorem spec_l11Parts.mono_m : ∀ k, (∀ y0 y1 y2, LeO (spec_l11Parts.m k y0 y1 y2) (spec_l11Parts.m (k + 1) y0 y1 y2))
 | 0 => fun _ _ _ r h => by simp [spec_l11Parts.m] at h
 | k + 1 => by
  have ih0 := spec_l11Parts.mono_m k
  intros
  unfold spec_l11Parts.m
  repeat' with_reducible first | apply ih0 | exact LeO.refl _ | exact LeO.none _ | apply LeO.ite | refine LeO.bind ?_ fun _ => ?_
theorem spec_l11Parts.mono_s : ∀ k, (∀ y0 y1 y2 y3, LeO (spec_l11Parts.s k y0 y1 y2 y3) (spec_l11Parts.s (k + 1) y0 y1 y2 y3))
 | 0 => fun _ _ _ _ r h => by simp [spec_l11Parts.s] at h
 | k + 1 => by
  have ih0 := spec_l11Parts.mono_s k
  intros
  unfold spec_l11Parts.s
  repeat' with_reducible first | apply ih0 | exact LeO.refl _ | exact LeO.none _ | apply LeO.ite | refine LeO.bind ?_ fun _ => ?_
theorem spec_l11Parts.mono_o : ∀ k, (∀ y0 y1 y2 y3 y4, LeO (spec_l11Parts.o k y0 y1 y2 y3 y4) (spec_l11Parts.o (k + 1) y0 y1 y2 y3 y4))
 | 0 => fun _ _ _ _ _ r h => by simp [spec_l11Parts.o] at h
 | k + 1 => by
  have ih0 := spec_l11Parts.mono_o k
  have ih1 := (spec_walk.mono_l k).2
  have ih2 := spec_l11Parts.mono_m k
  have ih3 := spec_l11Parts.mono_s k
  intros
  unfold spec_l11Parts.o
  repeat' with_reducible first | apply ih0 | apply ih1 | apply ih2 | apply ih3 | exact LeO.refl _ | exact LeO.none _ | apply LeO.ite | refine LeO.bind ?_ fun _ => ?_
theorem spec_l11Parts.mono : ∀ a0 k, LeO (spec_l11Parts.f k a0) (spec_l11Parts.f (k + 1) a0) := by
  intro a0 k
  have ih0 := spec_l11Parts.mono_w k
  have ih1 := spec_l11Parts.mono_o k
  unfold spec_l11Parts.f
  repeat' with_reducible first | apply ih0 | apply ih1 | apply spec_l11Turn.mono | exact LeO.refl _ | exact LeO.none _ | apply LeO.ite | refine LeO.bind ?_ fun _ => ?_
theorem at_L1_kept {w : World} {S : Nat → Prop} {A : Option Addr} {xs : List (List Int)} (h : ∀ W_, Kept w W_ S → Kd.C (Kd.slice 3 (Kd.int .i64)) W_ A xs.length xs) (i : Int) (h0 : 0 ≤ i) (h1 : i < (xs.length : Int)) :
    ∃ ad A0 c0, A = some ad ∧ (rd_L1 xs i).length ≤ c0 ∧ ∀ W', Kept w W' S → W'.cell? (ad.add i.toNat) = some (.slice A0 (rd_L1 xs i).length c0) ∧ (Kd.int .i64).C W' A0 (rd_L1 xs i).length (rd_L1 xs i) := by
  obtain ⟨ad, A0, c0, e, hx, hc, hr⟩ := at_L1 (h w (Kept.refl _ _)) i h0 h1
  subst e
  have hS : ¬ S (ad.add i.toNat).block := fun hS => by
    obtain ⟨ad', A', c', e', hx', _, _⟩ := at_L1 (h _ ((Kept.refl w S).setCell (p := ad.add i.toNat) (.inl hS) (.bool false))) i h0 h1
    injection e' with e'
    subst e'
    rw [World.cell?_setCell_same (h := hx)] at hx'
    injection hx' with hx'
    cases hx'
  refine ⟨ad, A0, c0, rfl, hc, fun W' hW => ?_⟩
  obtain ⟨ad', A', c', e', hx', _, hr'⟩ := at_L1 (h W' hW) i h0 h1
  injection e' with e'
  subst e'
  have hq := (World.cell?_of_block (hW.2 _ (World.block_lt_of_cell? w _ hx) hS)).trans hx
  rw [hx'] at hq
  injection hq with hq
  injection hq with e3 _ e5
  subst e3 e5
  exact ⟨hx', hr'⟩
mutual
def spec_l11Level.l0 : Nat → List (List Int) → List Int → List Int → Int → Int → List (List Int) → Int → Int → Option (Int × List Int)
 | 0, _, _, _, _, _, _, _, _ => none
 | k + 1, x0, x1, x2, x3, x9, x24, x25, x26 => if x26 < x25 then (if 0 ≤ x26 then (if x26 < (x24.length : Int) then (if x26 < (x1.length : Int) then (if (rd x1 x26) = x3 then (spec_l11Level.l1 k x0 x1 x2 x3 x9 x24 x25 x26 (rd_L1 x24 x26) ((rd_L1 x24 x26).length : Int) 0) else (spec_l11Level.l0 k x0 x1 x2 x3 x9 x24 x25 (wrap64 (x26 + 1)))) else (none)) else (none)) else (none)) else (if 0 ≤ x3 then (if x3 < (x2.length : Int) then (some (x9, (x2.set (x3 : Int).toNat x9))) else (none)) else (none))
def spec_l11Level.l1 : Nat → List (List Int) → List Int → List Int → Int → Int → List (List Int) → Int → Int → List Int → Int → Int → Option (Int × List Int)
 | 0, _, _, _, _, _, _, _, _, _, _, _ => none
 | k + 1, x0, x1, x2, x3, x9, x24, x25, x26, x37, x38, x39 => if x39 < x38 then (if 0 ≤ x39 then (if x39 < (x37.length : Int) then (if 0 ≤ (rd x37 x39) then (if (rd x37 x39) < (x1.length : Int) then (if (rd x1 (rd x37 x39)) = x3 then (spec_l11Level.l1 k x0 x1 x2 x3 x9 x24 x25 x26 x37 x38 (wrap64 (x39 + 1))) else ((spec_l11Level.f k x0 x1 x2 (rd x1 (rd x37 x39))).bind fun bt546 => (if (wrap64 (bt546.1 + 1)) > x9 then (spec_l11Level.l1 k x0 x1 bt546.2 x3 (wrap64 (bt546.1 + 1)) x24 x25 x26 x37 x38 (wrap64 (x39 + 1))) else (spec_l11Level.l1 k x0 x1 bt546.2 x3 x9 x24 x25 x26 x37 x38 (wrap64 (x39 + 1)))))) else (none)) else (none)) else (none)) else (none)) else (spec_l11Level.l0 k x0 x1 x2 x3 x9 x24 x25 (wrap64 (x26 + 1)))
def spec_l11Level.f : Nat → List (List Int) → List Int → List Int → Int → Option (Int × List Int)
 | 0, _, _, _, _ => none
 | k + 1, l0, l1, l2, a3 => if 0 ≤ a3 then (if a3 < (l2.length : Int) then (if (rd l2 a3) ≥ 0 then (some (rd l2 a3, l2)) else (spec_l11Level.l0 k l0 l1 l2 a3 0 l0 (l0.length : Int) 0)) else (none)) else (none)
end
theorem spec_l11Level.mono_l : ∀ k, (∀ y0 y1 y2 y3, LeO (spec_l11Level.f k y0 y1 y2 y3) (spec_l11Level.f (k + 1) y0 y1 y2 y3)) ∧ (∀ y0 y1 y2 y3 y4 y5 y6 y7, LeO (spec_l11Level.l0 k y0 y1 y2 y3 y4 y5 y6 y7) (spec_l11Level.l0 (k + 1) y0 y1 y2 y3 y4 y5 y6 y7)) ∧ (∀ y0 y1 y2 y3 y4 y5 y6 y7 y8 y9 y10, LeO (spec_l11Level.l1 k y0 y1 y2 y3 y4 y5 y6 y7 y8 y9 y10) (spec_l11Level.l1 (k + 1) y0 y1 y2 y3 y4 y5 y6 y7 y8 y9 y10))
 | 0 => ⟨fun _ _ _ _ r h => by simp [spec_l11Level.f] at h, fun _ _ _ _ _ _ _ _ r h => by simp [spec_l11Level.l0] at h, fun _ _ _ _ _ _ _ _ _ _ _ r h => by simp [spec_l11Level.l1] at h⟩
 | k + 1 => by
  obtain ⟨ih0, ih1, ih2⟩ := spec_l11Level.mono_l k
  and_intros <;> intros
  all_goals (first | unfold spec_l11Level.f | unfold spec_l11Level.l0 | unfold spec_l11Level.l1)
  all_goals repeat' with_reducible first | apply ih0 | apply ih1 | apply ih2 | exact LeO.refl _ | exact LeO.none _ | apply LeO.ite | refine LeO.bind ?_ fun _ => ?_
theorem spec_l11Level.mono : ∀ a0 a1 a2 a3 k, LeO (spec_l11Level.f k a0 a1 a2 a3) (spec_l11Level.f (k + 1) a0 a1 a2 a3) := by
 intro a0 a1 a2 a3 k
 obtain ⟨ih0, ih1, ih2⟩ := spec_l11Level.mono_l k
 exact ih0 a0 a1 a2 a3
theorem spec_l11Level.calls (k : Nat) : ∀ (A0 : Option Addr) (c0 : Nat) (l0 : List (List Int)) (A1 : Option Addr) (c1 : Nat) (l1 : List Int) (P2_ : Nat → Prop) (u9000_ : Value) (l2 : List Int) (a3 : Int) (r1 : Int) (r2 : List Int) (w0 w : World) (hB : Below w0.heap.size w0 w) (hr0 : ∀ W_, Kept w W_ (fun k_ => P2_ k_) → Kd.C (Kd.slice 3 (Kd.int .i64)) W_ A0 l0.length l0) (hc0 : l0.length ≤ c0) (hr1 : ∀ W_, Kept w W_ (fun k_ => P2_ k_) → Kd.C (Kd.int .i64) W_ A1 l1.length l1) (hc1 : l1.length ≤ c1) (ho2 : Kd.R (Kd.int .i64) 3 w w0.heap.size P2_ u9000_ l2) (h : spec_l11Level.f k l0 l1 l2 a3 = some (r1, r2)),
  Calls Try.prog 48 #[.slice A0 l0.length c0, .slice A1 l1.length c1, u9000_, .int .i64 a3] w fun e w' => e = .returned (.int .i64 r1) ∧ Kd.R (Kd.int .i64) 3 w' w0.heap.size (fun k_ => (P2_ k_ ∨ w.heap.size ≤ k_)) u9000_ r2 ∧ Below w0.heap.size w0 w' ∧ Kept w w' (fun k_ => P2_ k_) := by
 induction k using Nat.strongRecOn with
 | _ k ih =>
 intro A0 c0 l0 A1 c1 l1 P2_ u9000_ l2 a3 r1 r2 w0 w hB hr0 hc0 hr1 hc1 ho2 h
 cases k with
 | zero => exact absurd h (by simp [spec_l11Level.f])
 | succ k =>
 simp only [spec_l11Level.f] at h
 have HR0 := am_ hr0
 have HC0 := am_ hc0
 clear hr0 hc0
 have HR1 := am_ hr1
 have HC1 := am_ hc1
 clear hr1 hc1
 have HO2 := am_ (show Kd.R (Kd.int .i64) 3 w w0.heap.size (fun k_ => (P2_ k_ ∨ w.heap.size ≤ k_)) u9000_ l2 from Kd.R_mono ho2 (fun k_ hk => (.inl hk)))
 have HK := am_ (Kept.refl w (fun k_ => P2_ k_))
 have HW0 := am_ hB.size
 have HB := am_ hB
 clear hB
 have H : (if 0 ≤ a3 then (if a3 < (l2.length : Int) then (if (rd l2 a3) ≥ 0 then (some (rd l2 a3, l2)) else (spec_l11Level.l0 k l0 l1 l2 a3 0 l0 (l0.length : Int) 0)) else (none)) else (none)) = some (r1, r2) := h
 clear h
 by_cases c5 : 0 ≤ a3
 ·rw [if_pos c5] at H
  have c5b0 := decide_eq_true c5
  clear c5
  by_cases c6 : a3 < (l2.length : Int)
  ·rw [if_pos c6] at H
   have c6b0 := decide_eq_true c6
   clear c6
   by_cases c7 : (rd l2 a3) ≥ 0
   ·rw [if_pos c7] at H
    have c7b0 : decide (0 ≤ (rd l2 a3)) = true := decide_eq_true c7
    clear c7
    simp only [Option.some.injEq, Prod.mk.injEq] at H
    obtain ⟨rfl, rfl⟩ := H
    obtain ⟨Ao8, co8, eo8⟩ := Kd.R_slice HO2.out
    subst eo8
    have p538 : 0 ≤ (a3 : Int) := Sh.od
    have q538 : a3 < (l2.length : Int) := Sh.od
    obtain ⟨ad538, e538, hx538_0⟩ := Kd.at_int (Kd.R_reads' HO2.out).2.2 a3 p538 q538
    cases e538
    replace p538 := eq_true p538
    replace q538 := eq_true q538
    have p539 : 0 ≤ (a3 : Int) := Sh.od
    have q539 : a3 < (l2.length : Int) := Sh.od
    obtain ⟨ad539, e539, hx539_0⟩ := Kd.at_int (Kd.R_reads' HO2.out).2.2 a3 p539 q539
    obtain rfl : ad538 = ad539 := (by injection e539)
    replace p539 := eq_true p539
    replace q539 := eq_true q539
    go_enter Try.func48, Try.ntmps48
    go_wp2
    go_ret
    exact ⟨Sh.eR, Sh.rl HO2.out, Sh.bw, by repeat (first | (with_reducible first | exact HK.out | apply Kept.alloc | apply Kept.drewN | apply Kept.drew) | exact HK.out)⟩
   ·rw [if_neg c7] at H
    have c7b0 : decide (0 ≤ (rd l2 a3)) = false := decide_eq_false c7
    clear c7
    have H' := am_ H
    clear H
    obtain ⟨Ao9, co9, eo9⟩ := Kd.R_slice HO2.out
    subst eo9
    have p538 : 0 ≤ (a3 : Int) := Sh.od
    have q538 : a3 < (l2.length : Int) := Sh.od
    obtain ⟨ad538, e538, hx538_0⟩ := Kd.at_int (Kd.R_reads' HO2.out).2.2 a3 p538 q538
    cases e538
    replace p538 := eq_true p538
    replace q538 := eq_true q538
    go_enter Try.func48, Try.ntmps48
    go_wp2
    go_loopg [9, 26] k (fun kq v9 v26 w' => ∃ (x2_1 : List Int) (x9_1 : Int) (x26_1 : Int), v9 = .int .i64 x9_1 ∧ v26 = .int .i64 x26_1 ∧ Aside0 (spec_l11Level.l0 kq l0 l1 x2_1 a3 x9_1 l0 (l0.length : Int) x26_1 = some (r1, r2)) ∧ Aside0 (kq ≤ k) ∧ Aside0 (Kd.R (Kd.int .i64) 3 w' w0.heap.size (fun k_ => (P2_ k_ ∨ w.heap.size ≤ k_)) (.slice (some ad538) l2.length co9) x2_1) ∧ Aside0 (Kept w w' (fun k_ => P2_ k_)) ∧ Aside0 (Below w0.heap.size w0 w'))
    case atStart => exact ⟨(l2), (0), (0), (Sh.es), (Sh.es), H', ⟨Nat.le_refl _⟩, ⟨Sh.rl HO2.out⟩, ⟨by repeat (first | (with_reducible first | exact HK.out | apply Kept.alloc | apply Kept.drewN | apply Kept.drew) | exact HK.out)⟩, ⟨Sh.bw⟩⟩
    case round =>
     clear H'
     try clear hx5
     try clear hx538_0
     try clear hx539_0
     obtain ⟨x2_1, x9_1, x26_1, rfl, rfl, HA, HK1, HO_2, HK, HB⟩ := hrel
     have hl2_1 := (Kd.R_reads' HO_2.out).1
     rw [hl2_1] at HO_2
     (try simp only [hl2_1])
     cases gk with
     | zero => exact absurd HA.out (by simp [spec_l11Level.l0])
     | succ k1 =>
      have H := HA.out
      clear HA
      simp only [spec_l11Level.l0] at H
      by_cases c10 : x26_1 < (l0.length : Int)
      ·rw [if_pos c10] at H
       have c10b0 := decide_eq_true c10
       clear c10
       by_cases c11 : 0 ≤ x26_1
       ·rw [if_pos c11] at H
        have c11b0 := decide_eq_true c11
        clear c11
        by_cases c12 : x26_1 < (l0.length : Int)
        ·rw [if_pos c12] at H
         have c12b0 := decide_eq_true c12
         clear c12
         by_cases c13 : x26_1 < (l1.length : Int)
         ·rw [if_pos c13] at H
          have c13b0 := decide_eq_true c13
          clear c13
          by_cases c14 : (rd l1 x26_1) = a3
          ·rw [if_pos c14] at H
           have c14b0 : ((rd l1 x26_1) == a3) = true := beq_iff_eq.mpr c14
           have c14b1 : ((rd l1 x26_1) != a3) = false := bne_eq_false_iff_eq.mpr c14
           clear c14
           have H' := am_ H
           clear H
           have p541 : 0 ≤ (x26_1 : Int) := Sh.od
           have q541 : x26_1 < (l0.length : Int) := Sh.od
           obtain ⟨ad541, A541_0, c541_0, e541, hl541_0, hKK541⟩ := at_L1_kept HR0.out x26_1 p541 q541
           have hx541_0 := (hKK541 _ HK.out).1
           have hi541_0 := (hKK541 _ HK.out).2
           replace hKK541 := am_ hKK541
           cases e541
           have HR541_0 := am_ hi541_0
           have HC541_0 := am_ hl541_0
           clear hi541_0 hl541_0
           replace p541 := eq_true p541
           replace q541 := eq_true q541
           have p542 : 0 ≤ (x26_1 : Int) := Sh.od
           have q542 : x26_1 < (l1.length : Int) := Sh.od
           obtain ⟨ad542, e542, hx542_0⟩ := Kd.at_int (Kd.C_kept_now HR1.out HK.out) x26_1 p542 q542
           cases e542
           replace p542 := eq_true p542
           replace q542 := eq_true q542
           go_wp2
           go_loopg [9, 39] k1 (fun kq v9 v39 w' => ∃ (x2_2 : List Int) (x9_2 : Int) (x39_2 : Int), v9 = .int .i64 x9_2 ∧ v39 = .int .i64 x39_2 ∧ Aside0 (spec_l11Level.l1 kq l0 l1 x2_2 a3 x9_2 l0 (l0.length : Int) x26_1 (rd_L1 l0 x26_1) ((rd_L1 l0 x26_1).length : Int) x39_2 = some (r1, r2)) ∧ Aside0 (kq ≤ k1) ∧ Aside0 (Kd.R (Kd.int .i64) 3 w' w0.heap.size (fun k_ => (P2_ k_ ∨ w.heap.size ≤ k_)) (.slice (some ad538) x2_1.length co9) x2_2) ∧ Aside0 (Kept w w' (fun k_ => P2_ k_)) ∧ Aside0 (Below w0.heap.size w0 w'))
           case atStart => exact ⟨(x2_1), (x9_1), (0), (Sh.es), (Sh.es), H', ⟨Nat.le_refl _⟩, ⟨by (try simp only [hl2_1]); (with_reducible repeat (first | apply Kd.R_alloc | apply Kd.R_drewN | apply Kd.R_drew)); exact HO_2.out⟩, ⟨by repeat (first | (with_reducible first | exact HK.out | apply Kept.alloc | apply Kept.drewN | apply Kept.drew) | exact HK.out)⟩, ⟨Sh.bw⟩⟩
           case round =>
            clear H'
            try clear hx5
            try clear hx538_0
            try clear hx539_0
            try clear hx541_0
            try clear hx542_0
            obtain ⟨x2_2, x9_2, x39_2, rfl, rfl, HA, HK2, HO_2, HK, HB⟩ := hrel
            have hl2_2 := (Kd.R_reads' HO_2.out).1
            rw [hl2_2] at HO_2
            (try simp only [hl2_2])
            cases gk with
            | zero => exact absurd HA.out (by simp [spec_l11Level.l1])
            | succ k2 =>
             have H := HA.out
             clear HA
             simp only [spec_l11Level.l1] at H
             by_cases c15 : x39_2 < ((rd_L1 l0 x26_1).length : Int)
             ·rw [if_pos c15] at H
              have c15b0 := decide_eq_true c15
              clear c15
              by_cases c16 : 0 ≤ x39_2
              ·rw [if_pos c16] at H
               have c16b0 := decide_eq_true c16
               clear c16
               by_cases c17 : x39_2 < ((rd_L1 l0 x26_1).length : Int)
               ·rw [if_pos c17] at H
                have c17b0 := decide_eq_true c17
                clear c17
                by_cases c18 : 0 ≤ (rd (rd_L1 l0 x26_1) x39_2)
                ·rw [if_pos c18] at H
                 have c18b0 := decide_eq_true c18
                 clear c18
                 by_cases c19 : (rd (rd_L1 l0 x26_1) x39_2) < (l1.length : Int)
                 ·rw [if_pos c19] at H
                  have c19b0 := decide_eq_true c19
                  clear c19
                  by_cases c20 : (rd l1 (rd (rd_L1 l0 x26_1) x39_2)) = a3
                  ·rw [if_pos c20] at H
                   have c20b0 : ((rd l1 (rd (rd_L1 l0 x26_1) x39_2)) == a3) = true := beq_iff_eq.mpr c20
                   have c20b1 : ((rd l1 (rd (rd_L1 l0 x26_1) x39_2)) != a3) = false := bne_eq_false_iff_eq.mpr c20
                   clear c20
                   have H' := am_ H
                   clear H
                   have p543 : 0 ≤ (x39_2 : Int) := Sh.od
                   have q543 : x39_2 < ((rd_L1 l0 x26_1).length : Int) := Sh.od
                   obtain ⟨ad543, e543, hx543_0⟩ := Kd.at_int (hKK541.out _ HK.out).2 x39_2 p543 q543
                   cases e543
                   try replace hx543_0 := Sh.cw hx543_0
                   replace p543 := eq_true p543
                   replace q543 := eq_true q543
                   have p544 : 0 ≤ ((rd (rd_L1 l0 x26_1) x39_2) : Int) := Sh.od
                   have q544 : (rd (rd_L1 l0 x26_1) x39_2) < (l1.length : Int) := Sh.od
                   obtain ⟨ad544, e544, hx544_0⟩ := Kd.at_int (Kd.C_kept_now HR1.out HK.out) (rd (rd_L1 l0 x26_1) x39_2) p544 q544
                   obtain rfl : ad542 = ad544 := (by injection e544)
                   replace p544 := eq_true p544
                   replace q544 := eq_true q544
                   go_wp2
                   (try simp only [← hl2_2])
                   go_roundg k2
                   case measure => have := HK1.out; have := HK2.out; omega
                   case rel => exact ⟨(x2_2), (x9_2), (wrap64 (x39_2 + 1)), (Sh.es), (Sh.es), H', ⟨by have := HK1.out; have := HK2.out; omega⟩, ⟨by (try simp only [hl2_1]); (try simp only [hl2_2]); (with_reducible repeat (first | apply Kd.R_alloc | apply Kd.R_drewN | apply Kd.R_drew)); exact HO_2.out⟩, ⟨by repeat (first | (with_reducible first | exact HK.out | apply Kept.alloc | apply Kept.drewN | apply Kept.drew) | exact HK.out)⟩, ⟨Sh.bw⟩⟩
                  ·rw [if_neg c20] at H
                   have c20b0 : ((rd l1 (rd (rd_L1 l0 x26_1) x39_2)) == a3) = false := beq_eq_false_iff_ne.mpr c20
                   have c20b1 : ((rd l1 (rd (rd_L1 l0 x26_1) x39_2)) != a3) = true := bne_iff_ne.mpr c20
                   obtain ⟨⟨t546, t547⟩, A210, H⟩ := Sh.bd H
                   have A21 := am_ A210
                   clear A210
                   by_cases c22 : (wrap64 (t546 + 1)) > x9_2
                   ·rw [if_pos c22] at H
                    have c22b0 : decide (x9_2 < (wrap64 (t546 + 1))) = true := decide_eq_true c22
                    clear c22
                    have H' := am_ H
                    clear H
                    have p543 : 0 ≤ (x39_2 : Int) := Sh.od
                    have q543 : x39_2 < ((rd_L1 l0 x26_1).length : Int) := Sh.od
                    obtain ⟨ad543, e543, hx543_0⟩ := Kd.at_int (hKK541.out _ HK.out).2 x39_2 p543 q543
                    cases e543
                    try replace hx543_0 := Sh.cw hx543_0
                    replace p543 := eq_true p543
                    replace q543 := eq_true q543
                    have p544 : 0 ≤ ((rd (rd_L1 l0 x26_1) x39_2) : Int) := Sh.od
                    have q544 : (rd (rd_L1 l0 x26_1) x39_2) < (l1.length : Int) := Sh.od
                    obtain ⟨ad544, e544, hx544_0⟩ := Kd.at_int (Kd.C_kept_now HR1.out HK.out) (rd (rd_L1 l0 x26_1) x39_2) p544 q544
                    obtain rfl : ad542 = ad544 := (by injection e544)
                    replace p544 := eq_true p544
                    replace q544 := eq_true q544
                    have p545 : 0 ≤ ((rd (rd_L1 l0 x26_1) x39_2) : Int) := Sh.od
                    have q545 : (rd (rd_L1 l0 x26_1) x39_2) < (l1.length : Int) := Sh.od
                    obtain ⟨ad545, e545, hx545_0⟩ := Kd.at_int (Kd.C_kept_now HR1.out HK.out) (rd (rd_L1 l0 x26_1) x39_2) p545 q545
                    obtain rfl : ad542 = ad545 := (by injection e545)
                    replace p545 := eq_true p545
                    replace q545 := eq_true q545
                    go_wp2_with (first | ((with_reducible refine Sh.k 48 ?_); refine Sh.gL (some 56) Try.func48 #[.slice (some ad541) l0.length c0, .slice (some ad542) l1.length c1, .slice (some ad538) x2_2.length co9, .int .i64 (rd l1 (rd (rd_L1 l0 x26_1) x39_2))] (h := ?_); (with_reducible refine (ih k2 (by have := HK1.out; have := HK2.out; omega) _ _ l0 _ _ l1 (fun k_ => some k_ = (.slice (some ad538) x2_2.length co9 : Value).ownBlock) (.slice (some ad538) x2_2.length co9) x2_2 (rd l1 (rd (rd_L1 l0 x26_1) x39_2)) t546 t547 w0 _ ?side1 ?side2 ?side3 ?side4 ?side5 ?side6 A21.out).mono ?_); (case side1 => repeat (first | (with_reducible first | exact HB.out | apply below_alloc | apply pw_below_drewN | apply below_drew1) | exact HB.out)); (case side2 => exact Kd.C_kept_call HR0.out (by repeat (first | (with_reducible first | exact HK.out | apply Kept.alloc | apply Kept.drewN | apply Kept.drew) | exact HK.out)) (fun k_ hs_ => (fun e_ => (HO_2.out.1 k_ e_.symm)) hs_)); (case side3 => exact HC0.out); (case side4 => exact Kd.C_kept_call HR1.out (by repeat (first | (with_reducible first | exact HK.out | apply Kept.alloc | apply Kept.drewN | apply Kept.drew) | exact HK.out)) (fun k_ hs_ => (fun e_ => (HO_2.out.1 k_ e_.symm)) hs_)); (case side5 => exact HC1.out); (case side6 => exact Kd.R_tight rfl HO_2.out); rintro e w23 ⟨rfl, hy0, hb, hkp⟩; refine ⟨_, rfl, ?_⟩; replace HK := am_ (Kept.then_ (S := (fun k_ => P2_ k_)) (by repeat (first | (with_reducible first | exact HK.out | apply Kept.alloc | apply Kept.drewN | apply Kept.drew) | exact HK.out)) hkp (fun k_ hs_ => (fun e_ => (HO_2.out.1 k_ e_.symm)) hs_)); replace HO_2 := am_ (Kd.R_reok rfl hy0 (fun k_ e_ => HO_2.out.1 k_ e_)); replace HB := am_ hb; (try clear hb); (try clear hkp); (try clear hy0)))
                    (try simp only [← hl2_2])
                    go_roundg k2
                    case measure => have := HK1.out; have := HK2.out; omega
                    case rel => exact ⟨(t547), (wrap64 (t546 + 1)), (wrap64 (x39_2 + 1)), (Sh.es), (Sh.es), H', ⟨by have := HK1.out; have := HK2.out; omega⟩, ⟨by (try simp only [hl2_1]); (try simp only [hl2_2]); (with_reducible repeat (first | apply Kd.R_alloc | apply Kd.R_drewN | apply Kd.R_drew)); exact HO_2.out⟩, ⟨by repeat (first | (with_reducible first | exact HK.out | apply Kept.alloc | apply Kept.drewN | apply Kept.drew) | exact HK.out)⟩, ⟨Sh.bw⟩⟩
                   ·rw [if_neg c22] at H
                    have c22b0 : decide (x9_2 < (wrap64 (t546 + 1))) = false := decide_eq_false c22
                    clear c22
                    have H' := am_ H
                    clear H
                    have p543 : 0 ≤ (x39_2 : Int) := Sh.od
                    have q543 : x39_2 < ((rd_L1 l0 x26_1).length : Int) := Sh.od
                    obtain ⟨ad543, e543, hx543_0⟩ := Kd.at_int (hKK541.out _ HK.out).2 x39_2 p543 q543
                    cases e543
                    try replace hx543_0 := Sh.cw hx543_0
                    replace p543 := eq_true p543
                    replace q543 := eq_true q543
                    have p544 : 0 ≤ ((rd (rd_L1 l0 x26_1) x39_2) : Int) := Sh.od
                    have q544 : (rd (rd_L1 l0 x26_1) x39_2) < (l1.length : Int) := Sh.od
                    obtain ⟨ad544, e544, hx544_0⟩ := Kd.at_int (Kd.C_kept_now HR1.out HK.out) (rd (rd_L1 l0 x26_1) x39_2) p544 q544
                    obtain rfl : ad542 = ad544 := (by injection e544)
                    replace p544 := eq_true p544
                    replace q544 := eq_true q544
                    have p545 : 0 ≤ ((rd (rd_L1 l0 x26_1) x39_2) : Int) := Sh.od
                    have q545 : (rd (rd_L1 l0 x26_1) x39_2) < (l1.length : Int) := Sh.od
                    obtain ⟨ad545, e545, hx545_0⟩ := Kd.at_int (Kd.C_kept_now HR1.out HK.out) (rd (rd_L1 l0 x26_1) x39_2) p545 q545
                    obtain rfl : ad542 = ad545 := (by injection e545)
                    replace p545 := eq_true p545
                    replace q545 := eq_true q545
                    go_wp2_with (first | ((with_reducible refine Sh.k 48 ?_); refine Sh.gL (some 56) Try.func48 #[.slice (some ad541) l0.length c0, .slice (some ad542) l1.length c1, .slice (some ad538) x2_2.length co9, .int .i64 (rd l1 (rd (rd_L1 l0 x26_1) x39_2))] (h := ?_); (with_reducible refine (ih k2 (by have := HK1.out; have := HK2.out; omega) _ _ l0 _ _ l1 (fun k_ => some k_ = (.slice (some ad538) x2_2.length co9 : Value).ownBlock) (.slice (some ad538) x2_2.length co9) x2_2 (rd l1 (rd (rd_L1 l0 x26_1) x39_2)) t546 t547 w0 _ ?side1 ?side2 ?side3 ?side4 ?side5 ?side6 A21.out).mono ?_); (case side1 => repeat (first | (with_reducible first | exact HB.out | apply below_alloc | apply pw_below_drewN | apply below_drew1) | exact HB.out)); (case side2 => exact Kd.C_kept_call HR0.out (by repeat (first | (with_reducible first | exact HK.out | apply Kept.alloc | apply Kept.drewN | apply Kept.drew) | exact HK.out)) (fun k_ hs_ => (fun e_ => (HO_2.out.1 k_ e_.symm)) hs_)); (case side3 => exact HC0.out); (case side4 => exact Kd.C_kept_call HR1.out (by repeat (first | (with_reducible first | exact HK.out | apply Kept.alloc | apply Kept.drewN | apply Kept.drew) | exact HK.out)) (fun k_ hs_ => (fun e_ => (HO_2.out.1 k_ e_.symm)) hs_)); (case side5 => exact HC1.out); (case side6 => exact Kd.R_tight rfl HO_2.out); rintro e w24 ⟨rfl, hy0, hb, hkp⟩; refine ⟨_, rfl, ?_⟩; replace HK := am_ (Kept.then_ (S := (fun k_ => P2_ k_)) (by repeat (first | (with_reducible first | exact HK.out | apply Kept.alloc | apply Kept.drewN | apply Kept.drew) | exact HK.out)) hkp (fun k_ hs_ => (fun e_ => (HO_2.out.1 k_ e_.symm)) hs_)); replace HO_2 := am_ (Kd.R_reok rfl hy0 (fun k_ e_ => HO_2.out.1 k_ e_)); replace HB := am_ hb; (try clear hb); (try clear hkp); (try clear hy0)))
                    (try simp only [← hl2_2])
                    go_roundg k2
                    case measure => have := HK1.out; have := HK2.out; omega
                    case rel => exact ⟨(t547), (x9_2), (wrap64 (x39_2 + 1)), (Sh.es), (Sh.es), H', ⟨by have := HK1.out; have := HK2.out; omega⟩, ⟨by (try simp only [hl2_1]); (try simp only [hl2_2]); (with_reducible repeat (first | apply Kd.R_alloc | apply Kd.R_drewN | apply Kd.R_drew)); exact HO_2.out⟩, ⟨by repeat (first | (with_reducible first | exact HK.out | apply Kept.alloc | apply Kept.drewN | apply Kept.drew) | exact HK.out)⟩, ⟨Sh.bw⟩⟩
                 ·rw [if_neg c19] at H
                  exact absurd H (by simp)
                ·rw [if_neg c18] at H
                 exact absurd H (by simp)
               ·rw [if_neg c17] at H
                exact absurd H (by simp)
              ·rw [if_neg c16] at H
               exact absurd H (by simp)
             ·rw [if_neg c15] at H
              have c15b0 := decide_eq_false c15
              (try simp only [hl2_1] at c15b0)
              (try simp only [hl2_2] at c15b0)
              clear c15
              have H' := am_ H
              clear H
              go_wp2
              (try simp only [← hl2_1, ← hl2_2])
              go_roundg k2
              case measure => have := HK1.out; have := HK2.out; omega
              case rel => exact ⟨(x2_2), (x9_2), (wrap64 (x26_1 + 1)), (Sh.es), (Sh.es), H', ⟨by have := HK1.out; have := HK2.out; omega⟩, ⟨by (try simp only [hl2_1]); (try simp only [hl2_2]); (with_reducible repeat (first | apply Kd.R_alloc | apply Kd.R_drewN | apply Kd.R_drew)); exact HO_2.out⟩, ⟨by repeat (first | (with_reducible first | exact HK.out | apply Kept.alloc | apply Kept.drewN | apply Kept.drew) | exact HK.out)⟩, ⟨Sh.bw⟩⟩
          ·rw [if_neg c14] at H
           have c14b0 : ((rd l1 x26_1) == a3) = false := beq_eq_false_iff_ne.mpr c14
           have c14b1 : ((rd l1 x26_1) != a3) = true := bne_iff_ne.mpr c14
           have H' := am_ H
           clear H
           have p541 : 0 ≤ (x26_1 : Int) := Sh.od
           have q541 : x26_1 < (l0.length : Int) := Sh.od
           obtain ⟨ad541, A541_0, c541_0, e541, hl541_0, hKK541⟩ := at_L1_kept HR0.out x26_1 p541 q541
           have hx541_0 := (hKK541 _ HK.out).1
           have hi541_0 := (hKK541 _ HK.out).2
           replace hKK541 := am_ hKK541
           cases e541
           have HR541_0 := am_ hi541_0
           have HC541_0 := am_ hl541_0
           clear hi541_0 hl541_0
           replace p541 := eq_true p541
           replace q541 := eq_true q541
           have p542 : 0 ≤ (x26_1 : Int) := Sh.od
           have q542 : x26_1 < (l1.length : Int) := Sh.od
           obtain ⟨ad542, e542, hx542_0⟩ := Kd.at_int (Kd.C_kept_now HR1.out HK.out) x26_1 p542 q542
           cases e542
           replace p542 := eq_true p542
           replace q542 := eq_true q542
           go_wp2
           (try simp only [← hl2_1])
           go_roundg k1
           case measure => have := HK1.out; omega
           case rel => exact ⟨(x2_1), (x9_1), (wrap64 (x26_1 + 1)), (Sh.es), (Sh.es), H', ⟨by have := HK1.out; omega⟩, ⟨by (try simp only [hl2_1]); (with_reducible repeat (first | apply Kd.R_alloc | apply Kd.R_drewN | apply Kd.R_drew)); exact HO_2.out⟩, ⟨by repeat (first | (with_reducible first | exact HK.out | apply Kept.alloc | apply Kept.drewN | apply Kept.drew) | exact HK.out)⟩, ⟨Sh.bw⟩⟩
         ·rw [if_neg c13] at H
          exact absurd H (by simp)
        ·rw [if_neg c12] at H
         exact absurd H (by simp)
       ·rw [if_neg c11] at H
        exact absurd H (by simp)
      ·rw [if_neg c10] at H
       have c10b0 := decide_eq_false c10
       (try simp only [hl2_1] at c10b0)
       clear c10
       by_cases c25 : 0 ≤ a3
       ·rw [if_pos c25] at H
        have c25b0 := decide_eq_true c25
        clear c25
        by_cases c26 : a3 < (x2_1.length : Int)
        ·rw [if_pos c26] at H
         have c26b0 := decide_eq_true c26
         clear c26
         obtain ⟨y540, hy540⟩ : ∃ y_ : List Int, y_ = (x2_1.set (a3 : Int).toNat x9_1) := ⟨_, rfl⟩
         replace H : (some (x9_1, y540)) = some (r1, r2) := by first | (rw [hy540]; with_reducible exact H) | (have H2_ := (Option.bind_some _ _).symm.trans H; rw [hy540]; with_reducible exact H2_) | (have H2_ := (Option.bind_some _ _).symm.trans H; with_reducible exact H2_) | with_reducible exact H | (rw [hy540]; exact H) | exact H
         have Ny540 := am_ hy540
         clear hy540
         simp only [Option.some.injEq, Prod.mk.injEq] at H
         obtain ⟨rfl, rfl⟩ := H
         have p27 : 0 ≤ (a3 : Int) := Sh.od
         have q27 : (a3 : Int) < ((x2_1.length : Int) : Int) := Sh.od
         obtain ⟨go27, co27, eo27, gb27, gl27, cl27, HG27⟩ := Kd.R_form HO_2.out (by omega)
         (first | cases eo27 | (injection eo27 with ea_ en_ ec_; (first | subst ea_ | (injection ea_ with ea_; subst ea_)); subst ec_; clear en_))
         have GB27 := am_ gb27
         have GG27 := am_ HG27
         clear gb27 gl27 HG27
         have HMgo27 := am_ (show (P2_ go27 ∨ w.heap.size ≤ go27) from (HO_2.out.1 _ rfl))
         (first | simp only [add_plain] at hx538_0 | skip)
         (first | simp only [add_plain] at hx539_0 | skip)
         obtain ⟨hx27_0, hf27_0⟩ := Kd.R_celln 0 HO_2.out (a3 : Int) p27 q27
         replace p27 := eq_true p27
         replace q27 := eq_true q27
         have HP28 := Kd.R_putg HO_2.out (a3 : Int) x9_1
         go_wp2_with (first | ((with_reducible refine gate_store (t := 3) (p := 67) rfl ?_); refine store_event (t := 3) (p := 67) (v := ?vo_w29) (w1 := (wr.setCell ⟨go27, (a3 : Int).toNat, none⟩ (.int .i64 x9_1))) ?hg ?ho ?hn ?hr ?_; (case ho => rfl); (case hg => rfl); (case hn => rfl); (case hr => first | (go_simp; done) | (go_simp; rfl)); intro w29 hw; have hg : wr.grownBy w29 (some go27) := (by rw [hw]; exact HP28.2); have hp_ : Kd.R (Kd.int .i64) 3 w29 w0.heap.size (fun k_ => (P2_ k_ ∨ w.heap.size ≤ k_)) (.slice (some ⟨go27, 0, none⟩) x2_1.length co9) y540 := (by rw [hw, Ny540.out]; exact HP28.1); clear HP28; replace HB := am_ ((by rw [hw]; exact below_set (HB.out) GB27.out : Below w0.heap.size w0 w29)); replace HK := am_ (Kept.of_grown (S := (fun k_ => P2_ k_)) hg (by repeat (first | (with_reducible first | exact HK.out | apply Kept.alloc | apply Kept.drewN | apply Kept.drew) | exact HK.out)) (fun k_ e_ => (HO_2.out.1 k_ e_))); replace HO_2 := am_ hp_; clear hg hw hp_))
         go_ret
         exact ⟨Sh.eR, (by first | exact (Sh.rl HO_2.out) | (simp only [hl2_1]; exact (Sh.rl HO_2.out))), Sh.bw, by repeat (first | (with_reducible first | exact HK.out | apply Kept.alloc | apply Kept.drewN | apply Kept.drew) | exact HK.out)⟩
        ·rw [if_neg c26] at H
         exact absurd H (by simp)
       ·rw [if_neg c25] at H
        exact absurd H (by simp)
  ·rw [if_neg c6] at H
   exact absurd H (by simp)
 ·rw [if_neg c5] at H
  exact absurd H (by simp)
mutual
def spec_l11Levels.l0 : Nat → List (List Int) → List Int → List Int → Int → Int → Option (List Int)
 | 0, _, _, _, _, _ => none
 | k + 1, x0, x3, x4, x14, x15 => if x15 < x14 then (if 0 ≤ x15 then (if x15 < (x4.length : Int) then (spec_l11Levels.l0 k x0 x3 (x4.set (x15 : Int).toNat (-1)) x14 (wrap64 (x15 + 1))) else (none)) else (none)) else (if 0 ≤ (x0.length : Int) then (if ((x0.length : Int) : Int).toNat ≤ 35184372088832 then ((some (List.replicate ((x0.length : Int) : Int).toNat 0 : List Int)).bind fun y555 => (spec_l11Levels.l1 k x0 x3 x4 y555 (y555.length : Int) 0)) else (none)) else (none))
def spec_l11Levels.l1 : Nat → List (List Int) → List Int → List Int → List Int → Int → Int → Option (List Int)
 | 0, _, _, _, _, _, _ => none
 | k + 1, x0, x3, x4, x6, x26, x27 => if x27 < x26 then (if 0 ≤ x27 then (if x27 < (x3.length : Int) then ((spec_l11Level.f k x0 x3 x4 (rd x3 x27)).bind fun bt559 => (if x27 < (x6.length : Int) then (spec_l11Levels.l1 k x0 x3 bt559.2 (x6.set (x27 : Int).toNat bt559.1) x26 (wrap64 (x27 + 1))) else (none))) else (none)) else (none)) else (some x6)
end
def spec_l11Levels.f (k : Nat) (l0 : List (List Int)) : Option (List Int) := (spec_l11Parts.f k l0).bind fun t548 => (if 0 ≤ (l0.length : Int) then (if ((l0.length : Int) : Int).toNat ≤ 35184372088832 then ((some (List.replicate ((l0.length : Int) : Int).toNat 0 : List Int)).bind fun y551 => (spec_l11Levels.l0 k l0 t548 y551 (y551.length : Int) 0)) else (none)) else (none))
theorem spec_l11Levels.mono_l : ∀ k, (∀ y0 y1 y2 y3 y4, LeO (spec_l11Levels.l0 k y0 y1 y2 y3 y4) (spec_l11Levels.l0 (k + 1) y0 y1 y2 y3 y4)) ∧ (∀ y0 y1 y2 y3 y4 y5, LeO (spec_l11Levels.l1 k y0 y1 y2 y3 y4 y5) (spec_l11Levels.l1 (k + 1) y0 y1 y2 y3 y4 y5))
 | 0 => ⟨fun _ _ _ _ _ r h => by simp [spec_l11Levels.l0] at h, fun _ _ _ _ _ _ r h => by simp [spec_l11Levels.l1] at h⟩
 | k + 1 => by
  obtain ⟨ih0, ih1⟩ := spec_l11Levels.mono_l k
  and_intros <;> intros
  all_goals (first | unfold spec_l11Levels.l0 | unfold spec_l11Levels.l1)
  all_goals repeat' with_reducible first | apply ih0 | apply ih1 | apply spec_l11Level.mono | apply spec_l11Parts.mono | exact LeO.refl _ | exact LeO.none _ | apply LeO.ite | refine LeO.bind ?_ fun _ => ?_
theorem spec_l11Levels.mono : ∀ a0 k, LeO (spec_l11Levels.f k a0) (spec_l11Levels.f (k + 1) a0) := by
 intro a0 k
 obtain ⟨ih0, ih1⟩ := spec_l11Levels.mono_l k
 unfold spec_l11Levels.f
 repeat' with_reducible first | apply ih0 | apply ih1 | apply spec_l11Level.mono | apply spec_l11Parts.mono | exact LeO.refl _ | exact LeO.none _ | apply LeO.ite | refine LeO.bind ?_ fun _ => ?_
theorem spec_l11Levels.calls (k : Nat) (A0 : Option Addr) (c0 : Nat) (l0 : List (List Int)) (r : List Int) (w : World) (hr0 : Kd.C (Kd.slice 3 (Kd.int .i64)) w A0 l0.length l0) (hc0 : l0.length ≤ c0) (h : spec_l11Levels.f k l0 = some r) :
  Calls Try.prog 31 #[.slice A0 l0.length c0] w fun e w' => ∃ v0_ : Value, e = .returned (v0_) ∧ Kd.R (Kd.int .i64) 3 w' w.heap.size (fun _ => True) v0_ r ∧ Below w.heap.size w w' := by
 have HR0 := am_ hr0
 have HC0 := am_ hc0
 clear hr0 hc0
 have HB := am_ (Below.refl w.heap.size w)
 have H := h
 clear h
 unfold spec_l11Levels.f at H
 obtain ⟨t548, A2, H⟩ := Sh.ba H
 by_cases c3 : 0 ≤ (l0.length : Int)
 ·rw [if_pos c3] at H
  have c3b0 := eq_true c3
  have c3b1 := decide_eq_true c3
  clear c3
  by_cases c4 : ((l0.length : Int) : Int).toNat ≤ 35184372088832
  ·rw [if_pos c4] at H
   have c4b0 := eq_true c4
   have c4b1 := decide_eq_true c4
   clear c4
   obtain ⟨y551, hy551⟩ : ∃ y_ : List Int, y_ = (List.replicate ((l0.length : Int) : Int).toNat 0) := ⟨_, rfl⟩
   replace H : (spec_l11Levels.l0 k l0 t548 y551 (y551.length : Int) 0) = some r := by first | (rw [hy551]; with_reducible exact H) | (have H2_ := (Option.bind_some _ _).symm.trans H; rw [hy551]; with_reducible exact H2_) | (have H2_ := (Option.bind_some _ _).symm.trans H; with_reducible exact H2_) | with_reducible exact H | (rw [hy551]; exact H) | exact H
   have Ny551 := am_ hy551
   clear hy551
   have H' := am_ H
   clear H
   go_enter Try.func31, Try.ntmps31
   go_wp2_with (first | ((with_reducible refine Sh.k 28 ?_); refine Sh.gL (some 9) Try.func28 #[.slice A0 l0.length c0] (h := ?_); (with_reducible refine (spec_l11Parts.calls k _ _ l0 t548 _ ?side1 ?side2 A2.out).mono ?_); (case side1 => repeat (first | exact HR0.out | (with_reducible first | refine Kd.C_alloc ?_ _ | refine Kd.C_drewN ?_ _ | refine Kd.C_drew ?_))); (case side2 => exact HC0.out); rintro e w5 ⟨v549, rfl, ho0, hb⟩; refine ⟨_, rfl, ?_⟩; have HO550 := am_ (Kd.R_lower ho0 (below_size Sh.bw)); replace HB := Sh.hb hb; (try clear hb); (try clear hb2); (try clear hk); (try clear hi); (try clear ho0)) | ((with_reducible refine Sh.d 12 ?_); refine Kd.R_make (Kd.int .i64) _ 3 rfl (N := 12) rfl 26 _ _ rfl (l0.length : Int) rfl rfl Try.underlying26 (.int .i64 0) 8 info3 rfl (by decide) (by omega) 0 (ok := fun _ => True) (okp := fun _ => True) rfl (fun _ hk => hk) trivial (of_decide_eq_true (by first | (with_reducible assumption) | assumption)) (Nat.le_trans (Nat.mul_le_mul_right _ (of_decide_eq_true (by first | (with_reducible assumption) | assumption) : (l0.length : Int).toNat ≤ 35184372088832)) (by omega)) (Below.refl _ _) (Nat.le_refl _) ?_; intro v552 w6 ho7 hb hg_ hnew_; clear hg_ hnew_; (first | rw [← Ny551.out] at ho7 | (simp only [Int.reduceToNat] at ho7; rw [← Ny551.out] at ho7)); have HO553 := am_ (Kd.R_lower (Kd.R_new' ho7 (Kd.R_lt (Sh.rl HO550.out))) (below_size Sh.bw)); replace HO550 := am_ (Kd.R_elder' (Sh.rl HO550.out) (Kd.R_base ho7) hb); replace HB := Sh.hb hb; clear hb ho7; obtain ⟨Ao8, co8, eo8⟩ := Kd.R_slice HO553.out; subst eo8))
   go_loopg [15] k (fun kq v15 w' => ∃ (x4_1 : List Int) (x15_1 : Int), v15 = .int .i64 x15_1 ∧ Aside0 (spec_l11Levels.l0 kq l0 t548 x4_1 (y551.length : Int) x15_1 = some r) ∧ Aside0 (kq ≤ k) ∧ Aside0 (Kd.R (Kd.int .i64) 3 w' w.heap.size (fun k_ => some k_ ≠ ((.slice Ao8 y551.length co8) : Value).ownBlock) v549 t548) ∧ Aside0 (Kd.R (Kd.int .i64) 3 w' w.heap.size (fun k_ => some k_ ≠ (v549 : Value).ownBlock) (.slice Ao8 y551.length co8) x4_1) ∧ Aside0 (Below w.heap.size w w'))
   case atStart => exact ⟨(y551), (0), (Sh.es), H', ⟨Nat.le_refl _⟩, ⟨Sh.rl (Kd.R_mono HO550.out (fun _ hk => hk.2))⟩, ⟨Sh.rl (Kd.R_mono HO553.out (fun _ hk => hk.2))⟩, ⟨Sh.bw⟩⟩
   case round =>
    clear H'
    obtain ⟨x4_1, x15_1, rfl, HA, HK1, HO_3, HO_4, HB⟩ := hrel
    have hl4_1 := (Kd.R_reads' HO_4.out).1
    rw [hl4_1] at HO_4
    (try simp only [hl4_1])
    (try simp only [hl4_1] at HO_3)
    cases gk with
    | zero => exact absurd HA.out (by simp [spec_l11Levels.l0])
    | succ k1 =>
     have H := HA.out
     clear HA
     simp only [spec_l11Levels.l0] at H
     by_cases c9 : x15_1 < (y551.length : Int)
     ·rw [if_pos c9] at H
      have c9b0 := decide_eq_true c9
      clear c9
      by_cases c10 : 0 ≤ x15_1
      ·rw [if_pos c10] at H
       have c10b0 := decide_eq_true c10
       clear c10
       by_cases c11 : x15_1 < (x4_1.length : Int)
       ·rw [if_pos c11] at H
        have c11b0 := decide_eq_true c11
        clear c11
        obtain ⟨y554, hy554⟩ : ∃ y_ : List Int, y_ = (x4_1.set (x15_1 : Int).toNat (-1)) := ⟨_, rfl⟩
        replace H : (spec_l11Levels.l0 k1 l0 t548 y554 (y551.length : Int) (wrap64 (x15_1 + 1))) = some r := by first | (rw [hy554]; with_reducible exact H) | (have H2_ := (Option.bind_some _ _).symm.trans H; rw [hy554]; with_reducible exact H2_) | (have H2_ := (Option.bind_some _ _).symm.trans H; with_reducible exact H2_) | with_reducible exact H | (rw [hy554]; exact H) | exact H
        have Ny554 := am_ hy554
        clear hy554
        have H' := am_ H
        clear H
        have p12 : 0 ≤ (x15_1 : Int) := Sh.od
        have q12 : (x15_1 : Int) < ((x4_1.length : Int) : Int) := Sh.od
        obtain ⟨go12, co12, eo12, gb12, gl12, cl12, HG12⟩ := Kd.R_form HO_4.out (by omega)
        (first | cases eo12 | (injection eo12 with ea_ en_ ec_; (first | subst ea_ | (injection ea_ with ea_; subst ea_)); subst ec_; clear en_))
        have GB12 := am_ gb12
        have GG12 := am_ HG12
        clear gb12 gl12 HG12
        obtain ⟨hx12_0, hf12_0⟩ := Kd.R_celln 0 HO_4.out (x15_1 : Int) p12 q12
        replace p12 := eq_true p12
        replace q12 := eq_true q12
        have HP13 := Kd.R_putg HO_4.out (x15_1 : Int) (-1)
        go_wp2_with (first | ((with_reducible refine gate_store (t := 3) (p := 20) rfl ?_); refine store_event (t := 3) (p := 20) (v := ?vo_w14) (w1 := (wr.setCell ⟨go12, (x15_1 : Int).toNat, none⟩ (.int .i64 (-1)))) ?hg ?ho ?hn ?hr ?_; (case ho => rfl); (case hg => rfl); (case hn => rfl); (case hr => first | (go_simp; done) | (go_simp; rfl)); intro w14 hw; have hg : wr.grownBy w14 (some go12) := (by rw [hw]; exact HP13.2); have hp_ : Kd.R (Kd.int .i64) 3 w14 w.heap.size (fun k_ => some k_ ≠ (v549 : Value).ownBlock) (.slice (some ⟨go12, 0, none⟩) x4_1.length co8) y554 := (by rw [hw, Ny554.out]; exact HP13.1); clear HP13; replace HO_3 := am_ (Kd.R_after (v := (.slice (some ⟨go12, 0, none⟩) x4_1.length co8)) (v1 := (.slice (some ⟨go12, 0, none⟩) x4_1.length co8)) (ok := (fun _ => True)) (Sh.rl (Kd.R_mono HO_3.out (fun _ hk => ⟨trivial, hk⟩))) hg (.inl rfl)); replace HO_4 := am_ hp_; replace HB := am_ ((by rw [hw]; exact below_set (HB.out) GB12.out : Below w.heap.size w w14)); clear hg hw hp_))
        (try simp only [← hl4_1])
        go_roundg k1
        case measure => have := HK1.out; omega
        case rel => exact ⟨(y554), (wrap64 (x15_1 + 1)), (Sh.es), H', ⟨by have := HK1.out; omega⟩, ⟨by (try simp only [hl4_1]); (with_reducible repeat (first | apply Kd.R_alloc | apply Kd.R_drewN | apply Kd.R_drew)); exact Kd.R_mono HO_3.out (fun _ hk => hk.2)⟩, ⟨by (try simp only [hl4_1]); (with_reducible repeat (first | apply Kd.R_alloc | apply Kd.R_drewN | apply Kd.R_drew)); exact HO_4.out⟩, ⟨Sh.bw⟩⟩
       ·rw [if_neg c11] at H
        exact absurd H (by simp)
      ·rw [if_neg c10] at H
       exact absurd H (by simp)
     ·rw [if_neg c9] at H
      have c9b0 := decide_eq_false c9
      (try simp only [hl4_1] at c9b0)
      clear c9
      by_cases c15 : 0 ≤ (l0.length : Int)
      ·rw [if_pos c15] at H
       have c15b0 := eq_true c15
       have c15b1 := decide_eq_true c15
       clear c15
       by_cases c16 : ((l0.length : Int) : Int).toNat ≤ 35184372088832
       ·rw [if_pos c16] at H
        have c16b0 := eq_true c16
        have c16b1 := decide_eq_true c16
        clear c16
        obtain ⟨y555, hy555⟩ : ∃ y_ : List Int, y_ = (List.replicate ((l0.length : Int) : Int).toNat 0) := ⟨_, rfl⟩
        replace H : (spec_l11Levels.l1 k1 l0 t548 x4_1 y555 (y555.length : Int) 0) = some r := by first | (rw [hy555]; with_reducible exact H) | (have H2_ := (Option.bind_some _ _).symm.trans H; rw [hy555]; with_reducible exact H2_) | (have H2_ := (Option.bind_some _ _).symm.trans H; with_reducible exact H2_) | with_reducible exact H | (rw [hy555]; exact H) | exact H
        have Ny555 := am_ hy555
        clear hy555
        have H' := am_ H
        clear H
        go_wp2_with (first | ((with_reducible refine Sh.d 24 ?_); refine Kd.R_make (Kd.int .i64) _ 3 rfl (N := 24) rfl 26 _ _ rfl (l0.length : Int) rfl rfl Try.underlying26 (.int .i64 0) 8 info3 rfl (by decide) (by omega) 0 (ok := fun _ => True) (okp := fun _ => True) rfl (fun _ hk => hk) trivial (of_decide_eq_true (by first | (with_reducible assumption) | assumption)) (Nat.le_trans (Nat.mul_le_mul_right _ (of_decide_eq_true (by first | (with_reducible assumption) | assumption) : (l0.length : Int).toNat ≤ 35184372088832)) (by omega)) (Below.refl _ _) (Nat.le_refl _) ?_; intro v556 w17 ho18 hb hg_ hnew_; clear hg_ hnew_; (first | rw [← Ny555.out] at ho18 | (simp only [Int.reduceToNat] at ho18; rw [← Ny555.out] at ho18)); have HO557 := am_ (Kd.R_lower (Kd.R_new' (Kd.R_new' ho18 (Kd.R_lt (Sh.rl HO_3.out))) (Kd.R_lt (Sh.rl HO_4.out))) (below_size Sh.bw)); replace HO_3 := am_ (Kd.R_elder' (Sh.rl HO_3.out) (Kd.R_base ho18) hb); replace HO_4 := am_ (Kd.R_elder' (Sh.rl HO_4.out) (Kd.R_base ho18) hb); replace HB := Sh.hb hb; clear hb ho18; obtain ⟨Ao19, co19, eo19⟩ := Kd.R_slice HO557.out; subst eo19))
        go_loopg [27] k1 (fun kq v27 w' => ∃ (x4_2 : List Int) (x6_2 : List Int) (x27_2 : Int), v27 = .int .i64 x27_2 ∧ Aside0 (spec_l11Levels.l1 kq l0 t548 x4_2 x6_2 (y555.length : Int) x27_2 = some r) ∧ Aside0 (kq ≤ k1) ∧ Aside0 (Kd.R (Kd.int .i64) 3 w' w.heap.size (fun k_ => some k_ ≠ ((.slice Ao8 x4_1.length co8) : Value).ownBlock ∧ some k_ ≠ ((.slice Ao19 y555.length co19) : Value).ownBlock) v549 t548) ∧ Aside0 (Kd.R (Kd.int .i64) 3 w' w.heap.size (fun k_ => some k_ ≠ (v549 : Value).ownBlock ∧ some k_ ≠ ((.slice Ao19 y555.length co19) : Value).ownBlock) (.slice Ao8 x4_1.length co8) x4_2) ∧ Aside0 (Kd.R (Kd.int .i64) 3 w' w.heap.size (fun k_ => some k_ ≠ (v549 : Value).ownBlock ∧ some k_ ≠ ((.slice Ao8 x4_1.length co8) : Value).ownBlock) (.slice Ao19 y555.length co19) x6_2) ∧ Aside0 (Below w.heap.size w w'))
        case atStart => exact ⟨(x4_1), (y555), (0), (Sh.es), H', ⟨Nat.le_refl _⟩, ⟨by (try simp only [hl4_1]); (with_reducible repeat (first | apply Kd.R_alloc | apply Kd.R_drewN | apply Kd.R_drew)); exact HO_3.out⟩, ⟨by (try simp only [hl4_1]); (with_reducible repeat (first | apply Kd.R_alloc | apply Kd.R_drewN | apply Kd.R_drew)); exact HO_4.out⟩, ⟨by (try simp only [hl4_1]); (with_reducible repeat (first | apply Kd.R_alloc | apply Kd.R_drewN | apply Kd.R_drew)); exact Kd.R_mono HO557.out (fun _ h => ⟨h.1.2, h.2⟩)⟩, ⟨Sh.bw⟩⟩
        case round =>
         clear H'
         try clear hx1
         try clear hf1
         try clear hx12
         try clear hf12
         try clear hx12_0
         obtain ⟨x4_2, x6_2, x27_2, rfl, HA, HK2, HO_3, HO_4, HO_6, HB⟩ := hrel
         have hl4_2 := (Kd.R_reads' HO_4.out).1
         rw [hl4_2] at HO_4
         (try simp only [hl4_2])
         (try simp only [hl4_2] at HO_3)
         (try simp only [hl4_2] at HO_6)
         have hl6_2 := (Kd.R_reads' HO_6.out).1
         rw [hl6_2] at HO_6
         (try simp only [hl6_2])
         (try simp only [hl6_2] at HO_3)
         (try simp only [hl6_2] at HO_4)
         cases gk with
         | zero => exact absurd HA.out (by simp [spec_l11Levels.l1])
         | succ k2 =>
          have H := HA.out
          clear HA
          simp only [spec_l11Levels.l1] at H
          by_cases c20 : x27_2 < (y555.length : Int)
          ·rw [if_pos c20] at H
           have c20b0 := decide_eq_true c20
           clear c20
           by_cases c21 : 0 ≤ x27_2
           ·rw [if_pos c21] at H
            have c21b0 := decide_eq_true c21
            clear c21
            by_cases c22 : x27_2 < (t548.length : Int)
            ·rw [if_pos c22] at H
             have c22b0 := decide_eq_true c22
             clear c22
             obtain ⟨⟨t559, t560⟩, A230, H⟩ := Sh.bd H
             have A23 := am_ A230
             clear A230
             by_cases c24 : x27_2 < (x6_2.length : Int)
             ·rw [if_pos c24] at H
              have c24b0 := decide_eq_true c24
              clear c24
              obtain ⟨y561, hy561⟩ : ∃ y_ : List Int, y_ = (x6_2.set (x27_2 : Int).toNat t559) := ⟨_, rfl⟩
              replace H : (spec_l11Levels.l1 k2 l0 t548 t560 y561 (y555.length : Int) (wrap64 (x27_2 + 1))) = some r := by first | (rw [hy561]; with_reducible exact H) | (have H2_ := (Option.bind_some _ _).symm.trans H; rw [hy561]; with_reducible exact H2_) | (have H2_ := (Option.bind_some _ _).symm.trans H; with_reducible exact H2_) | with_reducible exact H | (rw [hy561]; exact H) | exact H
              have Ny561 := am_ hy561
              clear hy561
              have H' := am_ H
              clear H
              obtain ⟨Ao26, co26, eo26⟩ := Kd.R_slice HO_3.out
              subst eo26
              have p558 : 0 ≤ (x27_2 : Int) := Sh.od
              have q558 : x27_2 < (t548.length : Int) := Sh.od
              obtain ⟨ad558, e558, hx558_0⟩ := Kd.at_int (Kd.R_reads' HO_3.out).2.2 x27_2 p558 q558
              cases e558
              replace p558 := eq_true p558
              replace q558 := eq_true q558
              go_wp2_with (first | ((with_reducible refine Sh.k 48 ?_); refine Sh.gL (some 39) Try.func48 #[.slice A0 l0.length c0, .slice (some ad558) t548.length co26, .slice Ao8 x4_2.length co8, .int .i64 (rd t548 x27_2)] (h := ?_); (with_reducible refine (spec_l11Level.calls k2 _ _ l0 _ _ t548 (fun k_ => some k_ = (.slice Ao8 x4_2.length co8 : Value).ownBlock) (.slice Ao8 x4_2.length co8) x4_2 (rd t548 x27_2) t559 t560 w _ ?side1 ?side2 ?side3 ?side4 ?side5 ?side6 A23.out).mono ?_); (case side1 => repeat (first | (with_reducible first | exact HB.out | apply below_alloc | apply pw_below_drewN | apply below_drew1) | exact HB.out)); (case side2 => exact Kd.C_kept_came (Kd.heap_slice 3 (Kd.heap_int .i64)) HR0.out Sh.bw (fun k_ hs_ => (fun e_ => Kd.R_base HO_4.out k_ e_.symm) hs_)); (case side3 => exact HC0.out); (case side4 => exact Kd.C_kept_own (HO_3.out) (fun k_ hk_ hs_ => (hk_.1) hs_)); (case side5 => exact (Kd.R_reads' HO_3.out).2.1); (case side6 => exact Kd.R_tight rfl HO_4.out); rintro e w27 ⟨rfl, hy0, hb, hkp⟩; refine ⟨_, rfl, ?_⟩; replace HO_3 := am_ (Kd.R_mono (ok' := fun k_ => some k_ ≠ (.slice Ao8 x4_2.length co8 : Value).ownBlock ∧ some k_ ≠ (.slice Ao19 x6_2.length co19 : Value).ownBlock) (Kd.R_keptB (HO_3.out) hkp (fun k_ hk_ hs_ => (hk_.1) hs_)) (fun k_ h => ⟨h.1.1, h.1.2⟩)); replace HO_4 := am_ (Kd.R_reok rfl hy0 (fun k_ e_ => HO_4.out.1 k_ e_)); replace HO_6 := am_ (Kd.R_mono (ok' := fun k_ => some k_ ≠ (.slice (some ad558) t548.length co26 : Value).ownBlock ∧ some k_ ≠ (.slice Ao8 x4_2.length co8 : Value).ownBlock) (Kd.R_keptB (HO_6.out) hkp (fun k_ hk_ hs_ => (hk_.2) hs_)) (fun k_ h => ⟨h.1.1, h.1.2⟩)); replace HB := am_ hb; (try clear hb); (try clear hkp); (try clear hy0); have p25 : 0 ≤ (x27_2 : Int) := Sh.od; have q25 : (x27_2 : Int) < ((x6_2.length : Int) : Int) := Sh.od; obtain ⟨go25, co25, eo25, gb25, gl25, cl25, HG25⟩ := Kd.R_form HO_6.out (by omega); (first | cases eo25 | (injection eo25 with ea_ en_ ec_; (first | subst ea_ | (injection ea_ with ea_; subst ea_)); subst ec_; clear en_)); have GB25 := am_ gb25; have GG25 := am_ HG25; clear gb25 gl25 HG25; obtain ⟨hx25_0, hf25_0⟩ := Kd.R_celln 0 HO_6.out (x27_2 : Int) p25 q25; replace p25 := eq_true p25; replace q25 := eq_true q25; obtain ⟨hy28_, hz28_⟩ := Kd.R_celln 0 HO_6.out (x27_2 : Int) (of_decide_eq_true (by first | (with_reducible assumption) | assumption)) (of_decide_eq_true (by first | (with_reducible assumption) | assumption)); have HP28 := Kd.R_putg HO_6.out (x27_2 : Int) t559) | ((with_reducible refine gate_store (t := 3) (p := 40) rfl ?_); refine store_event (t := 3) (p := 40) (v := ?vo_w29) (w1 := (w27.setCell ⟨go25, (x27_2 : Int).toNat, none⟩ (.int .i64 t559))) ?hg ?ho ?hn ?hr ?_; (case ho => rfl); (case hg => rfl); (case hn => rfl); (case hr => first | (go_simp; done) | (go_simp; rfl)); intro w29 hw; have hg : w27.grownBy w29 (some go25) := (by rw [hw]; exact HP28.2); have hp_ : Kd.R (Kd.int .i64) 3 w29 w.heap.size (fun k_ => some k_ ≠ (.slice (some ad558) t548.length co26 : Value).ownBlock ∧ some k_ ≠ (.slice Ao8 x4_2.length co8 : Value).ownBlock) (.slice (some ⟨go25, 0, none⟩) x6_2.length co19) y561 := (by rw [hw, Ny561.out]; exact HP28.1); clear HP28; replace HO_3 := am_ (Kd.R_after (v := (.slice (some ⟨go25, 0, none⟩) x6_2.length co19)) (v1 := (.slice (some ⟨go25, 0, none⟩) x6_2.length co19)) (ok := (fun k_ => some k_ ≠ (.slice Ao8 x4_2.length co8 : Value).ownBlock)) (Sh.rl HO_3.out) hg (.inl rfl)); replace HO_4 := am_ (Kd.R_after (v := (.slice (some ⟨go25, 0, none⟩) x6_2.length co19)) (v1 := (.slice (some ⟨go25, 0, none⟩) x6_2.length co19)) (ok := (fun k_ => some k_ ≠ (.slice (some ad558) t548.length co26 : Value).ownBlock)) (Sh.rl HO_4.out) hg (.inl rfl)); replace HO_6 := am_ hp_; replace HB := am_ ((by rw [hw]; exact below_set (HB.out) GB25.out : Below w.heap.size w w29)); clear hg hw hp_))
              (try simp only [← hl4_2, ← hl6_2])
              go_roundg k2
              case measure => have := HK1.out; have := HK2.out; omega
              case rel => exact ⟨(t560), (y561), (wrap64 (x27_2 + 1)), (Sh.es), H', ⟨by have := HK1.out; have := HK2.out; omega⟩, ⟨by (try simp only [hl4_1]); (try simp only [hl4_2]); (try simp only [hl6_2]); (with_reducible repeat (first | apply Kd.R_alloc | apply Kd.R_drewN | apply Kd.R_drew)); exact HO_3.out⟩, ⟨by (try simp only [hl4_1]); (try simp only [hl4_2]); (try simp only [hl6_2]); (with_reducible repeat (first | apply Kd.R_alloc | apply Kd.R_drewN | apply Kd.R_drew)); exact HO_4.out⟩, ⟨by (try simp only [hl4_1]); (try simp only [hl4_2]); (try simp only [hl6_2]); (with_reducible repeat (first | apply Kd.R_alloc | apply Kd.R_drewN | apply Kd.R_drew)); exact HO_6.out⟩, ⟨Sh.bw⟩⟩
             ·rw [if_neg c24] at H
              exact absurd H (by simp)
            ·rw [if_neg c22] at H
             exact absurd H (by simp)
           ·rw [if_neg c21] at H
            exact absurd H (by simp)
          ·rw [if_neg c20] at H
           have c20b0 := decide_eq_false c20
           (try simp only [hl4_1] at c20b0)
           (try simp only [hl4_2] at c20b0)
           (try simp only [hl6_2] at c20b0)
           clear c20
           obtain rfl := Option.some.inj H
           go_wp2
           go_ret
           exact ⟨_, Sh.eR, Sh.rl (Kd.R_mono HO_6.out (fun _ hk => trivial)), Sh.bw⟩
       ·rw [if_neg c16] at H
        exact absurd H (by simp)
      ·rw [if_neg c15] at H
       exact absurd H (by simp)
  ·rw [if_neg c4] at H
   exact absurd H (by simp)
 ·rw [if_neg c3] at H
  exact absurd H (by simp)
def spec_LevelsOf.f (k : Nat) (l0_0 : List (List Int)) : Option (List Int × Bool) := (spec_GoodGraph.f k l0_0).bind fun t563 => (if t563 = true then ((spec_l11Levels.f k l0_0).bind fun t564 => (some (t564, true))) else (some (([] : List Int), false)))
theorem spec_LevelsOf.mono : ∀ a0 k, LeO (spec_LevelsOf.f k a0) (spec_LevelsOf.f (k + 1) a0) := by
 intro a0 k
 unfold spec_LevelsOf.f
 repeat' with_reducible first | apply spec_GoodGraph.mono | apply spec_l11Levels.mono | exact LeO.refl _ | exact LeO.none _ | apply LeO.ite | refine LeO.bind ?_ fun _ => ?_
theorem spec_LevelsOf.calls (k : Nat) (A0_0 : Option Addr) (c0_0 : Nat) (l0_0 : List (List Int)) (r1 : List Int) (r2 : Bool) (w : World) (hr0_0 : Kd.C (Kd.slice 3 (Kd.int .i64)) w A0_0 l0_0.length l0_0) (hc0_0 : l0_0.length ≤ c0_0) (h : spec_LevelsOf.f k l0_0 = some (r1, r2)) :
  Calls Try.prog 16 #[.agg #[.slice A0_0 l0_0.length c0_0]] w fun e w' => ∃ v0_ : Value, e = .returned (.tuple #[v0_, .bool r2]) ∧ Kd.R (Kd.int .i64) 3 w' w.heap.size (fun _ => True) v0_ r1 ∧ Below w.heap.size w w' := by
 have hu29 := Try.underlying29
 have HR0_0 := am_ hr0_0
 have HC0_0 := am_ hc0_0
 clear hr0_0 hc0_0
 have HB := am_ (Below.refl w.heap.size w)
 have H := h
 clear h
 unfold spec_LevelsOf.f at H
 obtain ⟨t563, A2, H⟩ := Sh.ba H
 by_cases c3 : t563 = true
 ·subst c3
  rw [if_pos rfl] at H
  obtain ⟨t564, A4, H⟩ := Sh.ba H
  simp only [Option.some.injEq, Prod.mk.injEq] at H
  obtain ⟨rfl, rfl⟩ := H
  go_enter Try.func16, Try.ntmps16
  go_wp2_with (first | ((with_reducible refine Sh.d 1 ?_); refine Sh.bz w (N := 1) (cs := #[.slice A0_0 l0_0.length c0_0]) (t := 29) (h := ?_); clear HB; intro gb562 w5 BK562 GE562 HB; have hcz6_0 := Sh.bc BK562.out 0; have hfz6_0 := blk_frozen BK562.out 0) | ((with_reducible refine Sh.k 27 ?_); refine Sh.gB (some 5) Try.func27 #[.agg #[.slice A0_0 l0_0.length c0_0]] (spec_GoodGraph.calls k _ _ l0_0 true _ (Sh.cB HR0_0.out) HC0_0.out A2.out) fun w7 hb => ?_; replace BK562 := Sh.ab BK562 hb; replace HB := Sh.hb hb; (try clear hb); (try clear hb2); (try clear hk); (try clear hi); have hcz8_0 := Sh.bc BK562.out 0; have hfz8_0 := blk_frozen BK562.out 0) | ((with_reducible refine Sh.k 31 ?_); refine Sh.gL (some 9) Try.func31 #[.slice A0_0 l0_0.length c0_0] (h := ?_); (with_reducible refine (spec_l11Levels.calls k _ _ l0_0 t564 _ (Sh.cB HR0_0.out) HC0_0.out A4.out).mono ?_); rintro e w9 ⟨v565, rfl, ho0, hb⟩; refine ⟨_, rfl, ?_⟩; have HO566 := am_ (Kd.R_lower ho0 (below_size Sh.bw)); replace BK562 := Sh.ab BK562 hb; replace HB := Sh.hb hb; (try clear hb); (try clear hb2); (try clear hk); (try clear hi); (try clear ho0)))
  go_ret2
  exact ⟨_, Sh.eR, Sh.rl HO566.out, Sh.bw⟩
 ·replace c3 := Bool.eq_false_iff.mpr c3
  subst c3
  rw [Sh.nf] at H
  simp only [Option.some.injEq, Prod.mk.injEq] at H
  obtain ⟨rfl, rfl⟩ := H
  go_enter Try.func16, Try.ntmps16
  go_wp2_with (first | ((with_reducible refine Sh.d 1 ?_); refine Sh.bz w (N := 1) (cs := #[.slice A0_0 l0_0.length c0_0]) (t := 29) (h := ?_); clear HB; intro gb562 w10 BK562 GE562 HB; have hcz11_0 := Sh.bc BK562.out 0; have hfz11_0 := blk_frozen BK562.out 0) | ((with_reducible refine Sh.k 27 ?_); refine Sh.gB (some 5) Try.func27 #[.agg #[.slice A0_0 l0_0.length c0_0]] (spec_GoodGraph.calls k _ _ l0_0 false _ (Sh.cB HR0_0.out) HC0_0.out A2.out) fun w12 hb => ?_; replace BK562 := Sh.ab BK562 hb; replace HB := Sh.hb hb; (try clear hb); (try clear hb2); (try clear hk); (try clear hi)))
  go_ret2
  exact ⟨_, Sh.eR, by first | exact Kd.R_nil _ _ _ _ _ | exact Kd.N_nil _ _ _ _ _ | exact Kd.V_nil _ _ _ _ _ | exact Kd.Q_nil _ _ _ _ _ | exact Kd.S_nil _ _ _ _ _, Sh.bw⟩
def impl_isIncreasing.l0 : Nat → List Int → Int → List Int → Int → Int → Option (Bool)
 | 0, _, _, _, _, _ => none
 | k + 1, x0, x1, x7, x8, x9 => if x9 < x8 then (if 0 ≤ x9 then (if x9 < (x7.length : Int) then (if (rd x7 x9) < 0 then (some false) else (if (rd x7 x9) ≥ x1 then (some false) else (if x9 > 0 then (if 0 ≤ (wrap64 (x9 - 1)) then (if (wrap64 (x9 - 1)) < (x0.length : Int) then (if (rd x0 (wrap64 (x9 - 1))) ≥ (rd x7 x9) then (some false) else (impl_isIncreasing.l0 k x0 x1 x7 x8 (wrap64 (x9 + 1)))) else (none)) else (none)) else (impl_isIncreasing.l0 k x0 x1 x7 x8 (wrap64 (x9 + 1)))))) else (none)) else (none)) else (some true)
def impl_isIncreasing.f (k : Nat) (l0 : List Int) (a1 : Int) : Option (Bool) := impl_isIncreasing.l0 k l0 a1 l0 (l0.length : Int) 0
theorem impl_isIncreasing.mono_l : ∀ k, (∀ y0 y1 y2 y3 y4, LeO (impl_isIncreasing.l0 k y0 y1 y2 y3 y4) (impl_isIncreasing.l0 (k + 1) y0 y1 y2 y3 y4))
 | 0 => fun _ _ _ _ _ r h => by simp [impl_isIncreasing.l0] at h
 | k + 1 => by
  have ih0 := impl_isIncreasing.mono_l k
  ·intro y0 y1 y2 y3 y4
   unfold impl_isIncreasing.l0
   repeat' with_reducible first | apply ih0 | exact LeO.refl _ | exact LeO.none _ | apply LeO.ite | refine LeO.bind ?_ fun _ => ?_
theorem impl_isIncreasing.mono : ∀ a0 a1 k, LeO (impl_isIncreasing.f k a0 a1) (impl_isIncreasing.f (k + 1) a0 a1) := by
 intro a0 a1 k
 have ih0 := impl_isIncreasing.mono_l k
 unfold impl_isIncreasing.f
 repeat' with_reducible first | apply ih0 | exact LeO.refl _ | exact LeO.none _ | apply LeO.ite | refine LeO.bind ?_ fun _ => ?_
theorem impl_isIncreasing.calls (k : Nat) (A0 : Option Addr) (c0 : Nat) (l0 : List Int) (a1 : Int) (r : Bool) (w : World) (hr0 : Kd.C (Kd.int .i64) w A0 l0.length l0) (hc0 : l0.length ≤ c0) (h : impl_isIncreasing.f k l0 a1 = some r) :
  Calls Try.prog 46 #[.slice A0 l0.length c0, .int .i64 a1] w fun e w' => e = .returned (.bool r) ∧ Drawn0 w w' := by
 have HR0 := am_ hr0
 have HC0 := am_ hc0
 clear hr0 hc0
 have H := h
 clear h
 unfold impl_isIncreasing.f at H
 have H' := am_ H
 clear H
 go_enter Try.func46, Try.ntmps46
 go_wp2
 go_loopg [9] k (fun kq v9 w' => ∃ (x9_1 : Int), v9 = .int .i64 x9_1 ∧ Aside0 (impl_isIncreasing.l0 kq l0 a1 l0 (l0.length : Int) x9_1 = some r) ∧ Aside0 (kq ≤ k) ∧ Drawn0 w w')
 case atStart => exact ⟨(0), (Sh.es), H', ⟨Nat.le_refl _⟩, Sh.dr⟩
 case round =>
  clear H'
  obtain ⟨x9_1, rfl, HA, HK1, ⟨m1, rfl⟩⟩ := hrel
  cases gk with
  | zero => exact absurd HA.out (by simp [impl_isIncreasing.l0])
  | succ k1 =>
   have H := HA.out
   clear HA
   simp only [impl_isIncreasing.l0] at H
   by_cases c3 : x9_1 < (l0.length : Int)
   ·rw [if_pos c3] at H
    have c3b0 := decide_eq_true c3
    clear c3
    by_cases c4 : 0 ≤ x9_1
    ·rw [if_pos c4] at H
     have c4b0 := decide_eq_true c4
     clear c4
     by_cases c5 : x9_1 < (l0.length : Int)
     ·rw [if_pos c5] at H
      have c5b0 := decide_eq_true c5
      clear c5
      by_cases c6 : (rd l0 x9_1) < 0
      ·rw [if_pos c6] at H
       have c6b0 := decide_eq_true c6
       clear c6
       obtain rfl := Option.some.inj H
       have p326 : 0 ≤ (x9_1 : Int) := Sh.od
       have q326 : x9_1 < (l0.length : Int) := Sh.od
       obtain ⟨ad326, e326, hx326_0⟩ := Kd.at_int HR0.out x9_1 p326 q326
       cases e326
       replace p326 := eq_true p326
       replace q326 := eq_true q326
       go_wp2
       go_ret
       exact ⟨Sh.es, Sh.dr⟩
      ·rw [if_neg c6] at H
       have c6b0 := decide_eq_false c6
       clear c6
       by_cases c7 : (rd l0 x9_1) ≥ a1
       ·rw [if_pos c7] at H
        have c7b0 : decide (a1 ≤ (rd l0 x9_1)) = true := decide_eq_true c7
        clear c7
        obtain rfl := Option.some.inj H
        have p326 : 0 ≤ (x9_1 : Int) := Sh.od
        have q326 : x9_1 < (l0.length : Int) := Sh.od
        obtain ⟨ad326, e326, hx326_0⟩ := Kd.at_int HR0.out x9_1 p326 q326
        cases e326
        replace p326 := eq_true p326
        replace q326 := eq_true q326
        go_wp2
        go_ret
        exact ⟨Sh.es, Sh.dr⟩
       ·rw [if_neg c7] at H
        have c7b0 : decide (a1 ≤ (rd l0 x9_1)) = false := decide_eq_false c7
        clear c7
        by_cases c8 : x9_1 > 0
        ·rw [if_pos c8] at H
         have c8b0 : decide (0 < x9_1) = true := decide_eq_true c8
         clear c8
         obtain ⟨ji9, hj1⟩ : ∃ j_ : Int, (wrap64 (x9_1 - 1)) = j_ := ⟨_, rfl⟩
         replace H : (if 0 ≤ (ji9) then (if (ji9) < (l0.length : Int) then (if (rd l0 (ji9)) ≥ (rd l0 x9_1) then (some false) else (impl_isIncreasing.l0 k1 l0 a1 l0 (l0.length : Int) (wrap64 (x9_1 + 1)))) else (none)) else (none)) = some r := by first | (rw [hj1] at H; exact H) | (simp only [hj1] at H ⊢; exact H)
         have hji9w : (IntKind.i64.wrap (x9_1 - 1)) = ji9 := (i64_w _).trans hj1
         by_cases c10 : 0 ≤ (ji9)
         ·rw [if_pos c10] at H
          have c10b0 := decide_eq_true c10
          clear c10
          by_cases c11 : (ji9) < (l0.length : Int)
          ·rw [if_pos c11] at H
           have c11b0 := decide_eq_true c11
           clear c11
           by_cases c12 : (rd l0 (ji9)) ≥ (rd l0 x9_1)
           ·rw [if_pos c12] at H
            have c12b0 : decide ((rd l0 x9_1) ≤ (rd l0 (ji9))) = true := decide_eq_true c12
            clear c12
            obtain rfl := Option.some.inj H
            have p326 : 0 ≤ (x9_1 : Int) := Sh.od
            have q326 : x9_1 < (l0.length : Int) := Sh.od
            obtain ⟨ad326, e326, hx326_0⟩ := Kd.at_int HR0.out x9_1 p326 q326
            cases e326
            replace p326 := eq_true p326
            replace q326 := eq_true q326
            have p327 : 0 ≤ ((ji9) : Int) := Sh.od
            have q327 : (ji9) < (l0.length : Int) := Sh.od
            obtain ⟨ad327, e327, hx327_0⟩ := Kd.at_int HR0.out (ji9) p327 q327
            obtain rfl : ad326 = ad327 := (by injection e327)
            replace p327 := eq_true p327
            replace q327 := eq_true q327
            go_wp2
            go_ret
            exact ⟨by first | rfl | (simp; done) | (simp only [← hj1] <;> (first | rfl | simp)) | (simp [*]; done), Sh.dr⟩
           ·rw [if_neg c12] at H
            have c12b0 : decide ((rd l0 x9_1) ≤ (rd l0 (ji9))) = false := decide_eq_false c12
            clear c12
            have H' := am_ H
            clear H
            have p326 : 0 ≤ (x9_1 : Int) := Sh.od
            have q326 : x9_1 < (l0.length : Int) := Sh.od
            obtain ⟨ad326, e326, hx326_0⟩ := Kd.at_int HR0.out x9_1 p326 q326
            cases e326
            replace p326 := eq_true p326
            replace q326 := eq_true q326
            have p327 : 0 ≤ ((ji9) : Int) := Sh.od
            have q327 : (ji9) < (l0.length : Int) := Sh.od
            obtain ⟨ad327, e327, hx327_0⟩ := Kd.at_int HR0.out (ji9) p327 q327
            obtain rfl : ad326 = ad327 := (by injection e327)
            replace p327 := eq_true p327
            replace q327 := eq_true q327
            go_wp2
            go_roundg k1
            case measure => have := HK1.out; omega
            case rel => exact ⟨(wrap64 (x9_1 + 1)), (Sh.es), H', ⟨by have := HK1.out; omega⟩, Sh.dr⟩
          ·rw [if_neg c11] at H
           exact absurd H (by simp)
         ·rw [if_neg c10] at H
          exact absurd H (by simp)
        ·rw [if_neg c8] at H
         have c8b0 : decide (0 < x9_1) = false := decide_eq_false c8
         clear c8
         have H' := am_ H
         clear H
         have p326 : 0 ≤ (x9_1 : Int) := Sh.od
         have q326 : x9_1 < (l0.length : Int) := Sh.od
         obtain ⟨ad326, e326, hx326_0⟩ := Kd.at_int HR0.out x9_1 p326 q326
         cases e326
         replace p326 := eq_true p326
         replace q326 := eq_true q326
         go_wp2
         go_roundg k1
         case measure => have := HK1.out; omega
         case rel => exact ⟨(wrap64 (x9_1 + 1)), (Sh.es), H', ⟨by have := HK1.out; omega⟩, Sh.dr⟩
     ·rw [if_neg c5] at H
      exact absurd H (by simp)
    ·rw [if_neg c4] at H
     exact absurd H (by simp)
   ·rw [if_neg c3] at H
    have c3b0 := decide_eq_false c3
    clear c3
    obtain rfl := Option.some.inj H
    go_wp2
    go_ret
    exact ⟨Sh.es, Sh.dr⟩
def impl_GoodGraph.l0 : Nat → Int → List (List Int) → Int → Int → List (List Int) → Option (Bool)
 | 0, _, _, _, _, _ => none
 | k + 1, x3, x11, x12, x13, x332000 => if x13 < x12 then (if 0 ≤ x13 then (if x13 < (x11.length : Int) then ((impl_isIncreasing.f k (rd_L1 x11 x13) (x332000.length : Int)).bind fun t333 => (if t333 = true then (impl_GoodGraph.l0 k (wrap64 (x3 + ((rd_L1 x11 x13).length : Int))) x11 x12 (wrap64 (x13 + 1)) x332000) else (some false))) else (none)) else (none)) else (some (decide (x3 ≤ 20000)))
def impl_GoodGraph.f (k : Nat) (l0_0 : List (List Int)) : Option (Bool) := if (l0_0.length : Int) > 1200 then (some false) else (impl_GoodGraph.l0 k 0 l0_0 (l0_0.length : Int) 0 l0_0)
theorem impl_GoodGraph.mono_l : ∀ k, (∀ y0 y1 y2 y3 y4, LeO (impl_GoodGraph.l0 k y0 y1 y2 y3 y4) (impl_GoodGraph.l0 (k + 1) y0 y1 y2 y3 y4))
 | 0 => fun _ _ _ _ _ r h => by simp [impl_GoodGraph.l0] at h
 | k + 1 => by
  have ih0 := impl_GoodGraph.mono_l k
  ·intro y0 y1 y2 y3 y4
   unfold impl_GoodGraph.l0
   repeat' with_reducible first | apply ih0 | apply impl_isIncreasing.mono | exact LeO.refl _ | exact LeO.none _ | apply LeO.ite | refine LeO.bind ?_ fun _ => ?_
theorem impl_GoodGraph.mono : ∀ a0 k, LeO (impl_GoodGraph.f k a0) (impl_GoodGraph.f (k + 1) a0) := by
 intro a0 k
 have ih0 := impl_GoodGraph.mono_l k
 unfold impl_GoodGraph.f
 repeat' with_reducible first | apply ih0 | apply impl_isIncreasing.mono | exact LeO.refl _ | exact LeO.none _ | apply LeO.ite | refine LeO.bind ?_ fun _ => ?_
theorem impl_GoodGraph.calls (k : Nat) (A0_0 : Option Addr) (c0_0 : Nat) (l0_0 : List (List Int)) (r : Bool) (w : World) (hr0_0 : Kd.C (Kd.slice 3 (Kd.int .i64)) w A0_0 l0_0.length l0_0) (hc0_0 : l0_0.length ≤ c0_0) (h : impl_GoodGraph.f k l0_0 = some r) :
  Calls Try.prog 29 #[.agg #[.slice A0_0 l0_0.length c0_0]] w fun e w' => e = .returned (.bool r) ∧ Below w.heap.size w w' := by
 have hu29 := Try.underlying29
 have HR0_0 := am_ hr0_0
 have HC0_0 := am_ hc0_0
 clear hr0_0 hc0_0
 have HB := am_ (Below.refl w.heap.size w)
 have H := h
 clear h
 unfold impl_GoodGraph.f at H
 by_cases c2 : (l0_0.length : Int) > 1200
 ·rw [if_pos c2] at H
  have c2b0 : decide (1200 < (l0_0.length : Int)) = true := decide_eq_true c2
  have c2b1 : decide (1200 < l0_0.length) = true := decide_eq_true (by omega)
  clear c2
  obtain rfl := Option.some.inj H
  go_enter Try.func29, Try.ntmps29
  go_wp2_with (first | ((with_reducible refine Sh.d 1 ?_); refine Sh.bz w (N := 1) (cs := #[.slice A0_0 l0_0.length c0_0]) (t := 29) (h := ?_); clear HB; intro gb331 w3 BK331 GE331 HB; have hcz4_0 := Sh.bc BK331.out 0; have hfz4_0 := blk_frozen BK331.out 0))
  go_ret
  exact ⟨Sh.eR, Sh.bw⟩
 ·rw [if_neg c2] at H
  have c2b0 : decide (1200 < (l0_0.length : Int)) = false := decide_eq_false c2
  have c2b1 : decide (1200 < l0_0.length) = false := decide_eq_false (by omega)
  clear c2
  have H' := am_ H
  clear H
  go_enter Try.func29, Try.ntmps29
  go_wp2_with (first | ((with_reducible refine Sh.d 1 ?_); refine Sh.bz w (N := 1) (cs := #[.slice A0_0 l0_0.length c0_0]) (t := 29) (h := ?_); clear HB; intro gb331 w5 BK331 GE331 HB; have hcz6_0 := Sh.bc BK331.out 0; have hfz6_0 := blk_frozen BK331.out 0))
  go_loopg [3, 13] k (fun kq v3 v13 w' => ∃ (x3_1 : Int) (x13_1 : Int), v3 = .int .i64 x3_1 ∧ v13 = .int .i64 x13_1 ∧ Aside0 (impl_GoodGraph.l0 kq x3_1 l0_0 (l0_0.length : Int) x13_1 l0_0 = some r) ∧ Aside0 (kq ≤ k) ∧ Aside0 (w'.heap[gb331]? = some (.cells #[(.slice A0_0 l0_0.length c0_0)] 29 (0, 0))) ∧ Aside0 (Below w.heap.size w w'))
  case atStart => exact ⟨(0), (0), (Sh.es), (Sh.es), H', ⟨Nat.le_refl _⟩, ⟨by refine Sh.pl ?_; exact BK331.out⟩, ⟨Sh.bw⟩⟩
  case round =>
   clear H'
   try clear hcz4_0
   try clear hcz6_0
   try clear hfz4_0
   try clear hfz6_0
   obtain ⟨x3_1, x13_1, rfl, rfl, HA, HK1, BK331, HB⟩ := hrel
   cases gk with
   | zero => exact absurd HA.out (by simp [impl_GoodGraph.l0])
   | succ k1 =>
    have H := HA.out
    clear HA
    simp only [impl_GoodGraph.l0] at H
    by_cases c7 : x13_1 < (l0_0.length : Int)
    ·rw [if_pos c7] at H
     have c7b0 := decide_eq_true c7
     clear c7
     by_cases c8 : 0 ≤ x13_1
     ·rw [if_pos c8] at H
      have c8b0 := decide_eq_true c8
      clear c8
      by_cases c9 : x13_1 < (l0_0.length : Int)
      ·rw [if_pos c9] at H
       have c9b0 := decide_eq_true c9
       clear c9
       obtain ⟨t333, A10, H⟩ := Sh.ba H
       by_cases c11 : t333 = true
       ·subst c11
        rw [if_pos rfl] at H
        have H' := am_ H
        clear H
        have p332 : 0 ≤ (x13_1 : Int) := Sh.od
        have q332 : x13_1 < (l0_0.length : Int) := Sh.od
        obtain ⟨ad332, A332_0, c332_0, e332, hx332_0, hl332_0, hi332_0⟩ := at_L1 HR0_0.out x13_1 p332 q332
        cases e332
        try replace hx332_0 := Sh.cw hx332_0
        have HR332_0 := am_ hi332_0
        have HC332_0 := am_ hl332_0
        clear hi332_0 hl332_0
        replace p332 := eq_true p332
        replace q332 := eq_true q332
        have hcz12_0 := Sh.bc BK331.out 0
        have hfz12_0 := blk_frozen BK331.out 0
        go_wp2_with (first | ((with_reducible refine Sh.k 46 ?_); refine Sh.gD (some 21) Try.func46 #[.slice A332_0 (rd_L1 l0_0 x13_1).length c332_0, .int .i64 (l0_0.length : Int)] (impl_isIncreasing.calls k1 _ _ (rd_L1 l0_0 x13_1) (l0_0.length : Int) true _ (Sh.cB HR332_0.out) HC332_0.out A10.out) fun nd => ?_))
        go_roundg k1
        case measure => have := HK1.out; omega
        case rel => exact ⟨(wrap64 (x3_1 + ((rd_L1 l0_0 x13_1).length : Int))), (wrap64 (x13_1 + 1)), (Sh.es), (Sh.es), H', ⟨by have := HK1.out; omega⟩, ⟨by refine Sh.pl ?_; exact BK331.out⟩, ⟨Sh.bw⟩⟩
       ·replace c11 := Bool.eq_false_iff.mpr c11
        subst c11
        rw [Sh.nf] at H
        obtain rfl := Option.some.inj H
        have p332 : 0 ≤ (x13_1 : Int) := Sh.od
        have q332 : x13_1 < (l0_0.length : Int) := Sh.od
        obtain ⟨ad332, A332_0, c332_0, e332, hx332_0, hl332_0, hi332_0⟩ := at_L1 HR0_0.out x13_1 p332 q332
        cases e332
        try replace hx332_0 := Sh.cw hx332_0
        have HR332_0 := am_ hi332_0
        have HC332_0 := am_ hl332_0
        clear hi332_0 hl332_0
        replace p332 := eq_true p332
        replace q332 := eq_true q332
        have hcz13_0 := Sh.bc BK331.out 0
        have hfz13_0 := blk_frozen BK331.out 0
        go_wp2_with (first | ((with_reducible refine Sh.k 46 ?_); refine Sh.gD (some 21) Try.func46 #[.slice A332_0 (rd_L1 l0_0 x13_1).length c332_0, .int .i64 (l0_0.length : Int)] (impl_isIncreasing.calls k1 _ _ (rd_L1 l0_0 x13_1) (l0_0.length : Int) false _ (Sh.cB HR332_0.out) HC332_0.out A10.out) fun nd => ?_))
        go_ret
        exact ⟨Sh.eR, Sh.bw⟩
      ·rw [if_neg c9] at H
       exact absurd H (by simp)
     ·rw [if_neg c8] at H
      exact absurd H (by simp)
    ·rw [if_neg c7] at H
     have c7b0 := decide_eq_false c7
     clear c7
     obtain rfl := Option.some.inj H
     go_wp2
     go_ret
     exact ⟨Sh.eR, Sh.bw⟩
end Go.Proofs.Ytnfpolhpanpeiaa.P
