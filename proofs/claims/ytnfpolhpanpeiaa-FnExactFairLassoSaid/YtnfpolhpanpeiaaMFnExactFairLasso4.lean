/- Go functions of this seat as Lean functions, and the proofs that the calls come to what these say; printed by a program of this session. No condition. -/
import Derived.Test.YtnfpolhpanpeiaaP0
import Derived.Test.YtnfpolhpanpeiaaMFnExactFairLasso2
import Derived.Test.YtnfpolhpanpeiaaMFnExactFairLasso3
set_option linter.unusedVariables false
set_option linter.unusedSimpArgs false
set_option maxHeartbeats 40000000
set_option maxRecDepth 100000
namespace Go.Proofs.Ytnfpolhpanpeiaa.P
open Go.RowKit Go.Proofs.YtnfpolhpanpeiaaW.PrintWords Go.Proofs.YtnfpolhpanpeiaaW.PrintLast Go.Proofs.YtnfpolhpanpeiaaW.PrintMore Go.Proofs.Ytnfpolhpanpeiaa.Hof
attribute [local go_sem] max2_int min2_int max_two min_two max_three min_three max_four min_four
/-- The walk at block g of W (spec.l11Walk): its row of marks is block gS, its row of points vO. -/
def IsW (nx : Value) (n b : Nat) (W : World) (g gS cS : Nat) (vO : Value) (Sn : List Bool) (O : List Int) : Prop :=
  W.heap[g]? = some (.cells #[nx, .slice (some ⟨gS, 0, none⟩) n cS, vO] 58 (0, 0)) ∧ b ≤ g ∧ Kd.R Kd.bool 4 W b (fun _ => True) (.slice (some ⟨gS, 0, none⟩) n cS) Sn ∧ Kd.R (Kd.int .i64) 3 W b (fun _ => True) vO O
/-- All stays but blocks g and gS and the row v, which is v' now. -/
def KeepW (g gS : Nat) (W : World) (v : Value) (W' : World) (v' : Value) : Prop :=
  Below 0 W W' ∧ (∀ i, i < W.heap.size → i ≠ g → i ≠ gS → some i ≠ v.ownBlock → W'.heap[i]? = W.heap[i]?) ∧ (∀ b, v'.ownBlock = some b → v.ownBlock = some b ∨ W.heap.size ≤ b)
section
variable {nx : Value} {n b : Nat} {W W1 W2 : World} {g gS cS : Nat} {v v1 v2 vO : Value} {Sn : List Bool} {O : List Int}
theorem KeepW.refl (g gS : Nat) (W : World) (v : Value) : KeepW g gS W v W v := ⟨Below.refl _ _, fun _ _ _ _ _ => rfl, fun _ h => .inl h⟩
theorem below0_trans (h : Below 0 W W1) (k : Below 0 W1 W2) : Below 0 W W2 := ⟨k.os.trans h.os, k.tape.trans h.tape, k.output.trans h.output, Nat.le_trans h.size k.size, fun i hi => absurd hi (Nat.not_lt_zero i)⟩
theorem below0 {B : Nat} (h : Below B W W1) : Below 0 W W1 := ⟨h.os, h.tape, h.output, h.size, fun i hi => absurd hi (Nat.not_lt_zero i)⟩
theorem KeepW.trans (h : KeepW g gS W v W1 v1) (k : KeepW g gS W1 v1 W2 v2) : KeepW g gS W v W2 v2 := by
  refine ⟨below0_trans h.1 k.1, fun i hi h1 h2 h3 => (k.2.1 i (Nat.lt_of_lt_of_le hi h.1.size) h1 h2 (fun e => ?_)).trans (h.2.1 i hi h1 h2 h3), fun b hb => ?_⟩
  · rcases h.2.2 i e.symm with h4 | h4
    · exact h3 h4.symm
    · omega
  · rcases k.2.2 b hb with h4 | h4
    · exact h.2.2 b h4
    · exact .inr (Nat.le_trans h.1.size h4)
theorem KeepW.below (h : KeepW g gS W v W1 v1) (k : Below W1.heap.size W1 W2) : KeepW g gS W v W2 v1 := h.trans ⟨below0 k, fun i hi _ _ _ => k.block i hi, fun _ h => .inl h⟩
theorem KeepW.setg (h : KeepW g gS W v W1 v1) (j : Nat) (u : Value) : KeepW g gS W v (W1.setCell ⟨g, j, none⟩ u) v1 :=
  h.trans ⟨⟨rfl, rfl, rfl, by simp [World.setCell], fun i hi => absurd hi (Nat.not_lt_zero i)⟩, fun i _ hg _ _ => Below.heap_setCell W1 ⟨g, j, none⟩ u i hg, fun _ h => .inl h⟩
theorem KeepW.setS (h : KeepW g gS W v W1 v1) (j : Nat) (u : Value) : KeepW g gS W v (W1.setCell ⟨gS, j, none⟩ u) v1 :=
  h.trans ⟨⟨rfl, rfl, rfl, by simp [World.setCell], fun i hi => absurd hi (Nat.not_lt_zero i)⟩, fun i _ _ hg _ => Below.heap_setCell W1 ⟨gS, j, none⟩ u i hg, fun _ h => .inl h⟩
theorem KeepW.grown (h : KeepW g gS W v W1 v1) (hg : W1.grownBy W2 v1.ownBlock) (hat : v2.ownBlock = v1.ownBlock ∨ ∃ b, v2.ownBlock = some b ∧ W1.heap.size ≤ b) : KeepW g gS W v W2 v2 := by
  refine h.trans ⟨⟨hg.os, hg.tape, hg.output, hg.size, fun i hi => absurd hi (Nat.not_lt_zero i)⟩, fun i hi _ _ hv => hg.block i hi hv, fun b hb => ?_⟩
  rcases hat with h1 | ⟨b', h1, h2⟩
  · exact .inl (h1 ▸ hb)
  · rw [h1] at hb; injection hb with hb; subst hb; exact .inr h2
theorem KeepW.toBelow {B : Nat} (h : KeepW g gS W v W1 v1) (hg : B ≤ g) (hs : B ≤ gS) (hv : ∀ k, v.ownBlock = some k → B ≤ k) (hb : B ≤ W.heap.size) : Below B W W1 :=
  ⟨h.1.os, h.1.tape, h.1.output, h.1.size, fun i hi => h.2.1 i (by omega) (by omega) (by omega) (fun e => by have := hv i e.symm; omega)⟩
theorem IsW.below (h : IsW nx n b W g gS cS vO Sn O) (hw : Below W.heap.size W W1) : IsW nx n b W1 g gS cS vO Sn O := ⟨blk_below h.1 hw, h.2.1, Kd.R_below h.2.2.1 hw, Kd.R_below h.2.2.2 hw⟩
theorem IsW.setSeen (h : IsW nx n b W g gS cS vO Sn O) (i : Int) (x : Bool) : IsW nx n b (W.setCell ⟨gS, i.toNat, none⟩ (.bool x)) g gS cS vO (Sn.set i.toNat x) O := by
  obtain ⟨h1, h2, h3, h4⟩ := h
  have hp := Kd.R_putg h3 i x
  obtain ⟨cells, hc⟩ := Kd.R_typed h3 gS rfl
  have hg : some g ≠ some gS := by
    intro e
    injection e with e
    subst e
    rw [h1] at hc
    injection hc with hc
    injection hc with _ hc
    exact absurd hc (by decide)
  exact ⟨blk_grown h1 hp.2 hg, h2, hp.1, Kd.R_mono (Kd.R_grown1 h4 rfl hp.2 (Kd.R_ne h4 hc (by decide))) (fun _ _ => trivial)⟩
theorem IsW.setO (h : IsW nx n b W g gS cS vO Sn O) {vT : Value} {O' : List Int} (hg : W.grownBy W1 vO.ownBlock) (hT : Kd.R (Kd.int .i64) 3 W1 b (fun _ => True) vT O') : IsW nx n b (W1.setCell ⟨g, 2, none⟩ vT) g gS cS vT Sn O' := by
  obtain ⟨h1, h2, h3, h4⟩ := h
  obtain ⟨cells, hc⟩ := Kd.R_typed h3 gS rfl
  have hb := blk_grown h1 hg (Kd.R_ne h4 h1 (by decide))
  have hs : Kd.R Kd.bool 4 W1 b (fun _ => True) (.slice (some ⟨gS, 0, none⟩) n cS) Sn := Kd.R_mono (Kd.R_grown1 h3 rfl hg (fun e => Kd.R_ne h4 hc (by decide) e.symm)) (fun _ _ => trivial)
  have far : ∀ {α : Type} {enc : α → Value} {h1 : ∀ x, (enc x).oneCell' = true} {e : Nat} {u : Value} {xs : List α}, Kd.R (Kd.scalar enc h1) e W1 b (fun _ => True) u xs → e ≠ 58 → Kd.R (Kd.scalar enc h1) e (W1.setCell ⟨g, 2, none⟩ vT) b (fun _ => True) u xs := fun hr he =>
    Kd.R_mono (Kd.R_far (p := ⟨g, 2, none⟩) (Kd.R_far1 hr rfl (Kd.R_ne hr hb he)) (fun _ hk => hk.2) vT) (fun _ _ => trivial)
  exact ⟨blk_put hb 2 vT rfl, h2, far hs (by decide), far hT (by decide)⟩
theorem TJ_b3 {w : World} {g : Nat} {t : TypeId} {a b c : Value} (h : w.heap[g]? = some (.cells #[a, b, c] t (0, 0))) : (w.cell? ⟨g, 0, none⟩ = some a ∧ w.cell? ⟨g, 1, none⟩ = some b ∧ w.cell? ⟨g, 2, none⟩ = some c) ∧ w.frozen? ⟨g, 2, none⟩ = false :=
  ⟨⟨Sh.bc h 0 rfl, Sh.bc h 1 rfl, Sh.bc h 2 rfl⟩, blk_frozen h 2⟩
end
/-- The rows of N read so in every world of Kp. -/
def RdN (Kp : World → Prop) (An : Option Addr) (N : List (List Int)) : Prop :=
  ∀ m : Int, 0 ≤ m → m < (N.length : Int) → ∃ ad A1 c1, An = some ad ∧ (rd_L1 N m).length ≤ c1 ∧ ∀ W', Kp W' → W'.cell? (ad.add m.toNat) = some (.slice A1 (rd_L1 N m).length c1) ∧ (Kd.int .i64).C W' A1 (rd_L1 N m).length (rd_L1 N m)
theorem RdN.mono {Kp Kq : World → Prop} {An : Option Addr} {N : List (List Int)} (h : RdN Kp An N) (hk : ∀ W, Kq W → Kp W) : RdN Kq An N := fun m h0 h1 => by
  obtain ⟨ad, A1, c1, e, hc, hr⟩ := h m h0 h1
  exact ⟨ad, A1, c1, e, hc, fun W' hW => hr W' (hk W' hW)⟩
theorem RdN_C {Kp : World → Prop} {An : Option Addr} {N : List (List Int)} {w0 : World} (h : Kd.C (Kd.slice 3 (Kd.int .i64)) w0 An N.length N) (hk : ∀ W, Kp W → Below w0.heap.size w0 W) : RdN Kp An N := fun m h0 h1 => by
  obtain ⟨ad, A1, c1, e, h2, h3, h4⟩ := at_L1 h m h0 h1
  exact ⟨ad, A1, c1, e, h3, fun W' hW => ⟨Sh.cw h2 (hk W' hW), Sh.cB h4 (hk W' hW)⟩⟩
theorem RdN_R {Kp : World → Prop} {An : Option Addr} {N : List (List Int)} {W : World} {base e cn : Nat} {ok : Nat → Prop} (h : Kd.R (Kd.slice 3 (Kd.int .i64)) e W base ok (.slice An N.length cn) N) (hk : ∀ W', Kp W' → ∀ k, ok k → k < W.heap.size → W'.heap[k]? = W.heap[k]?) : RdN Kp An N := fun m h0 h1 => by
  obtain ⟨ad, A1, c1, e1, h2, h3, h4⟩ := at_L1 (Kd.R_reads' h).2.2 m h0 h1
  subst e1
  refine ⟨ad, A1, c1, rfl, h3, fun W' hW => ?_⟩
  obtain ⟨ad', A1', c1', e2, h2', h3', h4'⟩ := at_L1 (Kd.R_reads' (Kd.R_step h (hk W' hW))).2.2 m h0 h1
  injection e2 with e2
  subst e2
  have hab : (ad.add m.toNat).block = ad.block := by unfold Addr.add; split <;> rfl
  have hq : W'.cell? (ad.add m.toNat) = W.cell? (ad.add m.toNat) := World.cell?_of_block (by rw [hab]; exact hk W' hW _ (h.1 _ rfl) (Kd.R_lt h _ rfl))
  rw [h2'] at hq
  have hq2 := hq.trans h2
  injection hq2 with hq2
  injection hq2 with e3 _ e5
  subst e3 e5
  exact ⟨h2', h4'⟩
section
variable {nx : Value} {n b : Nat} {W W1 W2 : World} {g gS cS : Nat} {v v1 vO : Value} {Sn : List Bool} {O : List Int}
theorem IsW.rl (h : IsW nx n b W g gS cS vO Sn O) (hs : Below W.heap.size W W1 := by (repeat (with_reducible first | apply below_alloc | apply pw_below_drewN | apply below_drew1)); exact Below.refl _ _) : IsW nx n b W1 g gS cS vO Sn O := h.below hs
theorem KeepW.rl (h : KeepW g gS W v W1 v1) (hs : Below W1.heap.size W1 W2 := by (repeat (with_reducible first | apply below_alloc | apply pw_below_drewN | apply below_drew1)); exact Below.refl _ _) : KeepW g gS W v W2 v1 := h.below hs
theorem IsW.ltb (h : IsW nx n b W g gS cS vO Sn O) (hs : Below W.heap.size W W1 := by (repeat (with_reducible first | apply below_alloc | apply pw_below_drewN | apply below_drew1)); exact Below.refl _ _) : b ≤ W1.heap.size := by
  have h1 := blk_lt (h.below hs).1
  have h2 := h.2.1
  omega
end
theorem TJ_bl {W W1 : World} (hs : Below W.heap.size W W1 := by (repeat (with_reducible first | apply below_alloc | apply pw_below_drewN | apply below_drew1)); exact Below.refl _ _) : Below W.heap.size W W1 := hs

mutual
def spec_walk.l0 : Nat → List (List Int) → List Int → Int → List Bool → List Int → Option (List Bool × List Int)
 | 0, _, _, _, _, _ => none
 | k + 1, N, row, i, Sn, O => if i < (row.length : Int) then (if 0 ≤ i then (spec_walk.f k N (rd row i) Sn O).bind fun t => spec_walk.l0 k N row (wrap64 (i + 1)) t.1 t.2 else none) else some (Sn, O)
def spec_walk.f : Nat → List (List Int) → Int → List Bool → List Int → Option (List Bool × List Int)
 | 0, _, _, _, _ => none
 | k + 1, N, m, Sn, O => if 0 ≤ m ∧ m < (N.length : Int) then (if Sn.getD m.toNat false = true then some (Sn, O) else (spec_walk.l0 k N (rd_L1 N m) 0 (Sn.set m.toNat true) O).bind fun t => if t.2.length < 17592186044416 then some (t.1, t.2 ++ [m]) else none) else none
end
theorem spec_walk.calls (k : Nat) : ∀ (An : Option Addr) (cn : Nat) (N : List (List Int)) (b g gS cS : Nat) (vO : Value) (Sn : List Bool) (O : List Int) (m : Int) (r : List Bool × List Int) (w : World) (hN : RdN (fun W' => ∃ v', KeepW g gS w vO W' v') An N) (hI : IsW (.slice An N.length cn) N.length b w g gS cS vO Sn O) (h : spec_walk.f k N m Sn O = some r),
  Calls Try.prog 45 #[.pointer (some ⟨g, 0, none⟩), .int .i64 m] w fun e w' => e = .returned (.tuple #[]) ∧ ∃ vO', IsW (.slice An N.length cn) N.length b w' g gS cS vO' r.1 r.2 ∧ KeepW g gS w vO w' vO' := by
 induction k using Nat.strongRecOn with
 | _ k ih =>
 intro An cn N b g gS cS vO Sn O m r w hN hI h
 cases k with
 | zero => exact absurd h (by simp [spec_walk.f])
 | succ k =>
 simp only [spec_walk.f] at h
 have hu58 := Try.underlying58
 have HN := am_ hN
 have HI := am_ hI
 have IH := am_ ih
 clear ih hN hI
 by_cases c1 : 0 ≤ m ∧ m < (N.length : Int)
 ·rw [if_pos c1] at h
  obtain ⟨p1, q1⟩ := c1
  have hcS : w.cell? ⟨gS, m.toNat, none⟩ = some (.bool (rdOf false Sn m)) := (Kd.R_celln false HI.out.2.2.1 m p1 q1).1
  have hfS : w.frozen? ⟨gS, m.toNat, none⟩ = false := (Kd.R_celln false HI.out.2.2.1 m p1 q1).2
  obtain ⟨⟨hcz_0, hcz_1, hcz_2⟩, hfz_2⟩ := TJ_b3 HI.out.1
  have p1b := decide_eq_true p1
  have q1b := decide_eq_true q1
  have p1t := eq_true p1
  have q1t := eq_true q1
  by_cases c2 : Sn.getD m.toNat false = true
  ·rw [if_pos c2] at h
   injection h with h
   subst h
   have c2b : rdOf false Sn m = true := c2
   rw [c2b] at hcS
   go_enter Try.func45, Try.ntmps45
   go_wp2
   exact bodyPost_ret (results_list (rs := []) rfl (by simp) .nil) rfl ⟨rfl, vO, HI.out, KeepW.refl _ _ _ _⟩
  ·rw [if_neg c2] at h
   have c2b : rdOf false Sn m = false := Bool.eq_false_iff.mpr c2
   rw [c2b] at hcS
   have H' := am_ h
   clear h
   go_enter Try.func45, Try.ntmps45
   go_wp2_with (first | ((with_reducible refine gate_store (t := 4) (p := 18) rfl ?_); refine store_event (t := 4) (p := 18) (v := ?vo_w4) (w1 := (w.setCell ⟨gS, m.toNat, none⟩ (.bool true))) ?hg ?ho ?hn ?hr ?_; (case ho => rfl); (case hg => rfl); (case hn => rfl); (case hr => first | (go_simp; done) | (go_simp; rfl)); intro w4 hw; have n1_ := am_ (show IsW _ _ b w4 g gS cS vO (Sn.set m.toNat true) O from (by rw [hw]; exact HI.out.setSeen m true)); have n2_ := am_ (show KeepW g gS w vO w4 vO from (by rw [hw]; exact (KeepW.refl _ _ _ _).setS _ _)); clear hw HI hcS hfS hcz_0 hcz_1 hcz_2 hfz_2; have HI := n1_; have HK := n2_; clear n1_ n2_; obtain ⟨⟨hcz_0, hcz_1, hcz_2⟩, hfz_2⟩ := TJ_b3 HI.out.1; obtain ⟨ad, A1, c1, e1, HL, HR⟩ := HN.out m p1 q1; subst e1; have hx1 := (HR w4 ⟨_, HK.out⟩).1; replace HR := am_ HR; replace HL := am_ HL))
   go_loopg [27] k (fun kq v27 w' => ∃ (i : Int) (vT : Value) (xS : List Bool) (xO : List Int), v27 = .int .i64 i ∧ Aside0 ((spec_walk.l0 kq N (rd_L1 N m) i xS xO).bind (fun t => if t.2.length < 17592186044416 then some (t.1, t.2 ++ [m]) else none) = some r) ∧ Aside0 (kq ≤ k) ∧ Aside0 (IsW (.slice (some ad) N.length cn) N.length b w' g gS cS vT xS xO) ∧ Aside0 (KeepW g gS w vO w' vT))
   case atStart => exact ⟨0, _, _, _, rfl, H', ⟨Nat.le_refl _⟩, HI, HK⟩
   case round =>
    clear H' HI HK hcz_0 hcz_1 hcz_2 hfz_2 hx1
    obtain ⟨i, vT, xS, xO, rfl, HA, HK1, HI, HK⟩ := hrel
    cases gk with
    | zero => exact absurd HA.out (by simp [spec_walk.l0])
    | succ k1 =>
     have H := HA.out
     clear HA
     simp only [spec_walk.l0] at H
     by_cases c3 : i < ((rd_L1 N m).length : Int)
     ·rw [if_pos c3] at H
      by_cases c4 : 0 ≤ i
      ·rw [if_pos c4] at H
       have c3b := decide_eq_true c3
       have c3t := eq_true c3
       have c4t := eq_true c4
       have c4b := decide_eq_true c4
       obtain ⟨ad2, e2, hxi⟩ := Kd.at_int (HR.out wr ⟨_, HK.out⟩).2 i c4 c3
       subst e2
       rw [Option.bind_assoc] at H
       obtain ⟨t, A_, H⟩ := Sh.ba H
       have H' := am_ H
       clear H
       obtain ⟨ww, hww⟩ : ∃ ww, ww = rd (rd_L1 N m) i := ⟨_, rfl⟩
       rw [← hww] at hxi A_
       clear hww
       have HQ := am_ (show ∀ W1, Below wr.heap.size wr W1 → RdN (fun W' => ∃ v', KeepW g gS W1 vT W' v') (some ad) N from fun W1 hW1 => RdN.mono HN.out (fun W' hW => hW.elim (fun v' hv => ⟨v', (KeepW.below HK.out hW1).trans hv⟩)))
       have hlt := am_ (show k1 < k + 1 by have := HK1.out; omega)
       go_wp2_with (first | (go_at_call 45; go_loud (with_reducible refine (IH.out k1 hlt.out _ _ N b g gS cS vT xS xO ww t _ (HQ.out _ TJ_bl) (IsW.rl HI.out) A_.out).mono ?_); rintro e w9 ⟨rfl, vU, hI, hk⟩; have n1_ := am_ hI; have n2_ := am_ ((KeepW.rl HK.out).trans hk); clear hI hk HI HK hxi; have HI := n1_; have HK := n2_; clear n1_ n2_))
       go_roundg k1
       case measure => have := HK1.out; omega
       case rel => exact ⟨_, _, _, _, rfl, H', ⟨by have := HK1.out; omega⟩, ⟨IsW.rl HI.out⟩, ⟨KeepW.rl HK.out⟩⟩
      ·rw [if_neg c4] at H
       cases H
     ·rw [if_neg c3] at H
      have c3b := decide_eq_false c3
      simp only [Option.bind_some] at H
      by_cases c5 : xO.length < 17592186044416
      ·rw [if_pos c5] at H
       injection H with H
       subst H
       have LM : Aside0 ((xO.length + 1) * 8 ≤ 140737488355328) := ⟨by omega⟩
       clear c5
       obtain ⟨AO, cO, eO⟩ := Kd.R_slice HI.out.2.2.2
       subst eO
       obtain ⟨⟨hcz_0, hcz_1, hcz_2⟩, hfz_2⟩ := TJ_b3 HI.out.1
       go_wp2_with (first | ((with_reducible refine gate_builtin (b := .append) (xs := #[.tmp 39, .tmp 41]) rfl ?_); at_builtin; refine Kd.R_append (Kd.int .i64) (w0 := wr) b rfl (.tmp 39) (.tmp 41) 26 3 (.int .i64 0) 8 rfl Try.underlying26 info3 rfl (by decide) (by decide) (.slice AO xO.length cO) xO m [.int .i64 m] (fun _ => True) (fun _ => False) rfl rfl ?aP (fun _ hk => hk.elim) ?aF ?aO ?aB ?aS ?aL ?_; (case aP => exact rfl); (case aF => exact (fun _ _ => trivial)); (case aO => exact (Sh.rl HI.out.2.2.2)); (case aB => exact Below.refl _ _); (case aS => exact (IsW.ltb HI.out)); (case aL => exact LM.out); intro v7 w7 ho hb hg hat; obtain ⟨Ao, co, eo⟩ := Kd.R_slice ho; subst eo; have n1_ : Aside0 (∀ W_, W_ = w7.setCell ⟨g, 2, none⟩ (.slice Ao (xO ++ [m]).length co) → IsW (.slice (some ad) N.length cn) N.length b W_ g gS cS (.slice Ao (xO ++ [m]).length co) xS (xO ++ [m]) ∧ KeepW g gS w vO W_ (.slice Ao (xO ++ [m]).length co)) := ⟨fun W_ e_ => (by rw [e_]; exact ⟨IsW.setO (IsW.rl HI.out) hg ho, KeepW.setg (KeepW.grown (KeepW.rl HK.out) hg hat) _ _⟩)⟩; have n3_ := am_ (blk_grown (IsW.rl HI.out).1 hg (Kd.R_ne HI.out.2.2.2 HI.out.1 (by decide))); clear HI HK hb hg hat ho hcz_0 hcz_1 hcz_2 hfz_2; have HI := n1_; have BK := n3_; clear n1_ n3_; obtain ⟨⟨hcz_0, hcz_1, hcz_2⟩, hfz_2⟩ := TJ_b3 BK.out) | ((with_reducible refine gate_store (t := 26) (p := 44) rfl ?_); refine store_event (t := 26) (p := 44) (v := ?vo_w8) (w1 := (w7.setCell ⟨g, 2, none⟩ (.slice Ao (xO ++ [m]).length co))) ?hg ?ho ?hn ?hr ?_; (case ho => rfl); (case hg => rfl); (case hn => rfl); (case hr => first | (go_simp; done) | (go_simp; rfl)); intro w8 hw; have n1_ := am_ (HI.out w8 hw); clear hw HI BK hcz_0 hcz_1 hcz_2 hfz_2; have HI := n1_; clear n1_))
       exact bodyPost_end (results_list (rs := []) rfl (by simp) .nil) rfl ⟨rfl, _, HI.out.1, HI.out.2⟩
      ·rw [if_neg c5] at H
       cases H
 ·rw [if_neg c1] at h
  exact absurd h (by simp)

/-- spec.l11Parts behind its first pass: the first walk's block g1 with its points O, the second walk at g2 over the turned rows M, the answer's row g8. -/
def IsP (w W : World) (g1 : Nat) (vO1 : Value) (g2 gS2 cS2 : Nat) (vO2 : Value) (g8 n c8 : Nat) (AM : Option Addr) (cM : Nat) (O : List Int) (M : List (List Int)) (xS : List Bool) (xO out : List Int) : Prop :=
  (∃ a b, W.heap[g1]? = some (.cells #[a, b, vO1] 58 (0, 0))) ∧ Kd.R (Kd.int .i64) 3 W w.heap.size (fun k => k ≠ g2 ∧ k ≠ gS2 ∧ k ≠ g8) vO1 O ∧ IsW (.slice AM M.length cM) M.length w.heap.size W g2 gS2 cS2 vO2 xS xO ∧
  Kd.R (Kd.slice 3 (Kd.int .i64)) 26 W w.heap.size (fun k => k ≠ g2 ∧ k ≠ gS2 ∧ k ≠ g8) (.slice AM M.length cM) M ∧ Kd.R (Kd.int .i64) 3 W w.heap.size (fun _ => True) (.slice (some ⟨g8, 0, none⟩) n c8) out ∧
  (g1 ≠ g2 ∧ g1 ≠ gS2 ∧ g1 ≠ g8 ∧ g8 ≠ g2 ∧ g8 ≠ gS2) ∧ some g8 ≠ vO2.ownBlock
section
variable {w W W1 : World} {g1 g2 gS2 cS2 g8 n c8 cM : Nat} {vO1 vO2 : Value} {AM : Option Addr} {O xO out : List Int} {M : List (List Int)} {xS : List Bool}
theorem IsP.below (h : IsP w W g1 vO1 g2 gS2 cS2 vO2 g8 n c8 AM cM O M xS xO out) (hw : Below W.heap.size W W1) : IsP w W1 g1 vO1 g2 gS2 cS2 vO2 g8 n c8 AM cM O M xS xO out := by
  obtain ⟨⟨a, b, h1⟩, h2, h3, h4, h5, h6, h7⟩ := h
  exact ⟨⟨a, b, blk_below h1 hw⟩, Kd.R_below h2 hw, h3.below hw, Kd.R_below h4 hw, Kd.R_below h5 hw, h6, h7⟩
theorem IsP.rl (h : IsP w W g1 vO1 g2 gS2 cS2 vO2 g8 n c8 AM cM O M xS xO out) (hs : Below W.heap.size W W1 := by (repeat (with_reducible first | apply below_alloc | apply pw_below_drewN | apply below_drew1)); exact Below.refl _ _) : IsP w W1 g1 vO1 g2 gS2 cS2 vO2 g8 n c8 AM cM O M xS xO out := h.below hs
theorem IsP.nil (h : IsP w W g1 vO1 g2 gS2 cS2 vO2 g8 n c8 AM cM O M xS xO out) : IsP w (W.setCell ⟨g2, 2, none⟩ (.slice none 0 0)) g1 vO1 g2 gS2 cS2 (.slice none 0 0) g8 n c8 AM cM O M xS [] out := by
  obtain ⟨⟨a, b, h1⟩, h2, h3, h4, h5, ⟨k1, k2, k3, k4, k5⟩, h7⟩ := h
  refine ⟨⟨a, b, ?_⟩, Kd.R_far h2 (fun k hk => hk.1) _, h3.setO (World.grownBy.refl _ _) (Kd.R_nil _ _ _ _ _), Kd.R_far h4 (fun k hk => hk.1) _, ?_, ⟨k1, k2, k3, k4, k5⟩, by simp [Value.ownBlock]⟩
  · rw [Below.heap_setCell W ⟨g2, 2, none⟩ _ g1 k1]; exact h1
  · exact Kd.R_mono (Kd.R_far (p := ⟨g2, 2, none⟩) (Kd.R_far1 h5 rfl (fun e => k4 (by simpa [Value.ownBlock] using e.symm))) (fun _ hk => hk.2) _) (fun _ _ => trivial)
theorem IsP.walk (h : IsP w W g1 vO1 g2 gS2 cS2 (.slice none 0 0) g8 n c8 AM cM O M xS xO out) {vU : Value} {xS' : List Bool} {xO' : List Int} (hi : IsW (.slice AM M.length cM) M.length w.heap.size W1 g2 gS2 cS2 vU xS' xO') (hk : KeepW g2 gS2 W (.slice none 0 0) W1 vU) : IsP w W1 g1 vO1 g2 gS2 cS2 vU g8 n c8 AM cM O M xS' xO' out := by
  obtain ⟨⟨a, b, h1⟩, h2, h3, h4, h5, ⟨k1, k2, k3, k4, k5⟩, h7⟩ := h
  have hn : ∀ i : Nat, some i ≠ (Value.slice none 0 0).ownBlock := by simp [Value.ownBlock]
  have l8 := Kd.R_lt h5 g8 rfl
  refine ⟨⟨a, b, ?_⟩, Kd.R_step h2 (fun k ho hl => hk.2.1 k hl ho.1 ho.2.1 (hn k)), hi, Kd.R_step h4 (fun k ho hl => hk.2.1 k hl ho.1 ho.2.1 (hn k)), ?_, ⟨k1, k2, k3, k4, k5⟩, fun e => ?_⟩
  · rw [hk.2.1 g1 (blk_lt h1) k1 k2 (hn g1)]; exact h1
  · have h6 : Kd.R (Kd.int .i64) 3 W w.heap.size (fun k => k = g8) (.slice (some ⟨g8, 0, none⟩) n c8) out := by
      obtain ⟨_, hh⟩ := h5
      exact ⟨fun k hk => by simpa [Value.ownBlock] using hk.symm, hh.imp_ (fun _ _ hp => hp)⟩
    exact Kd.R_mono (Kd.R_step h6 (fun k ho hl => hk.2.1 k hl (by rw [ho]; exact k4) (by rw [ho]; exact k5) (hn k))) (fun _ _ => trivial)
  · rcases hk.2.2 g8 e.symm with h8 | h8
    · simp [Value.ownBlock] at h8
    · omega
theorem IsP.setOut (h : IsP w W g1 vO1 g2 gS2 cS2 vO2 g8 n c8 AM cM O M xS xO out) (i x : Int) : IsP w (W.setCell ⟨g8, i.toNat, none⟩ (.int .i64 x)) g1 vO1 g2 gS2 cS2 vO2 g8 n c8 AM cM O M xS xO (out.set i.toNat x) := by
  obtain ⟨⟨a, b, h1⟩, h2, ⟨h3a, h3b, h3c, h3d⟩, h4, h5, ⟨k1, k2, k3, k4, k5⟩, h7⟩ := h
  have hp := Kd.R_putg h5 i x
  refine ⟨⟨a, b, ?_⟩, Kd.R_far h2 (fun k hk => hk.2.2) _, ⟨?_, h3b, ?_, TJ_far h3d h7⟩, Kd.R_far h4 (fun k hk => hk.2.2) _, hp.1, ⟨k1, k2, k3, k4, k5⟩, h7⟩
  · rw [Below.heap_setCell W ⟨g8, _, none⟩ _ g1 k3]; exact h1
  · rw [Below.heap_setCell W ⟨g8, _, none⟩ _ g2 (fun e => k4 e.symm)]; exact h3a
  · exact Kd.R_mono (Kd.R_far (p := ⟨g8, i.toNat, none⟩) (Kd.R_far1 h3c rfl (fun e => k5 (by simpa [Value.ownBlock] using e))) (fun _ hk => hk.2) _) (fun _ _ => trivial)
theorem IsP.rdn (h : IsP w W g1 vO1 g2 gS2 cS2 (.slice none 0 0) g8 n c8 AM cM O M xS xO out) : RdN (fun W' => ∃ v', KeepW g2 gS2 W (.slice none 0 0) W' v') AM M :=
  RdN_R h.2.2.2.1 (fun W' hW k ho hl => by
    obtain ⟨v', hk⟩ := hW
    exact hk.2.1 k hl ho.1 ho.2.1 (by simp [Value.ownBlock]))
theorem IsP.kept (h : IsP w W g1 vO1 g2 gS2 cS2 (.slice none 0 0) g8 n c8 AM cM O M xS xO out) (hB : Below w.heap.size w W) {vU : Value} (hk : KeepW g2 gS2 W (.slice none 0 0) W1 vU) : Below w.heap.size w W1 := by
  have hk2 := hk.toBelow (B := w.heap.size) h.2.2.1.2.1 (Kd.R_base h.2.2.1.2.2.1 gS2 rfl) (by simp [Value.ownBlock]) hB.size
  exact ⟨hk2.os.trans hB.os, hk2.tape.trans hB.tape, hk2.output.trans hB.output, Nat.le_trans hB.size hk2.size, fun k hl => (hk2.block k hl).trans (hB.block k hl)⟩
end
/-- What the region of open order has made: the turned rows, the second walk's marks. -/
def MK7 (n : Nat) (M : List (List Int)) (W1 W : World) (a b : Bool) (vM vS : Value) : Prop :=
  Below W1.heap.size W1 W ∧ (a = true → Kd.R (Kd.slice 3 (Kd.int .i64)) 26 W W1.heap.size (fun _ => True) vM M) ∧ (b = true → (∃ k, vS.ownBlock = some k) ∧ Kd.R Kd.bool 4 W W1.heap.size (fun _ => True) vS (List.replicate n false))
section
variable {n : Nat} {M : List (List Int)} {W1 W W2 : World} {a b : Bool} {vM vS v : Value}
theorem MK7.step (h : MK7 n M W1 W a b vM vS) (hw : Below W.heap.size W W2) : MK7 n M W1 W2 a b vM vS := ⟨below_step h.1 hw, fun k => Kd.R_below (h.2.1 k) hw, fun k => ⟨(h.2.2 k).1, Kd.R_below (h.2.2 k).2 hw⟩⟩
theorem MK7.pa (h : MK7 n M W1 W false b vM vS) (hw : Below W.heap.size W W2) (ho : Kd.S (Kd.slice 3 (Kd.int .i64)) 26 W2 W.heap.size (fun _ => True) v M) : MK7 n M W1 W2 true b v vS := by
  have hs := h.step hw
  exact ⟨hs.1, fun _ => Kd.R_lower (Kd.S_R ho) (below_size h.1), hs.2.2⟩
theorem MK7.pb (h : MK7 n M W1 W a false vM vS) (hw : Below W.heap.size W W2) (ho : Kd.R Kd.bool 4 W2 W.heap.size (fun _ => True) v (List.replicate n false)) (hat : ∃ k, v.ownBlock = some k) : MK7 n M W1 W2 a true vM v := by
  have hs := h.step hw
  exact ⟨hs.1, hs.2.1, fun _ => ⟨hat, Kd.R_lower ho (below_size h.1)⟩⟩
end
theorem TJ_atB {w w0 : World} {v : Value} {xs : List Bool} (h : Kd.R Kd.bool 4 w w0.heap.size (fun _ => True) v xs) (hv : ∃ k, v.ownBlock = some k) : ∃ g c, v = .slice (some ⟨g, 0, none⟩) xs.length c := by
  obtain ⟨k, hk⟩ := hv
  obtain ⟨h1, ⟨e1, e2⟩ | ⟨g, cap, cur, e1, _⟩⟩ := Kd.own_of_R h
  · subst e1; simp [Value.ownBlock] at hk
  · exact ⟨g, cap, e1⟩
section
variable {nx : Value} {n : Nat} {w W W1 W2 : World} {g gS cS : Nat} {v vO : Value} {Sn : List Bool} {O : List Int}
theorem IsW.kept (h : IsW nx n w.heap.size W g gS cS vO Sn O) (hB : Below w.heap.size w W) (hk : KeepW g gS W vO W1 v) : Below w.heap.size w W1 := by
  have hk2 := hk.toBelow (B := w.heap.size) h.2.1 (Kd.R_base h.2.2.1 gS rfl) (fun k hk => Kd.R_base h.2.2.2 k hk) hB.size
  exact ⟨hk2.os.trans hB.os, hk2.tape.trans hB.tape, hk2.output.trans hB.output, Nat.le_trans hB.size hk2.size, fun k hl => (hk2.block k hl).trans (hB.block k hl)⟩
theorem IsW.rdn {A0 : Option Addr} {N : List (List Int)} (hN : Kd.C (Kd.slice 3 (Kd.int .i64)) w A0 N.length N) (h : IsW nx n w.heap.size W g gS cS vO Sn O) (hB : Below w.heap.size w W) (hw : Below W.heap.size W W2) : RdN (fun W' => ∃ v', KeepW g gS W2 vO W' v') A0 N :=
  RdN_C hN (fun W' hW => by
    obtain ⟨v', hk⟩ := hW
    exact (h.below hw).kept (below_step hB hw) hk)
end
theorem MK7.b {n : Nat} {M : List (List Int)} {W1 W : World} {a b : Bool} {vM vS : Value} (h : MK7 n M W1 W a b vM vS) : Below W1.heap.size W1 W := h.1
theorem IsP.mk {nx vO1 : Value} {n n8 c8 g8 g1 g2 gS cS gS2 cS2 cM : Nat} {AM : Option Addr} {w wr w1 w2 : World} {Sn : List Bool} {O out : List Int} {M : List (List Int)} (hI : IsW nx n w.heap.size wr g1 gS cS vO1 Sn O) (hB : Below w.heap.size w wr) (hM : MK7 M.length M wr w1 true true (.slice AM M.length cM) (.slice (some ⟨gS2, 0, none⟩) M.length cS2)) (hbk : w1.heap[g2]? = some (.cells #[.slice AM M.length cM, .slice (some ⟨gS2, 0, none⟩) M.length cS2, .slice none 0 0] 58 (0, 0))) (hg2 : wr.heap.size ≤ g2 ∧ gS2 < g2)
    (h8 : Kd.R (Kd.int .i64) 3 w2 w1.heap.size (fun _ => True) (.slice (some ⟨g8, 0, none⟩) n8 c8) out) (hw : Below w1.heap.size w1 w2) : IsP w w2 g1 vO1 g2 gS2 cS2 (.slice none 0 0) g8 n8 c8 AM cM O M (List.replicate M.length false) [] out := by
  have hs1 := hB.size
  have hs2 := hM.1.size
  have l2 := blk_lt hbk
  have b8 := Kd.R_base h8 g8 rfl
  have l1 := blk_lt hI.1
  have rM := hM.2.1 rfl
  have rS := (hM.2.2 rfl).2
  have bS := Kd.R_base rS gS2 rfl
  obtain ⟨cells, hc⟩ := Kd.R_typed rS gS2 rfl
  refine ⟨⟨_, _, blk_below (blk_below hI.1 hM.1) hw⟩, ?_, ⟨blk_below hbk hw, by omega, Kd.R_lower (Kd.R_below rS hw) hs1, Kd.R_nil _ _ _ _ _⟩, ?_, Kd.R_lower h8 (by omega), ⟨by omega, by omega, by omega, by omega, by omega⟩, by simp [Value.ownBlock]⟩
  · exact Kd.R_below (Kd.R_below (Kd.R_mono (Kd.R_bound hI.2.2.2) (fun k hk => ⟨by have := hk.2.2.1; omega, by have := hk.2.2.1; omega, by have := hk.2.2.1; omega⟩)) hM.1) hw
  · have r1 := Kd.R_types rM hbk (by decide)
    have r2 := Kd.R_types r1 hc (by decide)
    exact Kd.R_lower (Kd.R_below (Kd.R_mono (Kd.R_bound r2) (fun k hk => ⟨hk.1.1.2, hk.1.2, by have := hk.2.2.1; omega⟩)) hw) hs1
theorem IsP.w {w W : World} {g1 g2 gS2 cS2 g8 n c8 cM : Nat} {vO1 vO2 : Value} {AM : Option Addr} {O xO out : List Int} {M : List (List Int)} {xS : List Bool} (h : IsP w W g1 vO1 g2 gS2 cS2 vO2 g8 n c8 AM cM O M xS xO out) : IsW (.slice AM M.length cM) M.length w.heap.size W g2 gS2 cS2 vO2 xS xO := h.2.2.1

def spec_l11Parts.w : Nat → List (List Int) → Int → List Bool → List Int → Option (List Int)
 | 0, _, _, _, _ => none
 | k + 1, N, i, Sn, O => if i < (N.length : Int) then ((spec_walk.f k N i Sn O).bind fun t => spec_l11Parts.w k N (wrap64 (i + 1)) t.1 t.2) else some O
def spec_l11Parts.m : Nat → List Int → Int → Int → Option Int
 | 0, _, _, _ => none
 | k + 1, row, i, l => if i < (row.length : Int) then (if 0 ≤ i then spec_l11Parts.m k row (wrap64 (i + 1)) (if rd row i < l then rd row i else l) else none) else some l
def spec_l11Parts.s : Nat → List Int → Int → Int → List Int → Option (List Int)
 | 0, _, _, _, _ => none
 | k + 1, row, i, l, out => if i < (row.length : Int) then (if 0 ≤ i ∧ 0 ≤ rd row i ∧ rd row i < (out.length : Int) then spec_l11Parts.s k row (wrap64 (i + 1)) l (out.set (rd row i).toNat l) else none) else some out
def spec_l11Parts.o : Nat → List Int → List (List Int) → Int → List Bool → List Int → Option (List Int)
 | 0, _, _, _, _, _ => none
 | k + 1, O, M, i, Sn, out => if i ≥ 0 then (if i < (O.length : Int) then ((spec_walk.f k M (rd O i) Sn []).bind fun t => (spec_l11Parts.m k t.2 0 (M.length : Int)).bind fun l => (spec_l11Parts.s k t.2 0 l out).bind fun out' => spec_l11Parts.o k O M (wrap64 (i - 1)) t.1 out') else none) else some out
def spec_l11Parts.f (k : Nat) (N : List (List Int)) : Option (List Int) := if N.length ≤ 1048576 then ((spec_l11Parts.w k N 0 (List.replicate N.length false) []).bind fun O => (spec_l11Turn.f k N).bind fun M => if M.length = N.length then spec_l11Parts.o k O M (wrap64 ((O.length : Int) - 1)) (List.replicate N.length false) (List.replicate N.length 0) else none) else none
theorem TJ_info4 : (Try.prog.info? 4).map (fun i => (i.zero, i.size, i.bytes)) = some (some (.bool false), 1, 1) := by kernel_rfl
def spec_l11Parts.T7 : Bool × List (List Nat × List Nat) := (true, [([], []), ([0], [0]), ([], []), ([2], [2]), ([3, 3], [3]), ([1, 4], [1, 4]), ([5], [5]), ([6, 1, 0, 1, 2, 3, 4, 5, 6], [6])])
def spec_l11Parts.B7 : List Nat := [0, 1, 0, 4, 12, 31, 63, 127]
theorem spec_l11Parts.tab7 : rtab .any (opsOf Try.f28 7) = spec_l11Parts.T7 := by kernel_rfl
theorem spec_l11Parts.bits7 : waitsOk spec_l11Parts.T7.2 spec_l11Parts.B7 = true := by kernel_rfl
theorem spec_l11Parts.calls (k : Nat) (A0 : Option Addr) (c0 : Nat) (N : List (List Int)) (r : List Int) (w : World) (hr0 : Kd.C (Kd.slice 3 (Kd.int .i64)) w A0 N.length N) (hc0 : N.length ≤ c0) (h : spec_l11Parts.f k N = some r) :
    Calls Try.prog 28 #[.slice A0 N.length c0] w fun e w' => ∃ v0_ : Value, e = .returned (v0_) ∧ Kd.R (Kd.int .i64) 3 w' w.heap.size (fun _ => True) v0_ r ∧ Below w.heap.size w w' := by
 unfold spec_l11Parts.f at h
 by_cases c1 : N.length ≤ 1048576
 ·skip
  rw [if_pos c1] at h
  obtain ⟨O, AW_, h⟩ := Sh.ba h
  obtain ⟨M, AT_, h⟩ := Sh.ba h
  by_cases c2 : M.length = N.length
  ·skip
   rw [if_pos c2] at h
   have hu58 := Try.underlying58
   have HN := am_ hr0
   have HC := am_ hc0
   have LM := am_ c1
   have ML := am_ c2
   have LQ : Aside0 (((N.length : Int)).toNat * 1 ≤ 281474976710656) := ⟨by omega⟩
   have H' := am_ h
   have HB := am_ (Below.refl w.heap.size w)
   clear h c1 c2 hr0 hc0
   go_enter Try.func28, Try.ntmps28
   go_wp2_with (first | ((with_reducible refine Sh.d 16 ?_); refine Kd.R_make Kd.bool (w0 := w) w.heap.size 4 rfl (N := 16) rfl 56 _ _ rfl (N.length : Int) rfl rfl Try.underlying56 (.bool false) 1 TJ_info4 rfl (by decide) (by decide) false (ok := fun _ => True) (okp := fun _ => True) rfl (fun _ hk => hk) trivial (Int.natCast_nonneg _) LQ.out Sh.bw (below_size Sh.bw) ?_; intro v3 w3 ho hb hg hat; rw [TJ_len1] at ho; obtain ⟨b3, hb3, _⟩ := hat; obtain ⟨gS, cS, eS⟩ := TJ_atB ho ⟨b3, hb3⟩; subst eS; rw [List.length_replicate] at ho ⊢; have HS := am_ ho; clear HB hb3 hg ho; have HB := am_ hb; clear hb) | ((with_reducible refine Sh.d 18 ?_); refine Sh.bx (N := 18) (cs := #[.slice A0 N.length c0, .slice (some ⟨gS, 0, none⟩) N.length cS, .slice none 0 0]) (t := 58) (h := ?_); intro g1 hg w4 hbox hb; have HI := am_ (show IsW (.slice A0 N.length c0) N.length w.heap.size w4 g1 gS cS (.slice none 0 0) (List.replicate N.length false) [] from ⟨hbox, by rw [hg]; exact below_size HB.out, Kd.R_below HS.out hb, Kd.R_nil _ _ _ _ _⟩); replace HB := Sh.hb hb; clear hb hbox hg HS))
   go_loopg [21] k (fun kq v21 w' => ∃ (i : Int) (vT : Value) (xS : List Bool) (xO : List Int), v21 = .int .i64 i ∧ Aside0 (spec_l11Parts.w kq N i xS xO = some O) ∧ Aside0 (kq ≤ k) ∧ Aside0 (IsW (.slice A0 N.length c0) N.length w.heap.size w' g1 gS cS vT xS xO) ∧ Aside0 (Below w.heap.size w w'))
   case atStart => exact ⟨0, _, _, _, rfl, AW_, ⟨Nat.le_refl _⟩, HI, HB⟩
   case round =>
    clear AW_ HI HB
    obtain ⟨i, vT, xS, xO, rfl, HA, HK1, HI, HB⟩ := hrel
    cases gk with
    | zero => exact absurd HA.out (by simp [spec_l11Parts.w])
    | succ k1 =>
     have H := HA.out
     clear HA
     simp only [spec_l11Parts.w] at H
     by_cases c3 : i < (N.length : Int)
     ·rw [if_pos c3] at H
      have c3b := decide_eq_true c3
      have c3t := eq_true c3
      obtain ⟨t, A_, H⟩ := Sh.ba H
      have H2 := am_ H
      clear H
      have HQ := am_ (show ∀ W1, Below wr.heap.size wr W1 → RdN (fun W' => ∃ v', KeepW g1 gS W1 vT W' v') A0 N from fun W1 hW1 => IsW.rdn HN.out HI.out HB.out hW1)
      go_wp2_with (first | (go_at_call 45; (with_reducible refine (spec_walk.calls k1 _ _ N w.heap.size g1 gS cS vT xS xO i t _ (HQ.out _ TJ_bl) (IsW.rl HI.out) A_.out).mono ?_); rintro e w9 ⟨rfl, vU, hI, hk⟩; have n1_ := am_ hI; have n2_ := am_ (IsW.kept (IsW.rl HI.out) Sh.bw hk); clear hI hk HI HB HQ; have HI := n1_; have HB := n2_; clear n1_ n2_))
      go_roundg k1
      case measure => have := HK1.out; omega
      case rel => exact ⟨_, _, _, _, rfl, H2, ⟨by have := HK1.out; omega⟩, ⟨IsW.rl HI.out⟩, ⟨Sh.bw⟩⟩
     ·rw [if_neg c3] at H
      have c3b := decide_eq_false c3
      injection H with H
      subst H
      obtain ⟨AO, cO, eO⟩ := Kd.R_slice HI.out.2.2.2
      subst eO
      go_wp2
      obtain ⟨vM, eM⟩ : ∃ v : Value, v = undef := ⟨_, rfl⟩
      obtain ⟨vS, eS⟩ : ∃ v : Value, v = undef := ⟨_, rfl⟩
      have hM := am_ (show MK7 M.length M wr wr.drew false false vM vS from ⟨below_drew1 (Below.refl _ _), by simp, by simp⟩)
      clear eM eS
      refine start_ (n := 8) (S := fun w' => True) (ds := []) (Sh.nm 8 0) (by kernel_rfl) rfl rfl trivial (fun hHeld => ?_)
      refine with_tabW spec_l11Parts.tab7 spec_l11Parts.bits7 (fun HT_ HW_ => ?_)
      refine Sh.qA 0 ?_; refine Sh.qA 2 ?_; refine Sh.qA 3 ?_
      refine join_ (σ := Value × Value) 3 (Sh.nm 8 31) (fun s => [(29, s.1), (32, s.2)]) (fun s w' => MK7 M.length M wr w' true true s.1 s.2) ?_ ?_
      rotate_left
      · intro hJ1_4
        refine join_ (σ := Value × Value) 4 (Sh.nm 8 15) (fun s => [(29, s.1)]) (fun s w' => MK7 M.length M wr w' true false s.1 s.2) ?_ ?_
        rotate_left
        · intro hJ1
          refine join_ (σ := Value × Value) 4 (Sh.nm 8 29) (fun s => [(32, s.2)]) (fun s w' => MK7 M.length M wr w' false true s.1 s.2) ?_ ?_
          rotate_left
          · intro hJ4
            refine two_ (i := 1) (j := 4) (Ni := some 29) (Nj := some 32) (Sh.nm 8 15) (Sh.nm 8 29) rfl rfl rfl rfl (two_of HT_.out (by kernel_rfl)) (by decide) (by decide) (fun K hK => ?_) (fun K hK => ?_)
            · skip
              refine goes_ Try.func37 (by kernel_rfl) rfl #[.slice A0 N.length c0] (by rfl) rfl rfl (by simp only [List.map_toArray, List.map_cons, List.map_nil]; rfl) ?_
              with_reducible refine (spec_l11Turn.calls k _ _ N M _ (Kd.C_below HN.out (below_step HB.out (MK7.b hM.out))) HC.out AT_.out).mono ?_
              rintro e w1 ⟨v1, rfl, ho, hb⟩
              refine ⟨_, rfl, ?_⟩
              have hM2 := am_ (MK7.pa hM.out hb ho)
              clear ho hb hM
              refine hK.out _ _ trivial (fun hHeld => ?_)
              clear hK K
              refine norm_ (a' := ?_) ?_ ?_
              rotate_left
              · show Act.put _ (some 29) _ = _
                simp only [Act.put, List.setIfInBounds_toArray, List.set_cons_zero, List.set_cons_succ, i64_w, i32_w]
                rfl
              exact norm_ (by first | (simp only [putAll, Act.put, List.setIfInBounds_toArray, List.set_cons_zero, List.set_cons_succ]; done) | (simp only [putAll, Act.put, List.setIfInBounds_toArray, List.set_cons_zero, List.set_cons_succ]; rfl)) (hJ1 (v1, vS) _ hM2.out)
            · skip
              refine Kd.R_make_step Kd.bool _ 4 (by rfl) rfl 56 _ _ rfl (N.length : Int) (by rfl) (by rfl) Try.underlying56 (.bool false) 1 TJ_info4 rfl (by decide) (by omega) false (ok := fun _ => True) (okp := fun _ => True) rfl (fun _ hk => hk) trivial (by omega) (by have := LM.out; omega) (Below.refl _ _) (Nat.le_refl _) ?_
              intro v1 w1 ho hb _ hat
              obtain ⟨b1, hat1, _⟩ := hat
              rw [TJ_len1, ← ML.out] at ho
              have hM2 := am_ (MK7.pb hM.out hb ho ⟨b1, hat1⟩)
              clear ho hb hat1 hM
              refine hK.out _ _ trivial (fun hHeld => ?_)
              clear hK K
              refine norm_ (a' := ?_) ?_ ?_
              rotate_left
              · show Act.put _ (some 32) _ = _
                simp only [Act.put, List.setIfInBounds_toArray, List.set_cons_zero, List.set_cons_succ, i64_w, i32_w]
                rfl
              exact norm_ (by first | (simp only [putAll, Act.put, List.setIfInBounds_toArray, List.set_cons_zero, List.set_cons_succ]; done) | (simp only [putAll, Act.put, List.setIfInBounds_toArray, List.set_cons_zero, List.set_cons_succ]; rfl)) (hJ4 (vM, v1) _ hM2.out)
          · skip
            rintro ⟨vM, vS⟩ w' hM
            have hHeld : True := trivial
            dsimp only at hM
            replace hM := am_ hM
            refine norm_ (a' := ?_) ?_ ?_
            rotate_left
            · simp only [putAll, Act.put, List.setIfInBounds_toArray, List.set_cons_zero, List.set_cons_succ]
              rfl
            refine one_ (i := 1) (N := some 29) (Sh.nm 8 31) rfl rfl (one_of HT_.out (by kernel_rfl)) (by decide) (fun K hK => ?_)
            refine goes_ Try.func37 (by kernel_rfl) rfl #[.slice A0 N.length c0] (by rfl) rfl rfl (by simp only [List.map_toArray, List.map_cons, List.map_nil]; rfl) ?_
            with_reducible refine (spec_l11Turn.calls k _ _ N M _ (Kd.C_below HN.out (below_step HB.out (MK7.b hM.out))) HC.out AT_.out).mono ?_
            rintro e w1 ⟨v1, rfl, ho, hb⟩
            refine ⟨_, rfl, ?_⟩
            have hM2 := am_ (MK7.pa hM.out hb ho)
            clear ho hb hM
            refine hK.out _ _ trivial (fun hHeld => ?_)
            clear hK K
            refine norm_ (a' := ?_) ?_ ?_
            rotate_left
            · show Act.put _ (some 29) _ = _
              simp only [Act.put, List.setIfInBounds_toArray, List.set_cons_zero, List.set_cons_succ, i64_w, i32_w]
              rfl
            exact norm_ (by first | (simp only [putAll, Act.put, List.setIfInBounds_toArray, List.set_cons_zero, List.set_cons_succ]; done) | (simp only [putAll, Act.put, List.setIfInBounds_toArray, List.set_cons_zero, List.set_cons_succ]; rfl)) (hJ1_4 (v1, vS) _ hM2.out)
        · skip
          rintro ⟨vM, vS⟩ w' hM
          have hHeld : True := trivial
          dsimp only at hM
          replace hM := am_ hM
          refine norm_ (a' := ?_) ?_ ?_
          rotate_left
          · simp only [putAll, Act.put, List.setIfInBounds_toArray, List.set_cons_zero, List.set_cons_succ]
            rfl
          refine one_ (i := 4) (N := some 32) (Sh.nm 8 31) rfl rfl (one_of HT_.out (by kernel_rfl)) (by decide) (fun K hK => ?_)
          refine Kd.R_make_step Kd.bool _ 4 (by rfl) rfl 56 _ _ rfl (N.length : Int) (by rfl) (by rfl) Try.underlying56 (.bool false) 1 TJ_info4 rfl (by decide) (by omega) false (ok := fun _ => True) (okp := fun _ => True) rfl (fun _ hk => hk) trivial (by omega) (by have := LM.out; omega) (Below.refl _ _) (Nat.le_refl _) ?_
          intro v1 w1 ho hb _ hat
          obtain ⟨b1, hat1, _⟩ := hat
          rw [TJ_len1, ← ML.out] at ho
          have hM2 := am_ (MK7.pb hM.out hb ho ⟨b1, hat1⟩)
          clear ho hb hat1 hM
          refine hK.out _ _ trivial (fun hHeld => ?_)
          clear hK K
          refine norm_ (a' := ?_) ?_ ?_
          rotate_left
          · show Act.put _ (some 32) _ = _
            simp only [Act.put, List.setIfInBounds_toArray, List.set_cons_zero, List.set_cons_succ, i64_w, i32_w]
            rfl
          exact norm_ (by first | (simp only [putAll, Act.put, List.setIfInBounds_toArray, List.set_cons_zero, List.set_cons_succ]; done) | (simp only [putAll, Act.put, List.setIfInBounds_toArray, List.set_cons_zero, List.set_cons_succ]; rfl)) (hJ1_4 (vM, v1) _ hM2.out)
      rintro ⟨vM, vS⟩ w' hM
      have hHeld : True := trivial
      dsimp only at hM
      replace hM := am_ hM
      obtain ⟨AM, cM, eM⟩ := Kd.R_slice (hM.out.2.1 rfl)
      obtain ⟨gS2, cS2, eS⟩ := TJ_atB (hM.out.2.2 rfl).2 (hM.out.2.2 rfl).1
      subst eM eS
      rw [List.length_replicate] at hM ⊢
      refine norm_ (a' := ?_) ?_ ?_
      rotate_left
      · simp only [putAll, Act.put, List.setIfInBounds_toArray, List.set_cons_zero, List.set_cons_succ]
        rfl
      refine one_ (i := 5) (N := some 33) (Sh.nm 8 63) rfl rfl (one_of HT_.out (by kernel_rfl)) (by decide) (fun K hK => ?_)
      refine value_ (w1 := ?_) (v := ?_) (by rfl) rfl ?_ ?_
      rotate_left 2
      · go_simp
        constructor
        · rfl
        · rfl
      refine hK.out _ _ trivial (fun hHeld => ?_)
      clear hK K
      refine norm_ (a' := ?_) ?_ ?_
      rotate_left
      · show Act.put _ (some 33) _ = _
        simp only [Act.put, List.setIfInBounds_toArray, List.set_cons_zero, List.set_cons_succ, i64_w, i32_w]
        rfl
      refine one_ (i := 6) (N := some 34) (Sh.nm 8 127) rfl rfl (one_of HT_.out (by kernel_rfl)) (by decide) (fun K hK => ?_)
      obtain ⟨g2, hg⟩ : ∃ g, g = w'.heap.size := ⟨_, rfl⟩
      refine value_ (w1 := w'.alloc (.cells #[.slice AM M.length cM, .slice (some ⟨gS2, 0, none⟩) M.length cS2, .slice none 0 0] 58 (0, 0))) (v := .pointer (some ⟨g2, 0, none⟩)) (by rfl) rfl (by rw [hg]; first | (go_simp; done) | (go_simp; rfl)) ?_
      have hBK := am_ (heap_alloc_new w' (.cells #[.slice AM M.length cM, .slice (some ⟨gS2, 0, none⟩) M.length cS2, .slice none 0 0] 58 (0, 0)))
      have hM3 := am_ (MK7.step hM.out (below_alloc (Below.refl _ _) (.cells #[.slice AM M.length cM, .slice (some ⟨gS2, 0, none⟩) M.length cS2, .slice none 0 0] 58 (0, 0))))
      rw [← hg] at hBK
      have hG2 := am_ (show wr.heap.size ≤ g2 ∧ gS2 < g2 from ⟨by rw [hg]; exact below_size hM.out.1, by rw [hg]; exact Kd.R_lt (hM.out.2.2 rfl).2 gS2 rfl⟩)
      clear hg hM
      generalize w'.alloc _ = w1 at hBK hM3 ⊢
      refine hK.out _ _ trivial (fun hHeld => ?_)
      clear hK K
      refine norm_ (a' := ?_) ?_ ?_
      rotate_left
      · show Act.put _ (some 34) _ = _
        simp only [Act.put, List.setIfInBounds_toArray, List.set_cons_zero, List.set_cons_succ, i64_w, i32_w]
        rfl
      refine Sh.qA 7 ?_
      refine done_ (done_of HT_.out (by kernel_rfl)) ?_
      clear hHeld
      have L8 : Aside0 (((N.length : Int)).toNat * 8 ≤ 281474976710656) := ⟨by have := LM.out; omega⟩
      go_wp2_with (first | ((with_reducible refine Sh.d 37 ?_); refine Kd.R_make (Kd.int .i64) (w0 := w1) w1.heap.size 3 rfl (N := 37) rfl 26 _ _ rfl (N.length : Int) rfl rfl Try.underlying26 (.int .i64 0) 8 info3 rfl (by decide) (by decide) 0 (ok := fun _ => True) (okp := fun _ => True) rfl (fun _ hk => hk) trivial (Int.natCast_nonneg _) L8.out TJ_bl (below_size TJ_bl) ?_; intro v8 w8 ho hb hg hat; rw [TJ_len1] at ho; obtain ⟨b8, hb8, _⟩ := hat; obtain ⟨g8, c8, e8⟩ := TJ_at ho (.inl ⟨b8, hb8⟩); subst e8; rw [List.length_replicate] at ho ⊢; have HP := am_ (IsP.mk HI.out HB.out hM3.out hBK.out hG2.out ho hb); replace HB := am_ (below_step (below_step HB.out (MK7.b hM3.out)) hb); clear hb8 hg hb ho HI hM3 hBK hG2; obtain ⟨a1_, b1_, h1_⟩ := HP.out.1; have hg1 := (TJ_b3 h1_).1.2.2; clear h1_))
      go_loopg [7] k (fun kq v7 w' => ∃ (i : Int) (vU : Value) (yS : List Bool) (yO out : List Int), v7 = .int .i64 i ∧ Aside0 (spec_l11Parts.o kq xO M i yS out = some r) ∧ Aside0 (kq ≤ k) ∧ Aside0 (IsP w w' g1 (.slice AO xO.length cO) g2 gS2 cS2 vU g8 N.length c8 AM cM xO M yS yO out) ∧ Aside0 (Below w.heap.size w w'))
      case atStart =>
       have HR_ : List.replicate M.length false = List.replicate N.length false := by rw [ML.out]
       rw [← HR_] at H'
       exact ⟨_, _, _, _, _, rfl, H', ⟨Nat.le_refl _⟩, ⟨IsP.rl HP.out⟩, ⟨Sh.bw⟩⟩
      case round =>
       clear H' HP HB hg1 a1_ b1_ HK1 c3b
       obtain ⟨i2, vU, yS, yO, out, rfl, HA, HK2, HP, HB⟩ := hrel
       cases gk with
       | zero => exact absurd HA.out (by simp [spec_l11Parts.o])
       | succ k2 =>
        have H := HA.out
        clear HA
        simp only [spec_l11Parts.o] at H
        obtain ⟨a1_, b1_, h1_⟩ := HP.out.1
        have hg1 := (TJ_b3 h1_).1.2.2
        clear h1_
        obtain ⟨⟨hcz_0, hcz_1, hcz_2⟩, hfz_2⟩ := TJ_b3 HP.out.2.2.1.1
        by_cases c4 : i2 ≥ 0
        ·rw [if_pos c4] at H
         have c4b := decide_eq_true c4
         by_cases c5 : i2 < (xO.length : Int)
         ·rw [if_pos c5] at H
          have c5b := decide_eq_true c5
          have c5t := eq_true c5
          have c4t := eq_true (show 0 ≤ i2 from c4)
          have c4u := decide_eq_true (show 0 ≤ i2 from c4)
          obtain ⟨t, A1_, H⟩ := Sh.ba H
          obtain ⟨l, A2_, H⟩ := Sh.ba H
          obtain ⟨out2, A3_, H⟩ := Sh.ba H
          rw [ML.out] at A2_
          have H' := am_ H
          clear H
          obtain ⟨ad1, e1, hx1⟩ := Kd.at_int (Kd.R_reads' HP.out.2.1).2.2 i2 c4 c5
          subst e1
          obtain ⟨ww, hww⟩ : ∃ ww, ww = rd xO i2 := ⟨_, rfl⟩
          rw [← hww] at hx1 A1_
          have HX := am_ (show ∀ W, Kd.C (Kd.int .i64) W (some ad1) xO.length xO → W.cell? (ad1.add i2.toNat) = some (.int .i64 ww) from fun W hC => by obtain ⟨ad_, e_, hx_⟩ := Kd.at_int hC i2 c4 c5; injection e_ with e_; subst e_; rw [hww]; exact hx_)
          clear hww
          go_wp2_with (first | ((with_reducible refine gate_store (t := 26) (p := 50) rfl ?_); go_loud (refine store_event (t := 26) (p := 50) (v := ?vo_w12) (w1 := (wr.setCell ⟨g2, 2, none⟩ (.slice none 0 0))) ?hg ?ho ?hn ?hr ?_; (case ho => rfl); (case hg => rfl); (case hn => rfl); (case hr => first | (go_simp; done) | (go_simp; rfl)); intro w12 hw); have n1_ := am_ (show IsP w w12 g1 (.slice (some ad1) xO.length cO) g2 gS2 cS2 (.slice none 0 0) g8 N.length c8 AM cM xO M yS [] out from (by rw [hw]; exact IsP.nil HP.out)); have n2_ := am_ (show Below w.heap.size w w12 from (by rw [hw]; exact below_set HB.out HP.out.2.2.1.2.1)); clear hw HP HB hx1 hg1 hcz_0 hcz_1 hcz_2 hfz_2; have HP := n1_; have HB := n2_; clear n1_ n2_; obtain ⟨a1_, b1_, h1_⟩ := HP.out.1; have hg1 := (TJ_b3 h1_).1.2.2; clear h1_; obtain ⟨⟨hcz_0, hcz_1, hcz_2⟩, hfz_2⟩ := TJ_b3 HP.out.2.2.1.1; have hx1 := HX.out w12 (Kd.R_reads' HP.out.2.1).2.2) | (go_at_call 45; go_loud (with_reducible refine (spec_walk.calls k2 _ _ M w.heap.size g2 gS2 cS2 (.slice none 0 0) yS [] ww t _ (IsP.rdn (IsP.rl HP.out)) (IsW.rl (IsP.w HP.out)) A1_.out).mono ?_); rintro e w13 ⟨rfl, vT, hI, hk⟩; have n1_ := am_ (IsP.walk (IsP.rl HP.out) hI hk); have n2_ := am_ (IsP.kept (IsP.rl HP.out) Sh.bw hk); clear hI hk HP HB hx1 hg1 hcz_0 hcz_1 hcz_2 hfz_2; have HP := n1_; have HB := n2_; clear n1_ n2_; obtain ⟨AT, cT, eT⟩ := Kd.R_slice HP.out.2.2.1.2.2.2; subst eT; obtain ⟨⟨hcz_0, hcz_1, hcz_2⟩, hfz_2⟩ := TJ_b3 HP.out.2.2.1.1))
          go_loopg [8, 67] k2 (fun kq v8 v67 w' => ∃ (j lj : Int), v8 = .int .i64 lj ∧ v67 = .int .i64 j ∧ Aside0 (spec_l11Parts.m kq t.2 j lj = some l) ∧ Aside0 (kq ≤ k2) ∧ Aside0 (IsP w w' g1 (.slice (some ad1) xO.length cO) g2 gS2 cS2 (.slice AT t.2.length cT) g8 N.length c8 AM cM xO M t.1 t.2 out) ∧ Aside0 (Below w.heap.size w w'))
          case atStart => exact ⟨_, _, rfl, rfl, A2_, ⟨Nat.le_refl _⟩, HP, HB⟩
          case round =>
           clear A2_ HP HB hcz_0 hcz_1 hcz_2 hfz_2
           obtain ⟨j, lj, rfl, rfl, HA, HK3, HP, HB⟩ := hrel
           obtain ⟨⟨hcz_0, hcz_1, hcz_2⟩, hfz_2⟩ := TJ_b3 HP.out.2.2.1.1
           cases gk with
           | zero => exact absurd HA.out (by simp [spec_l11Parts.m])
           | succ k3 =>
            have H := HA.out
            clear HA
            simp only [spec_l11Parts.m] at H
            by_cases c6 : j < (t.2.length : Int)
            ·rw [if_pos c6] at H
             by_cases c7 : 0 ≤ j
             ·rw [if_pos c7] at H
              have c6b := decide_eq_true c6
              have c6t := eq_true c6
              have c7b := decide_eq_true c7
              have c7t := eq_true c7
              obtain ⟨ad3, e3, hx3⟩ := Kd.at_int (Kd.R_reads' HP.out.2.2.1.2.2.2).2.2 j c7 c6
              subst e3
              obtain ⟨xx, hxx⟩ : ∃ xx, xx = rd t.2 j := ⟨_, rfl⟩
              rw [← hxx] at hx3 H
              clear hxx
              by_cases c8 : xx < lj
              ·rw [if_pos c8] at H
               have c8b := decide_eq_true c8
               have H3 := am_ H
               clear H
               go_wp2
               go_roundg k3
               case measure => have := HK3.out; omega
               case rel => exact ⟨_, _, rfl, rfl, H3, ⟨by have := HK3.out; omega⟩, ⟨IsP.rl HP.out⟩, ⟨Sh.bw⟩⟩
              ·rw [if_neg c8] at H
               have c8b := decide_eq_false c8
               have H3 := am_ H
               clear H
               go_wp2
               go_roundg k3
               case measure => have := HK3.out; omega
               case rel => exact ⟨_, _, rfl, rfl, H3, ⟨by have := HK3.out; omega⟩, ⟨IsP.rl HP.out⟩, ⟨Sh.bw⟩⟩
             ·rw [if_neg c7] at H
              cases H
            ·rw [if_neg c6] at H
             have c6b := decide_eq_false c6
             injection H with H
             subst H
             go_wp2
             go_loopg [81] k2 (fun kq v81 w' => ∃ (j : Int) (out' : List Int), v81 = .int .i64 j ∧ Aside0 (spec_l11Parts.s kq t.2 j lj out' = some out2) ∧ Aside0 (kq ≤ k2) ∧ Aside0 (IsP w w' g1 (.slice (some ad1) xO.length cO) g2 gS2 cS2 (.slice AT t.2.length cT) g8 N.length c8 AM cM xO M t.1 t.2 out') ∧ Aside0 (Below w.heap.size w w'))
             case atStart => exact ⟨_, _, rfl, A3_, ⟨Nat.le_refl _⟩, ⟨IsP.rl HP.out⟩, ⟨Sh.bw⟩⟩
             case round =>
              clear A3_ HP HB c6b c6 hcz_0 hcz_1 hcz_2 hfz_2
              obtain ⟨j, out', rfl, HA, HK4, HP, HB⟩ := hrel
              obtain ⟨⟨hcz_0, hcz_1, hcz_2⟩, hfz_2⟩ := TJ_b3 HP.out.2.2.1.1
              cases gk with
              | zero => exact absurd HA.out (by simp [spec_l11Parts.s])
              | succ k4 =>
               have H := HA.out
               clear HA
               simp only [spec_l11Parts.s] at H
               by_cases c9 : j < (t.2.length : Int)
               ·rw [if_pos c9] at H
                by_cases c10 : 0 ≤ j ∧ 0 ≤ rd t.2 j ∧ rd t.2 j < (out'.length : Int)
                ·rw [if_pos c10] at H
                 obtain ⟨p10, p11, q11⟩ := c10
                 have hl8 : out'.length = N.length := (Kd.R_reads' HP.out.2.2.2.2.1).1.symm
                 rw [hl8] at q11
                 have c9b := decide_eq_true c9
                 have c9t := eq_true c9
                 have p10b := decide_eq_true p10
                 have p10t := eq_true p10
                 obtain ⟨ad4, e4, hx4⟩ := Kd.at_int (Kd.R_reads' HP.out.2.2.1.2.2.2).2.2 j p10 c9
                 subst e4
                 obtain ⟨xx, hxx⟩ : ∃ xx, xx = rd t.2 j := ⟨_, rfl⟩
                 rw [← hxx] at hx4 H p11 q11
                 clear hxx
                 have p11b := decide_eq_true p11
                 have p11t := eq_true p11
                 have q11b := decide_eq_true q11
                 have q11t := eq_true q11
                 have hc8 : wr.cell? ⟨g8, xx.toNat, none⟩ = some (.int .i64 (rd out' xx)) := (Kd.R_celln 0 HP.out.2.2.2.2.1 xx p11 q11).1
                 have hf8 : wr.frozen? ⟨g8, xx.toNat, none⟩ = false := (Kd.R_celln 0 HP.out.2.2.2.2.1 xx p11 q11).2
                 have H3 := am_ H
                 clear H
                 go_wp2_with (first | ((with_reducible refine gate_store (t := 3) (p := 88) rfl ?_); refine store_event (t := 3) (p := 88) (v := ?vo_w24) (w1 := (wr.setCell ⟨g8, xx.toNat, none⟩ (.int .i64 lj))) ?hg ?ho ?hn ?hr ?_; (case ho => rfl); (case hg => rfl); (case hn => rfl); (case hr => first | (go_simp; done) | (go_simp; rfl)); intro w24 hw; have n1_ := am_ (show IsP w w24 g1 (.slice (some ad1) xO.length cO) g2 gS2 cS2 (.slice (some ad4) t.2.length cT) g8 N.length c8 AM cM xO M t.1 t.2 (out'.set xx.toNat lj) from (by rw [hw]; exact IsP.setOut HP.out xx lj)); have n2_ := am_ (show Below w.heap.size w w24 from (by rw [hw]; exact below_set HB.out (Kd.R_base HP.out.2.2.2.2.1 g8 rfl))); clear hw HP HB hx4 hc8 hf8 hcz_0 hcz_1 hcz_2 hfz_2; have HP := n1_; have HB := n2_; clear n1_ n2_))
                 go_roundg k4
                 case measure => have := HK4.out; omega
                 case rel => exact ⟨_, _, rfl, H3, ⟨by have := HK4.out; omega⟩, ⟨IsP.rl HP.out⟩, ⟨Sh.bw⟩⟩
                ·rw [if_neg c10] at H
                 cases H
               ·rw [if_neg c9] at H
                have c9b := decide_eq_false c9
                injection H with H
                subst H
                go_wp2
                go_roundg k2
                case measure => have := HK2.out; omega
                case rel => exact ⟨_, _, _, _, _, rfl, H', ⟨by have := HK2.out; omega⟩, ⟨IsP.rl HP.out⟩, ⟨Sh.bw⟩⟩
         ·rw [if_neg c5] at H
          cases H
        ·rw [if_neg c4] at H
         have c4b := decide_eq_false c4
         injection H with H
         subst H
         go_wp2
         exact bodyPost_ret (results_tmp rfl _ _ _) rfl ⟨.slice (some ⟨g8, 0, none⟩) N.length c8, rfl, HP.out.2.2.2.2.1, HB.out⟩
  ·rw [if_neg c2] at h
   exact absurd h (by simp)
 ·rw [if_neg c1] at h
  exact absurd h (by simp)

theorem spec_walk.mono_l : ∀ k, (∀ y0 y1 y2 y3 y4, LeO (spec_walk.l0 k y0 y1 y2 y3 y4) (spec_walk.l0 (k + 1) y0 y1 y2 y3 y4)) ∧ (∀ y0 y1 y2 y3, LeO (spec_walk.f k y0 y1 y2 y3) (spec_walk.f (k + 1) y0 y1 y2 y3))
 | 0 => ⟨fun _ _ _ _ _ r h => by simp [spec_walk.l0] at h, fun _ _ _ _ r h => by simp [spec_walk.f] at h⟩
 | k + 1 => by
  obtain ⟨ih0, ih1⟩ := spec_walk.mono_l k
  and_intros <;> intros
  all_goals (first | unfold spec_walk.l0 | unfold spec_walk.f)
  all_goals repeat' with_reducible first | apply ih0 | apply ih1 | exact LeO.refl _ | exact LeO.none _ | apply LeO.ite | refine LeO.bind ?_ fun _ => ?_
theorem spec_l11Parts.mono_w : ∀ k, (∀ y0 y1 y2 y3, LeO (spec_l11Parts.w k y0 y1 y2 y3) (spec_l11Parts.w (k + 1) y0 y1 y2 y3))
 | 0 => fun _ _ _ _ r h => by simp [spec_l11Parts.w] at h
 | k + 1 => by
  have ih0 := spec_l11Parts.mono_w k
  have ih1 := (spec_walk.mono_l k).2
  intros
  unfold spec_l11Parts.w
  repeat' with_reducible first | apply ih0 | apply ih1 | exact LeO.refl _ | exact LeO.none _ | apply LeO.ite | refine LeO.bind ?_ fun _ => ?_
theorem spec_l11Parts.mono_m : ∀ k, (∀ y0 y1 y2, LeO (spec_l11Parts.m k y0 y1 y2) (spec_l11Parts.m (k + 1) y0 y1 y2))
 | 0 => fun _ _ _ r h => by simp [spec_l11Parts.m] at h
 | k + 1 => by
  have ih0 := spec_l11Parts.mono_m k
  intros
  unfold spec_l11Parts.m
  repeat' with_reducible first | apply ih0 | exact LeO.refl _ | exact LeO.none _ | apply LeO.ite | refine LeO.bind ?_ fun _ => ?_
theorem spec_l11Parts.mono_s : ∀ k, (∀ y0 y1 y2 y3, LeO (spec_l11Parts.s k y0 y1 y2 y3) (spec_l11Parts.s (k + 1) y0 y1 y2 y3))
 | 0 => fun _ _ _ _ r h => by simp [spec_l11Parts.s] at h
 | k + 1 => by
  have ih0 := spec_l11Parts.mono_s k
  intros
  unfold spec_l11Parts.s
  repeat' with_reducible first | apply ih0 | exact LeO.refl _ | exact LeO.none _ | apply LeO.ite | refine LeO.bind ?_ fun _ => ?_
theorem spec_l11Parts.mono_o : ∀ k, (∀ y0 y1 y2 y3 y4, LeO (spec_l11Parts.o k y0 y1 y2 y3 y4) (spec_l11Parts.o (k + 1) y0 y1 y2 y3 y4))
 | 0 => fun _ _ _ _ _ r h => by simp [spec_l11Parts.o] at h
 | k + 1 => by
  have ih0 := spec_l11Parts.mono_o k
  have ih1 := (spec_walk.mono_l k).2
  have ih2 := spec_l11Parts.mono_m k
  have ih3 := spec_l11Parts.mono_s k
  intros
  unfold spec_l11Parts.o
  repeat' with_reducible first | apply ih0 | apply ih1 | apply ih2 | apply ih3 | exact LeO.refl _ | exact LeO.none _ | apply LeO.ite | refine LeO.bind ?_ fun _ => ?_
theorem spec_l11Parts.mono : ∀ a0 k, LeO (spec_l11Parts.f k a0) (spec_l11Parts.f (k + 1) a0) := by
  intro a0 k
  have ih0 := spec_l11Parts.mono_w k
  have ih1 := spec_l11Parts.mono_o k
  unfold spec_l11Parts.f
  repeat' with_reducible first | apply ih0 | apply ih1 | apply spec_l11Turn.mono | exact LeO.refl _ | exact LeO.none _ | apply LeO.ite | refine LeO.bind ?_ fun _ => ?_
mutual
def spec_l11Within.l0 : Nat → List Int → List (List Int) → List (List Int) → Int → Int → Option ((List (List Int)))
 | 0, _, _, _, _, _ => none
 | k + 1, x1, x5, x13, x14, x15 => if x15 < x14 then (if 0 ≤ x15 then (if x15 < (x13.length : Int) then (spec_l11Within.l1 k x1 x5 x15 x13 x14 x15 (rd_L1 x13 x15) ((rd_L1 x13 x15).length : Int) 0) else (none)) else (none)) else (some x5)
def spec_l11Within.l1 : Nat → List Int → List (List Int) → Int → List (List Int) → Int → Int → List Int → Int → Int → Option ((List (List Int)))
 | 0, _, _, _, _, _, _, _, _, _ => none
 | k + 1, x1, x5, x6, x13, x14, x15, x20, x21, x22 => if x22 < x21 then (if 0 ≤ x22 then (if x22 < (x20.length : Int) then (if 0 ≤ x6 then (if x6 < (x1.length : Int) then (if 0 ≤ (rd x20 x22) then (if (rd x20 x22) < (x1.length : Int) then (if (rd x1 x6) = (rd x1 (rd x20 x22)) then (if x6 < (x5.length : Int) then (if (rd_L1 x5 x6).length < 17592186044416 then (spec_l11Within.l1 k x1 (x5.set (x6 : Int).toNat ((rd_L1 x5 x6) ++ [rd x20 x22])) x6 x13 x14 x15 x20 x21 (wrap64 (x22 + 1))) else (none)) else (none)) else (spec_l11Within.l1 k x1 x5 x6 x13 x14 x15 x20 x21 (wrap64 (x22 + 1)))) else (none)) else (none)) else (none)) else (none)) else (none)) else (none)) else (spec_l11Within.l0 k x1 x5 x13 x14 (wrap64 (x15 + 1)))
end
def spec_l11Within.f (k : Nat) (l0 : List (List Int)) (l1 : List Int) : Option ((List (List Int))) := if 0 ≤ (l0.length : Int) then (if ((l0.length : Int) : Int).toNat ≤ 11728124029610 then (spec_l11Within.l0 k l1 (List.replicate ((l0.length : Int) : Int).toNat []) l0 (l0.length : Int) 0) else (none)) else (none)
theorem spec_l11Within.mono_l : ∀ k, (∀ y0 y1 y2 y3 y4, LeO (spec_l11Within.l0 k y0 y1 y2 y3 y4) (spec_l11Within.l0 (k + 1) y0 y1 y2 y3 y4)) ∧ (∀ y0 y1 y2 y3 y4 y5 y6 y7 y8, LeO (spec_l11Within.l1 k y0 y1 y2 y3 y4 y5 y6 y7 y8) (spec_l11Within.l1 (k + 1) y0 y1 y2 y3 y4 y5 y6 y7 y8))
 | 0 => ⟨fun _ _ _ _ _ r h => by simp [spec_l11Within.l0] at h, fun _ _ _ _ _ _ _ _ _ r h => by simp [spec_l11Within.l1] at h⟩
 | k + 1 => by
  obtain ⟨ih0, ih1⟩ := spec_l11Within.mono_l k
  and_intros <;> intros
  all_goals (first | unfold spec_l11Within.l0 | unfold spec_l11Within.l1)
  all_goals repeat' with_reducible first | apply ih0 | apply ih1 | exact LeO.refl _ | exact LeO.none _ | apply LeO.ite | refine LeO.bind ?_ fun _ => ?_
theorem spec_l11Within.mono : ∀ a0 a1 k, LeO (spec_l11Within.f k a0 a1) (spec_l11Within.f (k + 1) a0 a1) := by
 intro a0 a1 k
 obtain ⟨ih0, ih1⟩ := spec_l11Within.mono_l k
 unfold spec_l11Within.f
 repeat' with_reducible first | apply ih0 | apply ih1 | exact LeO.refl _ | exact LeO.none _ | apply LeO.ite | refine LeO.bind ?_ fun _ => ?_
theorem spec_l11Within.calls (k : Nat) (A0 : Option Addr) (c0 : Nat) (l0 : List (List Int)) (A1 : Option Addr) (c1 : Nat) (l1 : List Int) (r : List (List Int)) (w : World) (hr0 : Kd.C (Kd.slice 3 (Kd.int .i64)) w A0 l0.length l0) (hc0 : l0.length ≤ c0) (hr1 : Kd.C (Kd.int .i64) w A1 l1.length l1) (hc1 : l1.length ≤ c1) (h : spec_l11Within.f k l0 l1 = some r) :
  Calls Try.prog 51 #[.slice A0 l0.length c0, .slice A1 l1.length c1] w fun e w' => ∃ v0_ : Value, e = .returned (v0_) ∧ Kd.S (Kd.slice 3 (Kd.int .i64)) 26 w' w.heap.size (fun _ => True) v0_ r ∧ Below w.heap.size w w' := by
 have HR0 := am_ hr0
 have HC0 := am_ hc0
 clear hr0 hc0
 have HR1 := am_ hr1
 have HC1 := am_ hc1
 clear hr1 hc1
 have HB := am_ (Below.refl w.heap.size w)
 have H := h
 clear h
 unfold spec_l11Within.f at H
 by_cases c3 : 0 ≤ (l0.length : Int)
 ·rw [if_pos c3] at H
  have c3b0 := eq_true c3
  have c3b1 := decide_eq_true c3
  clear c3
  by_cases c4 : ((l0.length : Int) : Int).toNat ≤ 11728124029610
  ·rw [if_pos c4] at H
   have c4b0 := eq_true c4
   have c4b1 := decide_eq_true c4
   clear c4
   obtain ⟨y154, hy154⟩ : ∃ y_ : List (List Int), y_ = (List.replicate ((l0.length : Int) : Int).toNat []) := ⟨_, rfl⟩
   replace H : (spec_l11Within.l0 k l1 y154 l0 (l0.length : Int) 0) = some r := by first | (rw [hy154]; with_reducible exact H) | (have H2_ := (Option.bind_some _ _).symm.trans H; rw [hy154]; with_reducible exact H2_) | (have H2_ := (Option.bind_some _ _).symm.trans H; with_reducible exact H2_) | with_reducible exact H | (rw [hy154]; exact H) | exact H
   have Ny154 := am_ hy154
   clear hy154
   have H' := am_ H
   clear H
   go_enter Try.func51, Try.ntmps51
   go_wp2_with (first | ((with_reducible refine Sh.d 12 ?_); refine Kd.S_make (Kd.slice 3 (Kd.int .i64)) _ 26 rfl (N := 12) rfl 22 _ _ rfl (l0.length : Int) rfl rfl Try.underlying22 (.slice none 0 0) 24 info26 rfl (by decide) (by omega) [] (ok := fun _ => True) (okp := fun _ => True) ⟨_, rfl, Kd.R_nil _ _ _ _ _⟩ (fun _ hk => hk) trivial (of_decide_eq_true (by first | (with_reducible assumption) | assumption)) (Nat.le_trans (Nat.mul_le_mul_right _ (of_decide_eq_true (by first | (with_reducible assumption) | assumption) : (l0.length : Int).toNat ≤ 11728124029610)) (by omega)) (Below.refl _ _) (Nat.le_refl _) ?_; intro v155 w5 ho6 hb hg_ hnew_; clear hg_ hnew_; (first | rw [← Ny154.out] at ho6 | (simp only [Int.reduceToNat] at ho6; rw [← Ny154.out] at ho6)); have HO156 := am_ (Kd.S_lower ho6 (below_size Sh.bw)); replace HB := Sh.hb hb; clear hb ho6))
   repeat (go_quiet (first | ((with_reducible refine Sh.d 12 ?_); refine Kd.S_make (Kd.slice 3 (Kd.int .i64)) _ 26 rfl (N := 12) rfl 22 _ _ rfl (l0.length : Int) rfl rfl Try.underlying22 (.slice none 0 0) 24 info26 rfl (by decide) (by omega) [] (ok := fun _ => True) (okp := fun _ => True) ⟨_, rfl, Kd.R_nil _ _ _ _ _⟩ (fun _ hk => hk) trivial (of_decide_eq_true (by first | (with_reducible assumption) | assumption)) (Nat.le_trans (Nat.mul_le_mul_right _ (of_decide_eq_true (by first | (with_reducible assumption) | assumption) : (l0.length : Int).toNat ≤ 11728124029610)) (by omega)) (Below.refl _ _) (Nat.le_refl _) ?_; intro v155 w5 ho6 hb hg_ hnew_; clear hg_ hnew_; (first | rw [← Ny154.out] at ho6 | (simp only [Int.reduceToNat] at ho6; rw [← Ny154.out] at ho6)); have HO156 := am_ (Kd.S_lower ho6 (below_size Sh.bw)); replace HB := Sh.hb hb; clear hb ho6)); try go_wp2_with (first | ((with_reducible refine Sh.d 12 ?_); refine Kd.S_make (Kd.slice 3 (Kd.int .i64)) _ 26 rfl (N := 12) rfl 22 _ _ rfl (l0.length : Int) rfl rfl Try.underlying22 (.slice none 0 0) 24 info26 rfl (by decide) (by omega) [] (ok := fun _ => True) (okp := fun _ => True) ⟨_, rfl, Kd.R_nil _ _ _ _ _⟩ (fun _ hk => hk) trivial (of_decide_eq_true (by first | (with_reducible assumption) | assumption)) (Nat.le_trans (Nat.mul_le_mul_right _ (of_decide_eq_true (by first | (with_reducible assumption) | assumption) : (l0.length : Int).toNat ≤ 11728124029610)) (by omega)) (Below.refl _ _) (Nat.le_refl _) ?_; intro v155 w5 ho6 hb hg_ hnew_; clear hg_ hnew_; (first | rw [← Ny154.out] at ho6 | (simp only [Int.reduceToNat] at ho6; rw [← Ny154.out] at ho6)); have HO156 := am_ (Kd.S_lower ho6 (below_size Sh.bw)); replace HB := Sh.hb hb; clear hb ho6)))
   go_loopg [15] k (fun kq v15 w' => ∃ (x5_1 : List (List Int)) (x15_1 : Int), v15 = .int .i64 x15_1 ∧ Aside0 (spec_l11Within.l0 kq l1 x5_1 l0 (l0.length : Int) x15_1 = some r) ∧ Aside0 (kq ≤ k) ∧ Aside0 (Kd.S (Kd.slice 3 (Kd.int .i64)) 26 w' w.heap.size (fun _ => True) v155 x5_1) ∧ Aside0 (Below w.heap.size w w'))
   case atStart => exact ⟨(y154), (0), (Sh.es), H', ⟨Nat.le_refl _⟩, ⟨by (with_reducible repeat (first | apply Kd.S_alloc | apply Kd.S_drewN | apply Kd.S_drew)); exact HO156.out⟩, ⟨Sh.bw⟩⟩
   case round =>
    clear H'
    obtain ⟨x5_1, x15_1, rfl, HA, HK1, HO_5, HB⟩ := hrel
    cases gk with
    | zero => exact absurd HA.out (by simp [spec_l11Within.l0])
    | succ k1 =>
     have H := HA.out
     clear HA
     simp only [spec_l11Within.l0] at H
     by_cases c7 : x15_1 < (l0.length : Int)
     ·rw [if_pos c7] at H
      replace c7 := decide_eq_true c7
      by_cases c8 : 0 ≤ x15_1
      ·rw [if_pos c8] at H
       replace c8 := decide_eq_true c8
       by_cases c9 : x15_1 < (l0.length : Int)
       ·rw [if_pos c9] at H
        replace c9 := decide_eq_true c9
        have H' := am_ H
        clear H
        have p157 : 0 ≤ (x15_1 : Int) := Sh.od
        have q157 : x15_1 < (l0.length : Int) := Sh.od
        obtain ⟨ad157, A157_0, c157_0, e157, hx157_0, hl157_0, hi157_0⟩ := at_L1 HR0.out x15_1 p157 q157
        cases e157
        try replace hx157_0 := Sh.cw hx157_0
        have HR157_0 := am_ hi157_0
        have HC157_0 := am_ hl157_0
        clear hi157_0 hl157_0
        replace p157 := eq_true p157
        replace q157 := eq_true q157
        go_wp2
        repeat (go_quiet (fail); try go_wp2)
        go_loopg [22] k1 (fun kq v22 w' => ∃ (x5_2 : List (List Int)) (x22_2 : Int), v22 = .int .i64 x22_2 ∧ Aside0 (spec_l11Within.l1 kq l1 x5_2 x15_1 l0 (l0.length : Int) x15_1 (rd_L1 l0 x15_1) ((rd_L1 l0 x15_1).length : Int) x22_2 = some r) ∧ Aside0 (kq ≤ k1) ∧ Aside0 (Kd.S (Kd.slice 3 (Kd.int .i64)) 26 w' w.heap.size (fun _ => True) v155 x5_2) ∧ Aside0 (Below w.heap.size w w'))
        case atStart => exact ⟨(x5_1), (0), (Sh.es), H', ⟨Nat.le_refl _⟩, ⟨by (with_reducible repeat (first | apply Kd.S_alloc | apply Kd.S_drewN | apply Kd.S_drew)); exact HO_5.out⟩, ⟨Sh.bw⟩⟩
        case round =>
         clear H'
         try clear hx1
         try clear hx157_0
         obtain ⟨x5_2, x22_2, rfl, HA, HK2, HO_5, HB⟩ := hrel
         cases gk with
         | zero => exact absurd HA.out (by simp [spec_l11Within.l1])
         | succ k2 =>
          have H := HA.out
          clear HA
          simp only [spec_l11Within.l1] at H
          by_cases c10 : x22_2 < ((rd_L1 l0 x15_1).length : Int)
          ·rw [if_pos c10] at H
           replace c10 := decide_eq_true c10
           by_cases c11 : 0 ≤ x22_2
           ·rw [if_pos c11] at H
            replace c11 := decide_eq_true c11
            by_cases c12 : x22_2 < ((rd_L1 l0 x15_1).length : Int)
            ·rw [if_pos c12] at H
             replace c12 := decide_eq_true c12
             by_cases c13 : 0 ≤ x15_1
             ·rw [if_pos c13] at H
              replace c13 := decide_eq_true c13
              by_cases c14 : x15_1 < (l1.length : Int)
              ·rw [if_pos c14] at H
               replace c14 := decide_eq_true c14
               by_cases c15 : 0 ≤ (rd (rd_L1 l0 x15_1) x22_2)
               ·rw [if_pos c15] at H
                replace c15 := decide_eq_true c15
                by_cases c16 : (rd (rd_L1 l0 x15_1) x22_2) < (l1.length : Int)
                ·rw [if_pos c16] at H
                 replace c16 := decide_eq_true c16
                 by_cases c17 : (rd l1 x15_1) = (rd l1 (rd (rd_L1 l0 x15_1) x22_2))
                 ·rw [if_pos c17] at H
                  have c17b0 : ((rd l1 x15_1) == (rd l1 (rd (rd_L1 l0 x15_1) x22_2))) = true := beq_iff_eq.mpr c17
                  have c17b1 : ((rd l1 x15_1) != (rd l1 (rd (rd_L1 l0 x15_1) x22_2))) = false := bne_eq_false_iff_eq.mpr c17
                  clear c17
                  by_cases c18 : x15_1 < (x5_2.length : Int)
                  ·rw [if_pos c18] at H
                   replace c18 := decide_eq_true c18
                   by_cases c19 : (rd_L1 x5_2 x15_1).length < 17592186044416
                   ·rw [if_pos c19] at H
                    have LMc19 := am_ c19
                    clear c19
                    obtain ⟨y162, hy162⟩ : ∃ y_ : List Int, y_ = ((rd_L1 x5_2 x15_1) ++ [rd (rd_L1 l0 x15_1) x22_2]) := ⟨_, rfl⟩
                    replace H : (spec_l11Within.l1 k2 l1 (x5_2.set (x15_1 : Int).toNat y162) x15_1 l0 (l0.length : Int) x15_1 (rd_L1 l0 x15_1) ((rd_L1 l0 x15_1).length : Int) (wrap64 (x22_2 + 1))) = some r := by first | (rw [hy162]; with_reducible exact H) | (have H2_ := (Option.bind_some _ _).symm.trans H; rw [hy162]; with_reducible exact H2_) | (have H2_ := (Option.bind_some _ _).symm.trans H; with_reducible exact H2_) | with_reducible exact H | (rw [hy162]; exact H) | exact H
                    have Ny162 := am_ hy162
                    clear hy162
                    obtain ⟨y165, hy165⟩ : ∃ y_ : List (List Int), y_ = (x5_2.set (x15_1 : Int).toNat y162) := ⟨_, rfl⟩
                    replace H : (spec_l11Within.l1 k2 l1 y165 x15_1 l0 (l0.length : Int) x15_1 (rd_L1 l0 x15_1) ((rd_L1 l0 x15_1).length : Int) (wrap64 (x22_2 + 1))) = some r := by first | (rw [hy165]; with_reducible exact H) | (have H2_ := (Option.bind_some _ _).symm.trans H; rw [hy165]; with_reducible exact H2_) | (have H2_ := (Option.bind_some _ _).symm.trans H; with_reducible exact H2_) | with_reducible exact H | (rw [hy165]; exact H) | exact H
                    have Ny165 := am_ hy165
                    clear hy165
                    have H' := am_ H
                    clear H
                    have p158 : 0 ≤ (x22_2 : Int) := Sh.od
                    have q158 : x22_2 < ((rd_L1 l0 x15_1).length : Int) := Sh.od
                    obtain ⟨ad158, e158, hx158_0⟩ := Kd.at_int HR157_0.out x22_2 p158 q158
                    cases e158
                    try replace hx158_0 := Sh.cw hx158_0
                    replace p158 := eq_true p158
                    replace q158 := eq_true q158
                    have p159 : 0 ≤ (x15_1 : Int) := Sh.od
                    have q159 : x15_1 < (l1.length : Int) := Sh.od
                    obtain ⟨ad159, e159, hx159_0⟩ := Kd.at_int HR1.out x15_1 p159 q159
                    cases e159
                    try replace hx159_0 := Sh.cw hx159_0
                    replace p159 := eq_true p159
                    replace q159 := eq_true q159
                    have p160 : 0 ≤ ((rd (rd_L1 l0 x15_1) x22_2) : Int) := Sh.od
                    have q160 : (rd (rd_L1 l0 x15_1) x22_2) < (l1.length : Int) := Sh.od
                    obtain ⟨ad160, e160, hx160_0⟩ := Kd.at_int HR1.out (rd (rd_L1 l0 x15_1) x22_2) p160 q160
                    obtain rfl : ad159 = ad160 := (by injection e160)
                    try replace hx160_0 := Sh.cw hx160_0
                    replace p160 := eq_true p160
                    replace q160 := eq_true q160
                    obtain ⟨Ao21, co21, eo21⟩ := Kd.S_slice HO_5.out
                    subst eo21
                    have p161 : 0 ≤ (x15_1 : Int) := Sh.od
                    have q161 : x15_1 < (x5_2.length : Int) := Sh.od
                    obtain ⟨ad161, A161_0, c161_0, e161, hx161_0, hl161_0, hi161_0⟩ := at_L1 (Kd.S_reads' HO_5.out).2.2 x15_1 p161 q161
                    cases e161
                    obtain ⟨ce161, hce161, hMe161, hcc161⟩ := Kd.S_get HO_5.out [] x15_1 p161 (by first | exact q161 | exact of_decide_eq_true (by first | (with_reducible assumption) | assumption) | (have e_ := (Kd.S_reads' HO_5.out).1; omega))
                    obtain ⟨ve161_0, rfl, ge161_0⟩ := hMe161
                    have hv161_0 := hcc161 0 _ rfl
                    rw [Nat.add_zero, show ((Kd.slice 3 (Kd.int .i64))).sz = 1 from rfl, Nat.mul_one] at hv161_0
                    replace hv161_0 := Option.some.inj (hv161_0.symm.trans hx161_0)
                    rw [hv161_0] at ge161_0
                    have HL161_0 := am_ (show Kd.R (Kd.int .i64) 3 _ _ _ _ (rd_L1 x5_2 x15_1) from ge161_0)
                    clear hv161_0 ge161_0
                    have HX161_0 := am_ hx161_0
                    clear hcc161 hce161
                    have HR161_0 := am_ hi161_0
                    have HC161_0 := am_ hl161_0
                    clear hi161_0 hl161_0
                    replace p161 := eq_true p161
                    replace q161 := eq_true q161
                    obtain ⟨go22, co22, eo22, gb22, gl22, cl22, HG22⟩ := Kd.S_form HO_5.out (by have h_ : (x15_1 : Int) < ((x5_2.length : Int) : Int) := Sh.od; have h2_ : 0 ≤ (x15_1 : Int) := (of_decide_eq_true (by first | (with_reducible assumption) | assumption)); omega)
                    (first | cases eo22 | (injection eo22 with ea_ en_ ec_; (first | subst ea_ | (injection ea_ with ea_; subst ea_)); subst ec_; clear en_))
                    have GB22 := am_ gb22
                    have GG22 := am_ HG22
                    clear gb22 gl22 HG22
                    (first | simp only [add_plain] at hx161_0 | skip)
                    obtain ⟨oki22, ce22, hcl22, hM22, hcc22, _, _, hH22⟩ := Kd.S_elem HO_5.out [] (x15_1 : Int) (of_decide_eq_true (by first | (with_reducible assumption) | assumption)) (by have h_ : (x15_1 : Int) < ((x5_2.length : Int) : Int) := Sh.od; first | exact h_ | (have e_ := (Kd.S_reads' HO_5.out).1; omega) | simpa using h_)
                    obtain ⟨ve22_0, rfl, ge22_0⟩ := hM22
                    have hv22 := hcc22 0 _ rfl
                    have hX22 := HX161_0.out
                    (try simp only [add_plain] at hX22)
                    (try simp only [Nat.add_zero] at hv22)
                    (try rw [show ((Kd.slice 3 (Kd.int .i64))).sz = 1 from rfl, Nat.mul_one] at hv22)
                    replace hv22 := Option.some.inj (hv22.symm.trans hX22)
                    subst hv22
                    clear hX22 hcc22 hcl22
                    have UU22 := am_ (show Kd.R (Kd.int .i64) 3 _ w.heap.size oki22 (.slice A161_0 (rd_L1 x5_2 x15_1).length c161_0) (rd_L1 x5_2 x15_1) from ge22_0)
                    have HH22 := am_ hH22
                    have HN22 := am_ (Kd.S_reads' HO_5.out).1
                    clear hH22 ge22_0
                    go_wp2_with (first | ((with_reducible refine gate_builtin (b := .append) (xs := #[.tmp 40, .tmp 42]) rfl ?_); at_builtin; refine Kd.R_append (Kd.int .i64) (w0 := w) w.heap.size rfl (.tmp 40) (.tmp 42) 26 3 (.int .i64 0) 8 rfl Try.underlying26 info3 rfl (by decide) (by omega) (.slice A161_0 (rd_L1 x5_2 x15_1).length c161_0) (rd_L1 x5_2 x15_1) (rd (rd_L1 l0 x15_1) x22_2) [.int .i64 (rd (rd_L1 l0 x15_1) x22_2)] (fun k_ => oki22 k_ ∨ ((fun _ => True)) k_ ∧ wr.heap.size ≤ k_) (fun _ => False) rfl rfl ?aP (fun _ hk => hk.elim) ?aF ?aO ?aB ?aS ?aL ?_; (case aP => exact rfl); (case aB => exact Sh.bw); (case aF => exact (fun k_ hk => .inr ⟨trivial, hk⟩)); (case aO => exact (Sh.rl (Kd.R_mono UU22.out (fun _ hk => .inl hk)))); (case aS => exact (below_size Sh.bw)); (case aL => have := LMc19.out; omega); intro v163 w23 ho hb hg hat; rw [← Ny162.out] at ho; have n0_ := am_ hb; have n1_ := am_ (Kd.H_grown (Kd.H_widen (by repeat (first | exact HH22.out | refine Kd.H_alloc ?_ _ | refine Kd.H_drewN ?_ _ | refine Kd.H_drew ?_))) hg (fun k_ e_ => .inl (UU22.out.1 k_ e_))); have n2_ := am_ ho; clear HB; clear HH22; clear HO_5; clear UU22; clear HL161_0; have HB := n0_; have HH22 := n1_; have HO164 := n2_; clear n0_ n1_ n2_; clear ho hb hg hat; have p20 : 0 ≤ (x15_1 : Int) := Sh.od; have q20 : (x15_1 : Int) < ((x5_2.length : Int) : Int) := Sh.od; replace p20 := eq_true p20; replace q20 := eq_true q20; obtain ⟨Ao26, co26, eo26⟩ := Kd.R_slice HO164.out; subst eo26; obtain ⟨_, _, hraw24, _, _, hcc24, _⟩ := Kd.H_raw HH22.out (of_decide_eq_true (by first | (with_reducible assumption) | assumption)) (by have h_ : (x15_1 : Int) < ((x5_2.length : Int) : Int) := Sh.od; first | exact h_ | (have e_ := (HN22.out); omega) | simpa using h_); obtain ⟨_, hfr24⟩ := Kd.H_at HH22.out (of_decide_eq_true (by first | (with_reducible assumption) | assumption)) (by have h_ : (x15_1 : Int) < ((x5_2.length : Int) : Int) := Sh.od; first | exact h_ | (have e_ := (HN22.out); omega) | simpa using h_); have hx24_0 := hcc24 0 _ rfl; have hf24_0 := hfr24 0; (try simp only [Nat.add_zero] at hx24_0 hf24_0); (try rw [show ((Kd.slice 3 (Kd.int .i64))).sz = 1 from rfl, Nat.mul_one] at hx24_0); (try rw [show ((Kd.slice 3 (Kd.int .i64))).sz = 1 from rfl, Nat.mul_one] at hf24_0); have HP24 := Kd.S_seg0 HH22.out (of_decide_eq_true (by first | (with_reducible assumption) | assumption)) (by have h_ : (x15_1 : Int) < ((x5_2.length : Int) : Int) := Sh.od; first | exact h_ | (have e_ := (HN22.out); omega) | simpa using h_) (seg := [.slice Ao26 y162.length co26]) (j := 0) (show 1 ≤ 1 from by decide) (x' := y162) (Kd.M_row HO164.out) (fun _ hk => hk); (try simp only [show ((Kd.slice 3 (Kd.int .i64))).sz = 1 from rfl, Nat.mul_one, Nat.add_zero] at HP24); clear hcc24 hfr24) | ((with_reducible refine gate_store (t := 26) (p := 44) rfl ?_); (try (rw [drewN_self w23]; generalize hq_ : World.drewN w23 _ = w23; have n0_ := am_ (Kd.S_at hq_ HO_5.out); have n1_ := am_ (below_at hq_ HB.out); clear hq_ HO_5 HB; have HO_5 := n0_; have HB := n1_; clear n0_ n1_; (try (obtain ⟨Ao26, co26, eo26⟩ := Kd.R_slice HO164.out)); (try (subst eo26)); (try (obtain ⟨_, _, hraw24, _, _, hcc24, _⟩ := Kd.H_raw HH22.out (of_decide_eq_true (by first | (with_reducible assumption) | assumption)) (by have h_ : (x15_1 : Int) < ((x5_2.length : Int) : Int) := Sh.od; first | exact h_ | (have e_ := (HN22.out); omega) | simpa using h_))); (try (obtain ⟨_, hfr24⟩ := Kd.H_at HH22.out (of_decide_eq_true (by first | (with_reducible assumption) | assumption)) (by have h_ : (x15_1 : Int) < ((x5_2.length : Int) : Int) := Sh.od; first | exact h_ | (have e_ := (HN22.out); omega) | simpa using h_))); (try (have hx24_0 := hcc24 0 _ rfl)); (try (have hf24_0 := hfr24 0)); (try (try simp only [Nat.add_zero] at hx24_0 hf24_0)); (try (try rw [show ((Kd.slice 3 (Kd.int .i64))).sz = 1 from rfl, Nat.mul_one] at hx24_0)); (try (try rw [show ((Kd.slice 3 (Kd.int .i64))).sz = 1 from rfl, Nat.mul_one] at hf24_0)); (try (have HP24 := Kd.S_seg0 HH22.out (of_decide_eq_true (by first | (with_reducible assumption) | assumption)) (by have h_ : (x15_1 : Int) < ((x5_2.length : Int) : Int) := Sh.od; first | exact h_ | (have e_ := (HN22.out); omega) | simpa using h_) (seg := [.slice Ao26 y162.length co26]) (j := 0) (show 1 ≤ 1 from by decide) (x' := y162) (Kd.M_row HO164.out) (fun _ hk => hk))); (try (try simp only [show ((Kd.slice 3 (Kd.int .i64))).sz = 1 from rfl, Nat.mul_one, Nat.add_zero] at HP24)); (try (clear hcc24 hfr24)))); refine store_event (t := 26) (p := 44) (v := ?vo_w25) (w1 := (w23.setCell ⟨go22, (x15_1 : Int).toNat, none⟩ (.slice Ao26 y162.length co26))) ?hg ?ho ?hn ?hr ?_; (case ho => rfl); (case hg => rfl); (case hn => rfl); (case hr => first | (go_simp; done) | (go_simp; rfl)); intro w25 hw; have hg : w23.grownBy w25 (some go22) := (by rw [hw]; exact HP24.2); have hp_ : Kd.S (Kd.slice 3 (Kd.int .i64)) 26 w25 w.heap.size (fun _ => True) (.slice (some ⟨go22, 0, none⟩) x5_2.length co21) y165 := (by rw [hw, Ny165.out]; exact HP24.1); clear HP24; have n0_ := am_ ((by rw [hw]; exact below_set HB.out GB22.out : Below w.heap.size w w25)); have n1_ := am_ hp_; clear HB; clear HO164; clear HH22; have HB := n0_; have HO_5 := n1_; clear n0_ n1_; clear hg hw hp_ hraw24))
                    repeat (go_quiet (first | ((with_reducible refine gate_builtin (b := .append) (xs := #[.tmp 40, .tmp 42]) rfl ?_); at_builtin; refine Kd.R_append (Kd.int .i64) (w0 := w) w.heap.size rfl (.tmp 40) (.tmp 42) 26 3 (.int .i64 0) 8 rfl Try.underlying26 info3 rfl (by decide) (by omega) (.slice A161_0 (rd_L1 x5_2 x15_1).length c161_0) (rd_L1 x5_2 x15_1) (rd (rd_L1 l0 x15_1) x22_2) [.int .i64 (rd (rd_L1 l0 x15_1) x22_2)] (fun k_ => oki22 k_ ∨ ((fun _ => True)) k_ ∧ wr.heap.size ≤ k_) (fun _ => False) rfl rfl ?aP (fun _ hk => hk.elim) ?aF ?aO ?aB ?aS ?aL ?_; (case aP => exact rfl); (case aB => exact Sh.bw); (case aF => exact (fun k_ hk => .inr ⟨trivial, hk⟩)); (case aO => exact (Sh.rl (Kd.R_mono UU22.out (fun _ hk => .inl hk)))); (case aS => exact (below_size Sh.bw)); (case aL => have := LMc19.out; omega); intro v163 w23 ho hb hg hat; rw [← Ny162.out] at ho; have n0_ := am_ hb; have n1_ := am_ (Kd.H_grown (Kd.H_widen (by repeat (first | exact HH22.out | refine Kd.H_alloc ?_ _ | refine Kd.H_drewN ?_ _ | refine Kd.H_drew ?_))) hg (fun k_ e_ => .inl (UU22.out.1 k_ e_))); have n2_ := am_ ho; clear HB; clear HH22; clear HO_5; clear UU22; clear HL161_0; have HB := n0_; have HH22 := n1_; have HO164 := n2_; clear n0_ n1_ n2_; clear ho hb hg hat; have p20 : 0 ≤ (x15_1 : Int) := Sh.od; have q20 : (x15_1 : Int) < ((x5_2.length : Int) : Int) := Sh.od; replace p20 := eq_true p20; replace q20 := eq_true q20; obtain ⟨Ao26, co26, eo26⟩ := Kd.R_slice HO164.out; subst eo26; obtain ⟨_, _, hraw24, _, _, hcc24, _⟩ := Kd.H_raw HH22.out (of_decide_eq_true (by first | (with_reducible assumption) | assumption)) (by have h_ : (x15_1 : Int) < ((x5_2.length : Int) : Int) := Sh.od; first | exact h_ | (have e_ := (HN22.out); omega) | simpa using h_); obtain ⟨_, hfr24⟩ := Kd.H_at HH22.out (of_decide_eq_true (by first | (with_reducible assumption) | assumption)) (by have h_ : (x15_1 : Int) < ((x5_2.length : Int) : Int) := Sh.od; first | exact h_ | (have e_ := (HN22.out); omega) | simpa using h_); have hx24_0 := hcc24 0 _ rfl; have hf24_0 := hfr24 0; (try simp only [Nat.add_zero] at hx24_0 hf24_0); (try rw [show ((Kd.slice 3 (Kd.int .i64))).sz = 1 from rfl, Nat.mul_one] at hx24_0); (try rw [show ((Kd.slice 3 (Kd.int .i64))).sz = 1 from rfl, Nat.mul_one] at hf24_0); have HP24 := Kd.S_seg0 HH22.out (of_decide_eq_true (by first | (with_reducible assumption) | assumption)) (by have h_ : (x15_1 : Int) < ((x5_2.length : Int) : Int) := Sh.od; first | exact h_ | (have e_ := (HN22.out); omega) | simpa using h_) (seg := [.slice Ao26 y162.length co26]) (j := 0) (show 1 ≤ 1 from by decide) (x' := y162) (Kd.M_row HO164.out) (fun _ hk => hk); (try simp only [show ((Kd.slice 3 (Kd.int .i64))).sz = 1 from rfl, Nat.mul_one, Nat.add_zero] at HP24); clear hcc24 hfr24) | ((with_reducible refine gate_store (t := 26) (p := 44) rfl ?_); (try (rw [drewN_self w23]; generalize hq_ : World.drewN w23 _ = w23; have n0_ := am_ (Kd.S_at hq_ HO_5.out); have n1_ := am_ (below_at hq_ HB.out); clear hq_ HO_5 HB; have HO_5 := n0_; have HB := n1_; clear n0_ n1_; (try (obtain ⟨Ao26, co26, eo26⟩ := Kd.R_slice HO164.out)); (try (subst eo26)); (try (obtain ⟨_, _, hraw24, _, _, hcc24, _⟩ := Kd.H_raw HH22.out (of_decide_eq_true (by first | (with_reducible assumption) | assumption)) (by have h_ : (x15_1 : Int) < ((x5_2.length : Int) : Int) := Sh.od; first | exact h_ | (have e_ := (HN22.out); omega) | simpa using h_))); (try (obtain ⟨_, hfr24⟩ := Kd.H_at HH22.out (of_decide_eq_true (by first | (with_reducible assumption) | assumption)) (by have h_ : (x15_1 : Int) < ((x5_2.length : Int) : Int) := Sh.od; first | exact h_ | (have e_ := (HN22.out); omega) | simpa using h_))); (try (have hx24_0 := hcc24 0 _ rfl)); (try (have hf24_0 := hfr24 0)); (try (try simp only [Nat.add_zero] at hx24_0 hf24_0)); (try (try rw [show ((Kd.slice 3 (Kd.int .i64))).sz = 1 from rfl, Nat.mul_one] at hx24_0)); (try (try rw [show ((Kd.slice 3 (Kd.int .i64))).sz = 1 from rfl, Nat.mul_one] at hf24_0)); (try (have HP24 := Kd.S_seg0 HH22.out (of_decide_eq_true (by first | (with_reducible assumption) | assumption)) (by have h_ : (x15_1 : Int) < ((x5_2.length : Int) : Int) := Sh.od; first | exact h_ | (have e_ := (HN22.out); omega) | simpa using h_) (seg := [.slice Ao26 y162.length co26]) (j := 0) (show 1 ≤ 1 from by decide) (x' := y162) (Kd.M_row HO164.out) (fun _ hk => hk))); (try (try simp only [show ((Kd.slice 3 (Kd.int .i64))).sz = 1 from rfl, Nat.mul_one, Nat.add_zero] at HP24)); (try (clear hcc24 hfr24)))); refine store_event (t := 26) (p := 44) (v := ?vo_w25) (w1 := (w23.setCell ⟨go22, (x15_1 : Int).toNat, none⟩ (.slice Ao26 y162.length co26))) ?hg ?ho ?hn ?hr ?_; (case ho => rfl); (case hg => rfl); (case hn => rfl); (case hr => first | (go_simp; done) | (go_simp; rfl)); intro w25 hw; have hg : w23.grownBy w25 (some go22) := (by rw [hw]; exact HP24.2); have hp_ : Kd.S (Kd.slice 3 (Kd.int .i64)) 26 w25 w.heap.size (fun _ => True) (.slice (some ⟨go22, 0, none⟩) x5_2.length co21) y165 := (by rw [hw, Ny165.out]; exact HP24.1); clear HP24; have n0_ := am_ ((by rw [hw]; exact below_set HB.out GB22.out : Below w.heap.size w w25)); have n1_ := am_ hp_; clear HB; clear HO164; clear HH22; have HB := n0_; have HO_5 := n1_; clear n0_ n1_; clear hg hw hp_ hraw24)); try go_wp2_with (first | ((with_reducible refine gate_builtin (b := .append) (xs := #[.tmp 40, .tmp 42]) rfl ?_); at_builtin; refine Kd.R_append (Kd.int .i64) (w0 := w) w.heap.size rfl (.tmp 40) (.tmp 42) 26 3 (.int .i64 0) 8 rfl Try.underlying26 info3 rfl (by decide) (by omega) (.slice A161_0 (rd_L1 x5_2 x15_1).length c161_0) (rd_L1 x5_2 x15_1) (rd (rd_L1 l0 x15_1) x22_2) [.int .i64 (rd (rd_L1 l0 x15_1) x22_2)] (fun k_ => oki22 k_ ∨ ((fun _ => True)) k_ ∧ wr.heap.size ≤ k_) (fun _ => False) rfl rfl ?aP (fun _ hk => hk.elim) ?aF ?aO ?aB ?aS ?aL ?_; (case aP => exact rfl); (case aB => exact Sh.bw); (case aF => exact (fun k_ hk => .inr ⟨trivial, hk⟩)); (case aO => exact (Sh.rl (Kd.R_mono UU22.out (fun _ hk => .inl hk)))); (case aS => exact (below_size Sh.bw)); (case aL => have := LMc19.out; omega); intro v163 w23 ho hb hg hat; rw [← Ny162.out] at ho; have n0_ := am_ hb; have n1_ := am_ (Kd.H_grown (Kd.H_widen (by repeat (first | exact HH22.out | refine Kd.H_alloc ?_ _ | refine Kd.H_drewN ?_ _ | refine Kd.H_drew ?_))) hg (fun k_ e_ => .inl (UU22.out.1 k_ e_))); have n2_ := am_ ho; clear HB; clear HH22; clear HO_5; clear UU22; clear HL161_0; have HB := n0_; have HH22 := n1_; have HO164 := n2_; clear n0_ n1_ n2_; clear ho hb hg hat; have p20 : 0 ≤ (x15_1 : Int) := Sh.od; have q20 : (x15_1 : Int) < ((x5_2.length : Int) : Int) := Sh.od; replace p20 := eq_true p20; replace q20 := eq_true q20; obtain ⟨Ao26, co26, eo26⟩ := Kd.R_slice HO164.out; subst eo26; obtain ⟨_, _, hraw24, _, _, hcc24, _⟩ := Kd.H_raw HH22.out (of_decide_eq_true (by first | (with_reducible assumption) | assumption)) (by have h_ : (x15_1 : Int) < ((x5_2.length : Int) : Int) := Sh.od; first | exact h_ | (have e_ := (HN22.out); omega) | simpa using h_); obtain ⟨_, hfr24⟩ := Kd.H_at HH22.out (of_decide_eq_true (by first | (with_reducible assumption) | assumption)) (by have h_ : (x15_1 : Int) < ((x5_2.length : Int) : Int) := Sh.od; first | exact h_ | (have e_ := (HN22.out); omega) | simpa using h_); have hx24_0 := hcc24 0 _ rfl; have hf24_0 := hfr24 0; (try simp only [Nat.add_zero] at hx24_0 hf24_0); (try rw [show ((Kd.slice 3 (Kd.int .i64))).sz = 1 from rfl, Nat.mul_one] at hx24_0); (try rw [show ((Kd.slice 3 (Kd.int .i64))).sz = 1 from rfl, Nat.mul_one] at hf24_0); have HP24 := Kd.S_seg0 HH22.out (of_decide_eq_true (by first | (with_reducible assumption) | assumption)) (by have h_ : (x15_1 : Int) < ((x5_2.length : Int) : Int) := Sh.od; first | exact h_ | (have e_ := (HN22.out); omega) | simpa using h_) (seg := [.slice Ao26 y162.length co26]) (j := 0) (show 1 ≤ 1 from by decide) (x' := y162) (Kd.M_row HO164.out) (fun _ hk => hk); (try simp only [show ((Kd.slice 3 (Kd.int .i64))).sz = 1 from rfl, Nat.mul_one, Nat.add_zero] at HP24); clear hcc24 hfr24) | ((with_reducible refine gate_store (t := 26) (p := 44) rfl ?_); (try (rw [drewN_self w23]; generalize hq_ : World.drewN w23 _ = w23; have n0_ := am_ (Kd.S_at hq_ HO_5.out); have n1_ := am_ (below_at hq_ HB.out); clear hq_ HO_5 HB; have HO_5 := n0_; have HB := n1_; clear n0_ n1_; (try (obtain ⟨Ao26, co26, eo26⟩ := Kd.R_slice HO164.out)); (try (subst eo26)); (try (obtain ⟨_, _, hraw24, _, _, hcc24, _⟩ := Kd.H_raw HH22.out (of_decide_eq_true (by first | (with_reducible assumption) | assumption)) (by have h_ : (x15_1 : Int) < ((x5_2.length : Int) : Int) := Sh.od; first | exact h_ | (have e_ := (HN22.out); omega) | simpa using h_))); (try (obtain ⟨_, hfr24⟩ := Kd.H_at HH22.out (of_decide_eq_true (by first | (with_reducible assumption) | assumption)) (by have h_ : (x15_1 : Int) < ((x5_2.length : Int) : Int) := Sh.od; first | exact h_ | (have e_ := (HN22.out); omega) | simpa using h_))); (try (have hx24_0 := hcc24 0 _ rfl)); (try (have hf24_0 := hfr24 0)); (try (try simp only [Nat.add_zero] at hx24_0 hf24_0)); (try (try rw [show ((Kd.slice 3 (Kd.int .i64))).sz = 1 from rfl, Nat.mul_one] at hx24_0)); (try (try rw [show ((Kd.slice 3 (Kd.int .i64))).sz = 1 from rfl, Nat.mul_one] at hf24_0)); (try (have HP24 := Kd.S_seg0 HH22.out (of_decide_eq_true (by first | (with_reducible assumption) | assumption)) (by have h_ : (x15_1 : Int) < ((x5_2.length : Int) : Int) := Sh.od; first | exact h_ | (have e_ := (HN22.out); omega) | simpa using h_) (seg := [.slice Ao26 y162.length co26]) (j := 0) (show 1 ≤ 1 from by decide) (x' := y162) (Kd.M_row HO164.out) (fun _ hk => hk))); (try (try simp only [show ((Kd.slice 3 (Kd.int .i64))).sz = 1 from rfl, Nat.mul_one, Nat.add_zero] at HP24)); (try (clear hcc24 hfr24)))); refine store_event (t := 26) (p := 44) (v := ?vo_w25) (w1 := (w23.setCell ⟨go22, (x15_1 : Int).toNat, none⟩ (.slice Ao26 y162.length co26))) ?hg ?ho ?hn ?hr ?_; (case ho => rfl); (case hg => rfl); (case hn => rfl); (case hr => first | (go_simp; done) | (go_simp; rfl)); intro w25 hw; have hg : w23.grownBy w25 (some go22) := (by rw [hw]; exact HP24.2); have hp_ : Kd.S (Kd.slice 3 (Kd.int .i64)) 26 w25 w.heap.size (fun _ => True) (.slice (some ⟨go22, 0, none⟩) x5_2.length co21) y165 := (by rw [hw, Ny165.out]; exact HP24.1); clear HP24; have n0_ := am_ ((by rw [hw]; exact below_set HB.out GB22.out : Below w.heap.size w w25)); have n1_ := am_ hp_; clear HB; clear HO164; clear HH22; have HB := n0_; have HO_5 := n1_; clear n0_ n1_; clear hg hw hp_ hraw24)))
                    go_roundg k2
                    case measure => have := HK1.out; have := HK2.out; omega
                    case rel => exact ⟨(y165), (wrap64 (x22_2 + 1)), (Sh.es), H', ⟨by have := HK1.out; have := HK2.out; omega⟩, ⟨by (with_reducible repeat (first | apply Kd.S_alloc | apply Kd.S_drewN | apply Kd.S_drew)); exact HO_5.out⟩, ⟨Sh.bw⟩⟩
                   ·rw [if_neg c19] at H
                    cases H
                  ·rw [if_neg c18] at H
                   cases H
                 ·rw [if_neg c17] at H
                  have c17b0 : ((rd l1 x15_1) == (rd l1 (rd (rd_L1 l0 x15_1) x22_2))) = false := beq_eq_false_iff_ne.mpr c17
                  have c17b1 : ((rd l1 x15_1) != (rd l1 (rd (rd_L1 l0 x15_1) x22_2))) = true := bne_iff_ne.mpr c17
                  have H' := am_ H
                  clear H
                  have p158 : 0 ≤ (x22_2 : Int) := Sh.od
                  have q158 : x22_2 < ((rd_L1 l0 x15_1).length : Int) := Sh.od
                  obtain ⟨ad158, e158, hx158_0⟩ := Kd.at_int HR157_0.out x22_2 p158 q158
                  cases e158
                  try replace hx158_0 := Sh.cw hx158_0
                  replace p158 := eq_true p158
                  replace q158 := eq_true q158
                  have p159 : 0 ≤ (x15_1 : Int) := Sh.od
                  have q159 : x15_1 < (l1.length : Int) := Sh.od
                  obtain ⟨ad159, e159, hx159_0⟩ := Kd.at_int HR1.out x15_1 p159 q159
                  cases e159
                  try replace hx159_0 := Sh.cw hx159_0
                  replace p159 := eq_true p159
                  replace q159 := eq_true q159
                  have p160 : 0 ≤ ((rd (rd_L1 l0 x15_1) x22_2) : Int) := Sh.od
                  have q160 : (rd (rd_L1 l0 x15_1) x22_2) < (l1.length : Int) := Sh.od
                  obtain ⟨ad160, e160, hx160_0⟩ := Kd.at_int HR1.out (rd (rd_L1 l0 x15_1) x22_2) p160 q160
                  obtain rfl : ad159 = ad160 := (by injection e160)
                  try replace hx160_0 := Sh.cw hx160_0
                  replace p160 := eq_true p160
                  replace q160 := eq_true q160
                  go_wp2
                  repeat (go_quiet (fail); try go_wp2)
                  go_roundg k2
                  case measure => have := HK1.out; have := HK2.out; omega
                  case rel => exact ⟨(x5_2), (wrap64 (x22_2 + 1)), (Sh.es), H', ⟨by have := HK1.out; have := HK2.out; omega⟩, ⟨by (with_reducible repeat (first | apply Kd.S_alloc | apply Kd.S_drewN | apply Kd.S_drew)); exact HO_5.out⟩, ⟨Sh.bw⟩⟩
                ·rw [if_neg c16] at H
                 cases H
               ·rw [if_neg c15] at H
                cases H
              ·rw [if_neg c14] at H
               cases H
             ·rw [if_neg c13] at H
              cases H
            ·rw [if_neg c12] at H
             cases H
           ·rw [if_neg c11] at H
            cases H
          ·rw [if_neg c10] at H
           replace c10 := decide_eq_false c10
           have H' := am_ H
           clear H
           go_wp2
           repeat (go_quiet (fail); try go_wp2)
           go_roundg k2
           case measure => have := HK1.out; have := HK2.out; omega
           case rel => exact ⟨(x5_2), (wrap64 (x15_1 + 1)), (Sh.es), H', ⟨by have := HK1.out; have := HK2.out; omega⟩, ⟨by (with_reducible repeat (first | apply Kd.S_alloc | apply Kd.S_drewN | apply Kd.S_drew)); exact HO_5.out⟩, ⟨Sh.bw⟩⟩
       ·rw [if_neg c9] at H
        cases H
      ·rw [if_neg c8] at H
       cases H
     ·rw [if_neg c7] at H
      replace c7 := decide_eq_false c7
      obtain rfl := Option.some.inj H
      go_wp2
      repeat (go_quiet (fail); try go_wp2)
      go_ret
      exact ⟨_, Sh.eR, by (with_reducible repeat (first | apply Kd.S_alloc | apply Kd.S_drewN | apply Kd.S_drew)); exact HO_5.out, Sh.bw⟩
  ·rw [if_neg c4] at H
   cases H
 ·rw [if_neg c3] at H
  cases H
end Go.Proofs.Ytnfpolhpanpeiaa.P
