/- Go functions of this seat as Lean functions, and the proofs that the calls come to what these say; printed by a program of this session. No condition. -/
import Derived.Test.YtejlobcjgbeeaaaP0
import Derived.Test.YtejlobcjgbeeaaaMFnCompared2
set_option linter.unusedVariables false
set_option linter.unusedSimpArgs false
set_option maxHeartbeats 40000000
set_option maxRecDepth 100000
namespace Go.Proofs.Ytejlobcjgbeeaaa.P
open Go.RowKit Go.Proofs.YtejlobcjgbeeaaaW.PrintWords Go.Proofs.YtejlobcjgbeeaaaW.PrintLast Go.Proofs.YtejlobcjgbeeaaaW.PrintMore Go.Proofs.Ytejlobcjgbeeaaa.Hof
attribute [local go_sem] max2_int min2_int max_two min_two max_three min_three max_four min_four
def spec_less.l0 : Nat → Int → List Int → List Int → Int → Int → Int → List S66 → Option (Int × List S66)
 | 0, _, _, _, _, _, _, _ => none
 | k + 1, ins, a, b, n, i, carry, gs => if i < n then (if 0 ≤ i then (if i < (a.length : Int) then (if i < (b.length : Int) then ((spec_gate.f ins gs 5 (rd a i) (rd b i)).bind fun p0 => ((spec_gate.f ins p0.2 2 p0.1 0).bind fun p1 => ((spec_gate.f ins p1.2 3 p1.1 carry).bind fun p2 => ((spec_gate.f ins p2.2 2 (rd a i) 0).bind fun p3 => ((spec_gate.f ins p3.2 3 p3.1 (rd b i)).bind fun p4 => ((spec_gate.f ins p4.2 4 p2.1 p4.1).bind fun p5 => (spec_less.l0 k ins a b n (wrap64 (i + 1)) p5.1 p5.2))))))) else (none)) else (none)) else (none)) else (some (carry, gs))
def spec_less.f (k : Nat) (ins : Int) (gs : List S66) (a b : List Int) : Option (Int × List S66) := (spec_gate.f ins gs 1 0 0).bind fun p => (spec_less.l0 k ins a b (a.length : Int) 0 p.1 p.2)
theorem spec_less.mono_l : ∀ k, (∀ y0 y1 y2 y3 y4 y5 y6, LeO (spec_less.l0 k y0 y1 y2 y3 y4 y5 y6) (spec_less.l0 (k + 1) y0 y1 y2 y3 y4 y5 y6))
 | 0 => fun _ _ _ _ _ _ _ r h => by simp [spec_less.l0] at h
 | k + 1 => by
  have ih0 := spec_less.mono_l k
  intro y0 y1 y2 y3 y4 y5 y6
  unfold spec_less.l0
  repeat' with_reducible first | apply ih0 | exact LeO.refl _ | exact LeO.none _ | apply LeO.ite | refine LeO.bind ?_ fun _ => ?_
theorem spec_less.mono : ∀ a0 a1 a2 a3 k, LeO (spec_less.f k a0 a1 a2 a3) (spec_less.f (k + 1) a0 a1 a2 a3) := by
 intro a0 a1 a2 a3 k
 have ih0 := spec_less.mono_l k
 unfold spec_less.f
 repeat' with_reducible first | apply ih0 | exact LeO.refl _ | exact LeO.none _ | apply LeO.ite | refine LeO.bind ?_ fun _ => ?_
def spec_less.T : Bool × List (List Nat × List Nat) := (true, [([], []), ([], []), ([], []), ([1, 2], [1, 2]), ([3], [3]), ([], []), ([], []), ([5, 6], [5, 6]), ([7], [7]), ([0, 4, 8], [0, 4, 8]), ([9, 9, 0, 1, 2, 3, 4, 5, 6, 7, 8, 9], [9])])
def spec_less.B : List Nat := [0, 0, 0, 6, 14, 0, 0, 96, 224, 511, 1023]
theorem spec_less.tab5 : rtab .any (opsOf Try.f46 5) = spec_less.T := by kernel_rfl
theorem spec_less.bits : waitsOk spec_less.T.2 spec_less.B = true := by kernel_rfl
theorem spec_less.calls (k : Nat) (g : Nat) (ok : Nat → Prop) (ins : Int) (gs : List S66) (os : List Int) (A1 : Option Addr) (c1 : Nat) (l1 : List Int) (A2 : Option Addr) (c2 : Nat) (l2 : List Int) (r1 : Int) (r2 : List S66) (w0 w : World) (hI : IsG 64 ok w0 w g ins gs os) (hB : Below w0.heap.size w0 w) (hr1 : Kd.C (Kd.int .i64) w0 A1 l1.length l1) (hr2 : Kd.C (Kd.int .i64) w0 A2 l2.length l2) (h : spec_less.f k ins gs l1 l2 = some (r1, r2)) :
  Calls Try.prog 46 #[.pointer (some ⟨g, 0, none⟩), .slice A1 l1.length c1, .slice A2 l2.length c2] w fun e w' => e = .returned (.int .i64 r1) ∧ IsG 64 ok w0 w' g ins r2 os ∧ Below w0.heap.size w0 w' ∧ KeepG w w' g := by
 have HI := am_ hI
 have HB := am_ hB
 have HL := am_ hB.size
 have HK := am_ (KeepG.refl w g)
 have HR1 := am_ hr1
 have HR2 := am_ hr2
 clear hI hB hr1 hr2
 unfold spec_less.f at h
 obtain ⟨⟨x0, g0⟩, F0, h⟩ := Sh.ba h
 have H' := am_ h
 clear h
 go_enter Try.func46, Try.ntmps46
 go_wp2_with (first | (go_at_call 57; (with_reducible refine (spec_gate.calls g ok ins gs os 1 0 0 x0 g0 w0 _ ?side1 ?side2 F0.out).mono ?_); (case side1 => repeat (first | (with_reducible first | exact HI.out | apply IsG.alloc | apply IsG.drewN | apply IsG.drew) | exact HI.out)); (case side2 => repeat (first | (with_reducible first | exact HB.out | apply below_alloc | apply pw_below_drewN | apply below_drew1) | exact HB.out | with_reducible refine Below.alloc ?_ (by first | exact HL.out | exact Nat.le_trans HL.out HK.out.1) _)); rintro e w1 ⟨rfl, hi, hb, hk⟩; have n2_ := am_ ((by first | exact KeepG.trans HK.out hk | exact KeepG.trans (KeepG.alloc HK.out _) hk) : KeepG w w1 g); clear HI HB HK; have HI := am_ hi; have HB := am_ hb; have HK := n2_; clear hi hb hk n2_))
 go_loopg [7, 18] k (fun kq v7 v18 w' => ∃ (xi xc : Int) (xg : List S66), v7 = .int .i64 xc ∧ v18 = .int .i64 xi ∧ Aside0 (spec_less.l0 kq ins l1 l2 (l1.length : Int) xi xc xg = some (r1, r2)) ∧ Aside0 (kq ≤ k) ∧ Aside0 (IsG 64 ok w0 w' g ins xg os) ∧ Aside0 (KeepG w w' g) ∧ Aside0 (Below w0.heap.size w0 w'))
 case atStart => exact ⟨0, x0, g0, rfl, rfl, H', ⟨Nat.le_refl _⟩, ⟨by repeat (first | (with_reducible first | exact HI.out | apply IsG.alloc | apply IsG.drewN | apply IsG.drew) | exact HI.out)⟩, ⟨by first | exact HK.out | exact KeepG.alloc HK.out _⟩, ⟨by repeat (first | (with_reducible first | exact HB.out | apply below_alloc | apply pw_below_drewN | apply below_drew1) | exact HB.out | with_reducible refine Below.alloc ?_ (by first | exact HL.out | exact Nat.le_trans HL.out HK.out.1) _)⟩⟩
 case round =>
  clear H'
  obtain ⟨xi, xc, xg, rfl, rfl, HA, HK1, HI, HK, HB⟩ := hrel
  cases gk with
  | zero => exact absurd HA.out (by simp [spec_less.l0])
  | succ k1 =>
   have H := HA.out
   clear HA
   simp only [spec_less.l0] at H
   by_cases c4 : xi < (l1.length : Int)
   ·rw [if_pos c4] at H
    have c4b0 := decide_eq_true c4
    by_cases c5 : 0 ≤ xi
    ·rw [if_pos c5, if_pos c4] at H
     by_cases c6 : xi < (l2.length : Int)
     ·rw [if_pos c6] at H
      obtain ⟨⟨xx, gx⟩, Fx, H⟩ := Sh.ba H
      obtain ⟨⟨xn, gn⟩, Fn, H⟩ := Sh.ba H
      obtain ⟨⟨xp, gp⟩, Fp, H⟩ := Sh.ba H
      obtain ⟨⟨xm, gm⟩, Fm, H⟩ := Sh.ba H
      obtain ⟨⟨xq, gq⟩, Fq, H⟩ := Sh.ba H
      obtain ⟨⟨xu, gu⟩, Fu, H⟩ := Sh.ba H
      have H' := am_ H
      clear H
      obtain ⟨ad1, e1, hx1⟩ := Kd.at_int HR1.out xi c5 c4
      subst e1
      obtain ⟨ad2, e2, hx2⟩ := Kd.at_int HR2.out xi c5 c6
      subst e2
      go_wp2
      refine start_ (n := 11) (S := fun w' => w'.cell? (ad1.add xi.toNat) = some (.int .i64 (rd l1 xi)) ∧ w'.cell? (ad2.add xi.toNat) = some (.int .i64 (rd l2 xi))) (ds := []) (Sh.nm 11 0) (by kernel_rfl) rfl rfl ⟨(HB.out.cell (World.block_lt_of_cell? w0 _ hx1)).trans hx1, (HB.out.cell (World.block_lt_of_cell? w0 _ hx2)).trans hx2⟩ (fun hHeld => ?_)
      refine with_tabW spec_less.tab5 spec_less.bits (fun HT_ HW_ => ?_)
      refine Sh.qA 0 ?_; refine Sh.qA 1 ?_; refine Sh.qA 2 ?_; refine Sh.qA 3 ?_; refine Sh.qT 4 hHeld ?_; refine Sh.qA 5 ?_; refine Sh.qA 6 ?_; refine Sh.qA 7 ?_; refine Sh.qT 8 hHeld ?_
      refine Sh.oC 9 Try.func57 #[.pointer (some ⟨g, 0, none⟩), .int .i64 5, .int .i64 (rd l1 xi), .int .i64 (rd l2 xi)] fun K hK => ?_
      (with_reducible refine (spec_gate.calls g ok ins xg os 5 (rd l1 xi) (rd l2 xi) xx gx w0 _ ?side1 ?side2 Fx.out).mono ?_)
      (case side1 => repeat (first | (with_reducible first | exact HI.out | apply IsG.alloc | apply IsG.drewN | apply IsG.drew) | exact HI.out))
      (case side2 => repeat (first | (with_reducible first | exact HB.out | apply below_alloc | apply pw_below_drewN | apply below_drew1) | exact HB.out | with_reducible refine Below.alloc ?_ (by first | exact HL.out | exact Nat.le_trans HL.out HK.out.1) _))
      rintro e wx ⟨rfl, hi, hb, hk⟩
      refine ⟨_, rfl, ?_⟩
      have n2_ := am_ ((by first | exact KeepG.trans HK.out hk | exact KeepG.trans (KeepG.alloc HK.out _) hk) : KeepG w wx g)
      clear HI HB HK
      have HI := am_ hi
      have HB := am_ hb
      have HK := n2_
      clear hi hb hk n2_
      refine Sh.kN hK ⟨(HB.out.cell (World.block_lt_of_cell? w0 _ hx1)).trans hx1, (HB.out.cell (World.block_lt_of_cell? w0 _ hx2)).trans hx2⟩ fun hHeld => ?_
      clear hK K
      refine Sh.qA 10 ?_
      refine done_ (done_of HT_.out (by kernel_rfl)) ?_
      go_wp2_with (first | (go_at_call 57; (with_reducible refine (spec_gate.calls g ok ins gx os 2 xx 0 xn gn w0 _ ?side1 ?side2 Fn.out).mono ?_); (case side1 => repeat (first | (with_reducible first | exact HI.out | apply IsG.alloc | apply IsG.drewN | apply IsG.drew) | exact HI.out)); (case side2 => repeat (first | (with_reducible first | exact HB.out | apply below_alloc | apply pw_below_drewN | apply below_drew1) | exact HB.out | with_reducible refine Below.alloc ?_ (by first | exact HL.out | exact Nat.le_trans HL.out HK.out.1) _)); rintro e wn ⟨rfl, hi, hb, hk⟩; have n2_ := am_ ((by first | exact KeepG.trans HK.out hk | exact KeepG.trans (KeepG.alloc HK.out _) hk) : KeepG w wn g); clear HI HB HK; have HI := am_ hi; have HB := am_ hb; have HK := n2_; clear hi hb hk n2_) | (go_at_call 57; (with_reducible refine (spec_gate.calls g ok ins gn os 3 xn xc xp gp w0 _ ?side1 ?side2 Fp.out).mono ?_); (case side1 => repeat (first | (with_reducible first | exact HI.out | apply IsG.alloc | apply IsG.drewN | apply IsG.drew) | exact HI.out)); (case side2 => repeat (first | (with_reducible first | exact HB.out | apply below_alloc | apply pw_below_drewN | apply below_drew1) | exact HB.out | with_reducible refine Below.alloc ?_ (by first | exact HL.out | exact Nat.le_trans HL.out HK.out.1) _)); rintro e wp ⟨rfl, hi, hb, hk⟩; have n2_ := am_ ((by first | exact KeepG.trans HK.out hk | exact KeepG.trans (KeepG.alloc HK.out _) hk) : KeepG w wp g); clear HI HB HK; have HI := am_ hi; have HB := am_ hb; have HK := n2_; clear hi hb hk n2_; have hc1 := (HB.out.cell (World.block_lt_of_cell? w0 _ hx1)).trans hx1) | (go_at_call 57; (with_reducible refine (spec_gate.calls g ok ins gp os 2 (rd l1 xi) 0 xm gm w0 _ ?side1 ?side2 Fm.out).mono ?_); (case side1 => repeat (first | (with_reducible first | exact HI.out | apply IsG.alloc | apply IsG.drewN | apply IsG.drew) | exact HI.out)); (case side2 => repeat (first | (with_reducible first | exact HB.out | apply below_alloc | apply pw_below_drewN | apply below_drew1) | exact HB.out | with_reducible refine Below.alloc ?_ (by first | exact HL.out | exact Nat.le_trans HL.out HK.out.1) _)); rintro e wm ⟨rfl, hi, hb, hk⟩; have n2_ := am_ ((by first | exact KeepG.trans HK.out hk | exact KeepG.trans (KeepG.alloc HK.out _) hk) : KeepG w wm g); clear HI HB HK; have HI := am_ hi; have HB := am_ hb; have HK := n2_; clear hi hb hk n2_; have hc2 := (HB.out.cell (World.block_lt_of_cell? w0 _ hx2)).trans hx2) | (go_at_call 57; (with_reducible refine (spec_gate.calls g ok ins gm os 3 xm (rd l2 xi) xq gq w0 _ ?side1 ?side2 Fq.out).mono ?_); (case side1 => repeat (first | (with_reducible first | exact HI.out | apply IsG.alloc | apply IsG.drewN | apply IsG.drew) | exact HI.out)); (case side2 => repeat (first | (with_reducible first | exact HB.out | apply below_alloc | apply pw_below_drewN | apply below_drew1) | exact HB.out | with_reducible refine Below.alloc ?_ (by first | exact HL.out | exact Nat.le_trans HL.out HK.out.1) _)); rintro e wq ⟨rfl, hi, hb, hk⟩; have n2_ := am_ ((by first | exact KeepG.trans HK.out hk | exact KeepG.trans (KeepG.alloc HK.out _) hk) : KeepG w wq g); clear HI HB HK; have HI := am_ hi; have HB := am_ hb; have HK := n2_; clear hi hb hk n2_) | (go_at_call 57; (with_reducible refine (spec_gate.calls g ok ins gq os 4 xp xq xu gu w0 _ ?side1 ?side2 Fu.out).mono ?_); (case side1 => repeat (first | (with_reducible first | exact HI.out | apply IsG.alloc | apply IsG.drewN | apply IsG.drew) | exact HI.out)); (case side2 => repeat (first | (with_reducible first | exact HB.out | apply below_alloc | apply pw_below_drewN | apply below_drew1) | exact HB.out | with_reducible refine Below.alloc ?_ (by first | exact HL.out | exact Nat.le_trans HL.out HK.out.1) _)); rintro e wu ⟨rfl, hi, hb, hk⟩; have n2_ := am_ ((by first | exact KeepG.trans HK.out hk | exact KeepG.trans (KeepG.alloc HK.out _) hk) : KeepG w wu g); clear HI HB HK; have HI := am_ hi; have HB := am_ hb; have HK := n2_; clear hi hb hk n2_))
      go_roundg k1
      case measure => have := HK1.out; omega
      case rel => exact ⟨(wrap64 (xi + 1)), _, _, rfl, rfl, H', ⟨by have := HK1.out; omega⟩, ⟨HI.out⟩, ⟨HK.out⟩, ⟨HB.out⟩⟩
     ·rw [if_neg c6] at H
      exact absurd H (by simp)
    ·rw [if_neg c5] at H
     exact absurd H (by simp)
   ·rw [if_neg c4] at H
    have c4b0 := decide_eq_false c4
    simp only [Option.some.injEq, Prod.mk.injEq] at H
    obtain ⟨rfl, rfl⟩ := H
    go_wp2
    go_ret
    exact ⟨Sh.eR, HI.out, HB.out, HK.out⟩

def spec_LessGates.f (k : Nat) (a0_0 : Int) (l0_1 : List S66) (l0_2 : List Int) (l1 l2 : List Int) : Option (Int × List S66 × List Int × Int × Bool) :=
 (spec_l4Lists.f k a0_0 l0_1 l0_2 l1 l2).bind fun t1 => (if t1 = true then ((spec_l4Own.f a0_0 l0_1 l0_2).bind fun c => ((spec_less.f k c.1 c.2.1 l1 l2).bind fun p => ((spec_GoodCircuit.f k c.1 p.2 c.2.2).bind fun t4 => (if t4 = true then (some (c.1, p.2, c.2.2, p.1, true)) else (some (0, [], [], 0, false)))))) else (some (0, [], [], 0, false)))
theorem spec_LessGates.mono : ∀ a0 a1 a2 a3 a4 k, LeO (spec_LessGates.f k a0 a1 a2 a3 a4) (spec_LessGates.f (k + 1) a0 a1 a2 a3 a4) := by
 intro a0 a1 a2 a3 a4 k
 unfold spec_LessGates.f
 repeat' with_reducible first | apply spec_l4Lists.mono | apply spec_less.mono | apply spec_GoodCircuit.mono | exact LeO.refl _ | exact LeO.none _ | apply LeO.ite | refine LeO.bind ?_ fun _ => ?_
theorem spec_LessGates.calls (k : Nat) (a0_0 : Int) (A0_1 : Option Addr) (c0_1 : Nat) (l0_1 : List (S66)) (A0_2 : Option Addr) (c0_2 : Nat) (l0_2 : List Int) (A1 : Option Addr) (c1 : Nat) (l1 : List Int) (A2 : Option Addr) (c2 : Nat) (l2 : List Int) (r1 : Int) (r2 : List (S66)) (r3 : List Int) (r4 : Int) (r5 : Bool) (w : World) (hr0_1 : Kd.C k66 w A0_1 l0_1.length l0_1) (hc0_1 : l0_1.length ≤ c0_1) (hr0_2 : Kd.C (Kd.int .i64) w A0_2 l0_2.length l0_2) (hc0_2 : l0_2.length ≤ c0_2) (hr1 : Kd.C (Kd.int .i64) w A1 l1.length l1) (hc1 : l1.length ≤ c1) (hr2 : Kd.C (Kd.int .i64) w A2 l2.length l2) (hc2 : l2.length ≤ c2) (h : spec_LessGates.f k a0_0 l0_1 l0_2 l1 l2 = some (r1, r2, r3, r4, r5)) :
  Calls Try.prog 20 #[.agg #[.int .i64 a0_0, .slice A0_1 l0_1.length c0_1, .slice A0_2 l0_2.length c0_2], .slice A1 l1.length c1, .slice A2 l2.length c2] w fun e w' => ∃ v1_ v2_ : Value, e = .returned (.tuple #[.agg #[.int .i64 r1, v1_, v2_], .int .i64 r4, .bool r5]) ∧ Kd.R k66 66 w' w.heap.size (fun _ => True) v1_ r2 ∧ Kd.R (Kd.int .i64) 3 w' w.heap.size (fun _ => True) v2_ r3 ∧ Below w.heap.size w w' := by
 have hu27 := Try.underlying27
 have hu64 := Try.underlying64
 have HR0_1 := am_ hr0_1
 have HC0_1 := am_ hc0_1
 have HR0_2 := am_ hr0_2
 have HC0_2 := am_ hc0_2
 have HR1 := am_ hr1
 have HC1 := am_ hc1
 have HR2 := am_ hr2
 have HC2 := am_ hc2
 clear hr0_1 hc0_1 hr0_2 hc0_2 hr1 hc1 hr2 hc2
 have HB := am_ (Below.refl w.heap.size w)
 have H := h
 clear h
 unfold spec_LessGates.f at H
 obtain ⟨t1, A1_, H⟩ := Sh.ba H
 by_cases b1_ : t1 = true
 ·subst b1_
  rw [if_pos rfl] at H
  obtain ⟨⟨q1, q2, q3⟩, A4_, H⟩ := Sh.ba H
  obtain ⟨⟨s1, s2⟩, A5_, H⟩ := Sh.ba H
  obtain ⟨t4, A6_, H⟩ := Sh.ba H
  by_cases b4_ : t4 = true
  ·subst b4_
   rw [if_pos rfl] at H
   simp only [Option.some.injEq, Prod.mk.injEq] at H
   obtain ⟨rfl, rfl, rfl, rfl, rfl⟩ := H
   go_enter Try.func20, Try.ntmps20
   go_wp2_with (first | ((with_reducible refine Sh.d 3 ?_); refine Sh.bz w (N := 3) (cs := #[.int .i64 a0_0, .slice A0_1 l0_1.length c0_1, .slice A0_2 l0_2.length c0_2]) (t := 27) (h := ?_); clear HB; intro gb3 w4 BK3 GE3 HB) | ((with_reducible refine Sh.d 6 ?_); refine Sh.bx (N := 6) (cs := #[.int .i64 0, .slice none 0 0, .slice none 0 0]) (t := 27) (h := ?_); intro gb6 hg w5 hbox hb; have BK6 := am_ hbox; have GE6 := Sh.ag w hg; replace HB := Sh.hb hb; replace BK3 := Sh.ab BK3 hb; clear hb hbox hg; obtain ⟨hcz1_0, hcz1_1, hcz1_2, hfz1_0, hfz1_1, hfz1_2⟩ := Sh.b3 BK3.out) | (go_at_call 34; (with_reducible refine (spec_l4Lists.calls k a0_0 _ _ l0_1 _ _ l0_2 _ _ l1 _ _ l2 true _ (Sh.cB HR0_1.out) HC0_1.out (Sh.cB HR0_2.out) HC0_2.out (Sh.cB HR1.out) HC1.out (Sh.cB HR2.out) HC2.out A1_.out).mono ?_); rintro e w6 ⟨rfl, hb⟩; replace BK3 := Sh.ab BK3 hb; replace BK6 := Sh.ab BK6 hb; replace HB := Sh.hb hb; clear hb; clear hcz1_0 hcz1_1 hcz1_2 hfz1_0 hfz1_1 hfz1_2; obtain ⟨hcz1_0, hcz1_1, hcz1_2, hfz1_0, hfz1_1, hfz1_2⟩ := Sh.b3 BK3.out) | (go_at_call 36; (with_reducible refine (spec_l4Own.calls a0_0 _ _ l0_1 _ _ l0_2 q1 q2 q3 _ (Sh.cB HR0_1.out) HC0_1.out (Sh.cB HR0_2.out) HC0_2.out A4_.out).mono ?_); rintro e w10 ⟨v1, v2, rfl, ho1, ho2, hb⟩; have HO1 := am_ (Kd.R_lower ho1 (below_size Sh.bw)); have HO2 := am_ (Kd.R_lower ho2 (below_size Sh.bw)); replace BK6 := Sh.ab BK6 hb; replace HB := Sh.hb hb; clear hb ho1 ho2 BK3; obtain ⟨Ao1, co1, eo1⟩ := Kd.R_slice HO1.out; subst eo1; obtain ⟨Ao2, co2, eo2⟩ := Kd.R_slice HO2.out; subst eo2; clear hcz1_0 hcz1_1 hcz1_2 hfz1_0 hfz1_1 hfz1_2) | ((with_reducible refine Sh.d 20 ?_); refine Sh.bx (N := 20) (cs := #[.int .i64 q1, .slice Ao1 q2.length co1, .slice Ao2 q3.length co2]) (t := 64) (h := ?_); intro gs_ hg w11 hbox hb; have BKs := am_ hbox; have GEs := Sh.ag w hg; replace HB := Sh.hb hb; have NB8_s := am_ (Sh.nl hg BK6.out); have NBs_8 := am_ (Sh.ng hg BK6.out); replace BK6 := Sh.ab BK6 hb; have n1_ := am_ (Kd.R_below (Sh.rl HO1.out) hb); have n2_ := am_ (Kd.R_below (Sh.rl HO2.out) hb); clear HO1 HO2; have HO1 := n1_; have HO2 := n2_; clear n1_ n2_ hb hbox hg; obtain ⟨hcz1_0, hcz1_1, hcz1_2, hfz1_0, hfz1_1, hfz1_2⟩ := Sh.b3 BKs.out) | (go_at_call 46; have hb3 := BKs.out; have ho1 := HO1.out; have ho2 := HO2.out; have hB3 := HB.out; have hr8 := BK6.out; have hI : IsG 64 (fun _ => True) w _ gs_ q1 q2 q3 := ⟨Ao1, co1, Ao2, co2, hb3, GEs.out, ho1, ho2⟩; (with_reducible refine (spec_less.calls k gs_ (fun _ => True) q1 q2 q3 _ _ l1 _ _ l2 s1 s2 w _ hI hB3 HR1.out HR2.out A5_.out).mono ?_); rintro e w12 ⟨rfl, hi, hb, hk⟩; have n1_ := am_ (KeepG.blk hk hr8 NB8_s.out (by decide)); obtain ⟨Ap1, cp1, Ap2, cp2, bs, ge_, og, oo⟩ := hi; clear HO1 HO2 HB BKs BK6 hb3 ho1 ho2 hB3 hr8 hI hk; have BK6 := n1_; have BKs := am_ bs; have HO1 := am_ og; have HO2 := am_ oo; have HB := am_ hb; clear n1_ bs ge_ og oo hb; clear hcz1_0 hcz1_1 hcz1_2 hfz1_0 hfz1_1 hfz1_2; obtain ⟨hcz1_0, hcz1_1, hcz1_2, hfz1_0, hfz1_1, hfz1_2⟩ := Sh.b3 BKs.out) | (go_at_call 12; (refine (spec_GoodCircuit.calls k q1 _ _ s2 _ _ q3 true _ (Kd.R_reads' HO1.out).2.2 (Kd.R_reads' HO1.out).2.1 (Kd.R_reads' HO2.out).2.2 (Kd.R_reads' HO2.out).2.1 A6_.out).mono ?_); rintro e w13 ⟨rfl, hb⟩; replace HO1 := am_ (Kd.R_below HO1.out hb); replace HO2 := am_ (Kd.R_below HO2.out hb); replace BK6 := Sh.ab BK6 hb; replace BKs := Sh.ab BKs hb; replace HB := Sh.hb hb; clear hb; clear hcz1_0 hcz1_1 hcz1_2 hfz1_0 hfz1_1 hfz1_2; obtain ⟨hcz1_0, hcz1_1, hcz1_2, hfz1_0, hfz1_1, hfz1_2⟩ := Sh.b3 BKs.out; obtain ⟨hdz1_0, hdz1_1, hdz1_2, hgz1_0, hgz1_1, hgz1_2⟩ := Sh.b3 BK6.out))
   refine bodyPost_ret (results_list (rs := [.cell 6 27, .tmp 7, .tmp 8]) rfl (by simp) (.cell gb6 27 #[.int .i64 q1, .slice Ap1 s2.length cp1, .slice Ap2 q3.length cp2] (0, 0) _ rfl (by refine Sh.pl ?_; refine blk_put (cs := #[.int .i64 q1, .slice Ap1 s2.length cp1, .slice none 0 0]) ?_ 2 _ rfl; refine Sh.pl ?_; refine blk_put (cs := #[.int .i64 q1, .slice none 0 0, .slice none 0 0]) ?_ 1 _ rfl; refine Sh.pl ?_; refine blk_put (cs := #[.int .i64 0, .slice none 0 0, .slice none 0 0]) ?_ 0 _ rfl; refine Sh.pl ?_; exact BK6.out) Try.underlying27 rfl (by kernel_rfl) (.tmp (.tmp .nil)))) rfl ?_
   exact ⟨_, _, rfl, (Kd.R_mono (Kd.R_far (p := ⟨gb6, 2, none⟩) (Kd.R_far (p := ⟨gb6, 1, none⟩) (Kd.R_far (p := ⟨gb6, 0, none⟩) (Kd.R_types HO1.out BK6.out (by decide)) (fun _ hk => hk.2) (.int .i64 q1)) (fun _ hk => hk.2) (.slice Ap1 s2.length cp1)) (fun _ hk => hk.2) (.slice Ap2 q3.length cp2)) (fun _ hk => trivial)), (Kd.R_mono (Kd.R_far (p := ⟨gb6, 2, none⟩) (Kd.R_far (p := ⟨gb6, 1, none⟩) (Kd.R_far (p := ⟨gb6, 0, none⟩) (Kd.R_types HO2.out BK6.out (by decide)) (fun _ hk => hk.2) (.int .i64 q1)) (fun _ hk => hk.2) (.slice Ap1 s2.length cp1)) (fun _ hk => hk.2) (.slice Ap2 q3.length cp2)) (fun _ hk => trivial)), (below_set (below_set (below_set HB.out GE6.out) GE6.out) GE6.out)⟩
  ·replace b4_ := Bool.eq_false_iff.mpr b4_
   subst b4_
   rw [Sh.nf] at H
   simp only [Option.some.injEq, Prod.mk.injEq] at H
   obtain ⟨rfl, rfl, rfl, rfl, rfl⟩ := H
   go_enter Try.func20, Try.ntmps20
   go_wp2_with (first | ((with_reducible refine Sh.d 3 ?_); refine Sh.bz w (N := 3) (cs := #[.int .i64 a0_0, .slice A0_1 l0_1.length c0_1, .slice A0_2 l0_2.length c0_2]) (t := 27) (h := ?_); clear HB; intro gb3 w4 BK3 GE3 HB) | ((with_reducible refine Sh.d 6 ?_); refine Sh.bx (N := 6) (cs := #[.int .i64 0, .slice none 0 0, .slice none 0 0]) (t := 27) (h := ?_); intro gb6 hg w5 hbox hb; have BK6 := am_ hbox; have GE6 := Sh.ag w hg; replace HB := Sh.hb hb; replace BK3 := Sh.ab BK3 hb; clear hb hbox hg; obtain ⟨hcz1_0, hcz1_1, hcz1_2, hfz1_0, hfz1_1, hfz1_2⟩ := Sh.b3 BK3.out) | (go_at_call 34; (with_reducible refine (spec_l4Lists.calls k a0_0 _ _ l0_1 _ _ l0_2 _ _ l1 _ _ l2 true _ (Sh.cB HR0_1.out) HC0_1.out (Sh.cB HR0_2.out) HC0_2.out (Sh.cB HR1.out) HC1.out (Sh.cB HR2.out) HC2.out A1_.out).mono ?_); rintro e w6 ⟨rfl, hb⟩; replace BK3 := Sh.ab BK3 hb; replace BK6 := Sh.ab BK6 hb; replace HB := Sh.hb hb; clear hb; clear hcz1_0 hcz1_1 hcz1_2 hfz1_0 hfz1_1 hfz1_2; obtain ⟨hcz1_0, hcz1_1, hcz1_2, hfz1_0, hfz1_1, hfz1_2⟩ := Sh.b3 BK3.out) | (go_at_call 36; (with_reducible refine (spec_l4Own.calls a0_0 _ _ l0_1 _ _ l0_2 q1 q2 q3 _ (Sh.cB HR0_1.out) HC0_1.out (Sh.cB HR0_2.out) HC0_2.out A4_.out).mono ?_); rintro e w10 ⟨v1, v2, rfl, ho1, ho2, hb⟩; have HO1 := am_ (Kd.R_lower ho1 (below_size Sh.bw)); have HO2 := am_ (Kd.R_lower ho2 (below_size Sh.bw)); replace BK6 := Sh.ab BK6 hb; replace HB := Sh.hb hb; clear hb ho1 ho2 BK3; obtain ⟨Ao1, co1, eo1⟩ := Kd.R_slice HO1.out; subst eo1; obtain ⟨Ao2, co2, eo2⟩ := Kd.R_slice HO2.out; subst eo2; clear hcz1_0 hcz1_1 hcz1_2 hfz1_0 hfz1_1 hfz1_2) | ((with_reducible refine Sh.d 20 ?_); refine Sh.bx (N := 20) (cs := #[.int .i64 q1, .slice Ao1 q2.length co1, .slice Ao2 q3.length co2]) (t := 64) (h := ?_); intro gs_ hg w11 hbox hb; have BKs := am_ hbox; have GEs := Sh.ag w hg; replace HB := Sh.hb hb; have NB8_s := am_ (Sh.nl hg BK6.out); have NBs_8 := am_ (Sh.ng hg BK6.out); replace BK6 := Sh.ab BK6 hb; have n1_ := am_ (Kd.R_below (Sh.rl HO1.out) hb); have n2_ := am_ (Kd.R_below (Sh.rl HO2.out) hb); clear HO1 HO2; have HO1 := n1_; have HO2 := n2_; clear n1_ n2_ hb hbox hg; obtain ⟨hcz1_0, hcz1_1, hcz1_2, hfz1_0, hfz1_1, hfz1_2⟩ := Sh.b3 BKs.out) | (go_at_call 46; have hb3 := BKs.out; have ho1 := HO1.out; have ho2 := HO2.out; have hB3 := HB.out; have hr8 := BK6.out; have hI : IsG 64 (fun _ => True) w _ gs_ q1 q2 q3 := ⟨Ao1, co1, Ao2, co2, hb3, GEs.out, ho1, ho2⟩; (with_reducible refine (spec_less.calls k gs_ (fun _ => True) q1 q2 q3 _ _ l1 _ _ l2 s1 s2 w _ hI hB3 HR1.out HR2.out A5_.out).mono ?_); rintro e w12 ⟨rfl, hi, hb, hk⟩; have n1_ := am_ (KeepG.blk hk hr8 NB8_s.out (by decide)); obtain ⟨Ap1, cp1, Ap2, cp2, bs, ge_, og, oo⟩ := hi; clear HO1 HO2 HB BKs BK6 hb3 ho1 ho2 hB3 hr8 hI hk; have BK6 := n1_; have BKs := am_ bs; have HO1 := am_ og; have HO2 := am_ oo; have HB := am_ hb; clear n1_ bs ge_ og oo hb; clear hcz1_0 hcz1_1 hcz1_2 hfz1_0 hfz1_1 hfz1_2; obtain ⟨hcz1_0, hcz1_1, hcz1_2, hfz1_0, hfz1_1, hfz1_2⟩ := Sh.b3 BKs.out) | (go_at_call 12; (refine (spec_GoodCircuit.calls k q1 _ _ s2 _ _ q3 false _ (Kd.R_reads' HO1.out).2.2 (Kd.R_reads' HO1.out).2.1 (Kd.R_reads' HO2.out).2.2 (Kd.R_reads' HO2.out).2.1 A6_.out).mono ?_); rintro e w13 ⟨rfl, hb⟩; replace HO1 := am_ (Kd.R_below HO1.out hb); replace HO2 := am_ (Kd.R_below HO2.out hb); replace BK6 := Sh.ab BK6 hb; replace BKs := Sh.ab BKs hb; replace HB := Sh.hb hb; clear hb; clear hcz1_0 hcz1_1 hcz1_2 hfz1_0 hfz1_1 hfz1_2; obtain ⟨hcz1_0, hcz1_1, hcz1_2, hfz1_0, hfz1_1, hfz1_2⟩ := Sh.b3 BK6.out))
   have hw_ := BK6.out
   refine bodyPost_ret (results_list (rs := [.cell 6 27, .tmp 7, .tmp 8]) rfl (by simp) (.cell gb6 27 #[.int .i64 0, .slice none 0 0, .slice none 0 0] (0, 0) _ rfl (by refine Sh.pl ?_; refine blk_put (cs := #[.int .i64 0, .slice none 0 0, .slice none 0 0]) ?_ 2 _ rfl; refine Sh.pl ?_; refine blk_put (cs := #[.int .i64 0, .slice none 0 0, .slice none 0 0]) ?_ 1 _ rfl; refine Sh.pl ?_; refine blk_put (cs := #[.int .i64 0, .slice none 0 0, .slice none 0 0]) ?_ 0 _ rfl; refine Sh.pl ?_; exact BK6.out) Try.underlying27 rfl (by kernel_rfl) (.tmp (.tmp .nil)))) rfl ?_
   exact ⟨_, _, rfl, Kd.R_nil _ _ _ _ _, Kd.R_nil _ _ _ _ _, (below_set (below_set (below_set HB.out GE6.out) GE6.out) GE6.out)⟩
 ·replace b1_ := Bool.eq_false_iff.mpr b1_
  subst b1_
  rw [Sh.nf] at H
  simp only [Option.some.injEq, Prod.mk.injEq] at H
  obtain ⟨rfl, rfl, rfl, rfl, rfl⟩ := H
  go_enter Try.func20, Try.ntmps20
  go_wp2_with (first | ((with_reducible refine Sh.d 3 ?_); refine Sh.bz w (N := 3) (cs := #[.int .i64 a0_0, .slice A0_1 l0_1.length c0_1, .slice A0_2 l0_2.length c0_2]) (t := 27) (h := ?_); clear HB; intro gb3 w4 BK3 GE3 HB) | ((with_reducible refine Sh.d 6 ?_); refine Sh.bx (N := 6) (cs := #[.int .i64 0, .slice none 0 0, .slice none 0 0]) (t := 27) (h := ?_); intro gb6 hg w5 hbox hb; have BK6 := am_ hbox; have GE6 := Sh.ag w hg; replace HB := Sh.hb hb; replace BK3 := Sh.ab BK3 hb; clear hb hbox hg; obtain ⟨hcz1_0, hcz1_1, hcz1_2, hfz1_0, hfz1_1, hfz1_2⟩ := Sh.b3 BK3.out) | (go_at_call 34; (with_reducible refine (spec_l4Lists.calls k a0_0 _ _ l0_1 _ _ l0_2 _ _ l1 _ _ l2 false _ (Sh.cB HR0_1.out) HC0_1.out (Sh.cB HR0_2.out) HC0_2.out (Sh.cB HR1.out) HC1.out (Sh.cB HR2.out) HC2.out A1_.out).mono ?_); rintro e w6 ⟨rfl, hb⟩; replace BK3 := Sh.ab BK3 hb; replace BK6 := Sh.ab BK6 hb; replace HB := Sh.hb hb; clear hb; clear hcz1_0 hcz1_1 hcz1_2 hfz1_0 hfz1_1 hfz1_2; obtain ⟨hcz1_0, hcz1_1, hcz1_2, hfz1_0, hfz1_1, hfz1_2⟩ := Sh.b3 BK6.out))
  have hw_ := BK6.out
  refine bodyPost_ret (results_list (rs := [.cell 6 27, .tmp 7, .tmp 8]) rfl (by simp) (.cell gb6 27 #[.int .i64 0, .slice none 0 0, .slice none 0 0] (0, 0) _ rfl (by refine Sh.pl ?_; refine blk_put (cs := #[.int .i64 0, .slice none 0 0, .slice none 0 0]) ?_ 2 _ rfl; refine Sh.pl ?_; refine blk_put (cs := #[.int .i64 0, .slice none 0 0, .slice none 0 0]) ?_ 1 _ rfl; refine Sh.pl ?_; refine blk_put (cs := #[.int .i64 0, .slice none 0 0, .slice none 0 0]) ?_ 0 _ rfl; refine Sh.pl ?_; exact BK6.out) Try.underlying27 rfl (by kernel_rfl) (.tmp (.tmp .nil)))) rfl ?_
  exact ⟨_, _, rfl, Kd.R_nil _ _ _ _ _, Kd.R_nil _ _ _ _ _, (below_set (below_set (below_set HB.out GE6.out) GE6.out) GE6.out)⟩
def impl_putEq.l0 : Nat → Int → List Int → List Int → Int → Int → Int → List S66 → Option (Int × List S66)
 | 0, _, _, _, _, _, _, _ => none
 | k + 1, ins, a, b, n, i, carry, gs => if i < n then (if 0 ≤ i then (if i < (a.length : Int) then (if i < (b.length : Int) then ((impl_put.f ins gs 5 (rd a i) (rd b i)).bind fun p0 => ((impl_put.f ins p0.2 2 p0.1 0).bind fun p1 => ((impl_put.f ins p1.2 3 p1.1 carry).bind fun p2 => (impl_putEq.l0 k ins a b n (wrap64 (i + 1)) p2.1 p2.2)))) else (none)) else (none)) else (none)) else (some (carry, gs))
def impl_putEq.f (k : Nat) (ins : Int) (gs : List S66) (a b : List Int) : Option (Int × List S66) := (impl_put.f ins gs 1 1 0).bind fun p => (impl_putEq.l0 k ins a b (a.length : Int) 0 p.1 p.2)
theorem impl_putEq.mono_l : ∀ k, (∀ y0 y1 y2 y3 y4 y5 y6, LeO (impl_putEq.l0 k y0 y1 y2 y3 y4 y5 y6) (impl_putEq.l0 (k + 1) y0 y1 y2 y3 y4 y5 y6))
 | 0 => fun _ _ _ _ _ _ _ r h => by simp [impl_putEq.l0] at h
 | k + 1 => by
  have ih0 := impl_putEq.mono_l k
  intro y0 y1 y2 y3 y4 y5 y6
  unfold impl_putEq.l0
  repeat' with_reducible first | apply ih0 | exact LeO.refl _ | exact LeO.none _ | apply LeO.ite | refine LeO.bind ?_ fun _ => ?_
theorem impl_putEq.mono : ∀ a0 a1 a2 a3 k, LeO (impl_putEq.f k a0 a1 a2 a3) (impl_putEq.f (k + 1) a0 a1 a2 a3) := by
 intro a0 a1 a2 a3 k
 have ih0 := impl_putEq.mono_l k
 unfold impl_putEq.f
 repeat' with_reducible first | apply ih0 | exact LeO.refl _ | exact LeO.none _ | apply LeO.ite | refine LeO.bind ?_ fun _ => ?_
def impl_putEq.T : Bool × List (List Nat × List Nat) := (true, [([], []), ([], []), ([], []), ([1, 2], [1, 2]), ([3], [3]), ([], []), ([], []), ([5, 6], [5, 6]), ([7], [7]), ([0, 4, 8], [0, 4, 8]), ([9, 9, 0, 1, 2, 3, 4, 5, 6, 7, 8, 9], [9])])
def impl_putEq.B : List Nat := [0, 0, 0, 6, 14, 0, 0, 96, 224, 511, 1023]
theorem impl_putEq.tab5 : rtab .any (opsOf Try.f48 5) = impl_putEq.T := by kernel_rfl
theorem impl_putEq.bits : waitsOk impl_putEq.T.2 impl_putEq.B = true := by kernel_rfl
theorem impl_putEq.calls (k : Nat) (g : Nat) (ok : Nat → Prop) (ins : Int) (gs : List S66) (os : List Int) (A1 : Option Addr) (c1 : Nat) (l1 : List Int) (A2 : Option Addr) (c2 : Nat) (l2 : List Int) (r1 : Int) (r2 : List S66) (w0 w : World) (hI : IsG 27 ok w0 w g ins gs os) (hB : Below w0.heap.size w0 w) (hr1 : Kd.C (Kd.int .i64) w0 A1 l1.length l1) (hr2 : Kd.C (Kd.int .i64) w0 A2 l2.length l2) (h : impl_putEq.f k ins gs l1 l2 = some (r1, r2)) :
  Calls Try.prog 48 #[.pointer (some ⟨g, 0, none⟩), .slice A1 l1.length c1, .slice A2 l2.length c2] w fun e w' => e = .returned (.int .i64 r1) ∧ IsG 27 ok w0 w' g ins r2 os ∧ Below w0.heap.size w0 w' ∧ KeepG w w' g := by
 have HI := am_ hI
 have HB := am_ hB
 have HL := am_ hB.size
 have HK := am_ (KeepG.refl w g)
 have HR1 := am_ hr1
 have HR2 := am_ hr2
 clear hI hB hr1 hr2
 unfold impl_putEq.f at h
 obtain ⟨⟨x0, g0⟩, F0, h⟩ := Sh.ba h
 have H' := am_ h
 clear h
 go_enter Try.func48, Try.ntmps48
 go_wp2_with (first | (go_at_call 55; (with_reducible refine (impl_put.calls g ok ins gs os 1 1 0 x0 g0 w0 _ ?side1 ?side2 F0.out).mono ?_); (case side1 => repeat (first | (with_reducible first | exact HI.out | apply IsG.alloc | apply IsG.drewN | apply IsG.drew) | exact HI.out)); (case side2 => repeat (first | (with_reducible first | exact HB.out | apply below_alloc | apply pw_below_drewN | apply below_drew1) | exact HB.out | with_reducible refine Below.alloc ?_ (by first | exact HL.out | exact Nat.le_trans HL.out HK.out.1) _)); rintro e w1 ⟨rfl, hi, hb, hk⟩; have n2_ := am_ ((by first | exact KeepG.trans HK.out hk | exact KeepG.trans (KeepG.alloc HK.out _) hk) : KeepG w w1 g); clear HI HB HK; have HI := am_ hi; have HB := am_ hb; have HK := n2_; clear hi hb hk n2_))
 go_loopg [7, 15] k (fun kq v7 v15 w' => ∃ (xi xc : Int) (xg : List S66), v7 = .int .i64 xc ∧ v15 = .int .i64 xi ∧ Aside0 (impl_putEq.l0 kq ins l1 l2 (l1.length : Int) xi xc xg = some (r1, r2)) ∧ Aside0 (kq ≤ k) ∧ Aside0 (IsG 27 ok w0 w' g ins xg os) ∧ Aside0 (KeepG w w' g) ∧ Aside0 (Below w0.heap.size w0 w'))
 case atStart => exact ⟨0, x0, g0, rfl, rfl, H', ⟨Nat.le_refl _⟩, ⟨by repeat (first | (with_reducible first | exact HI.out | apply IsG.alloc | apply IsG.drewN | apply IsG.drew) | exact HI.out)⟩, ⟨by first | exact HK.out | exact KeepG.alloc HK.out _⟩, ⟨by repeat (first | (with_reducible first | exact HB.out | apply below_alloc | apply pw_below_drewN | apply below_drew1) | exact HB.out | with_reducible refine Below.alloc ?_ (by first | exact HL.out | exact Nat.le_trans HL.out HK.out.1) _)⟩⟩
 case round =>
  clear H'
  obtain ⟨xi, xc, xg, rfl, rfl, HA, HK1, HI, HK, HB⟩ := hrel
  cases gk with
  | zero => exact absurd HA.out (by simp [impl_putEq.l0])
  | succ k1 =>
   have H := HA.out
   clear HA
   simp only [impl_putEq.l0] at H
   by_cases c4 : xi < (l1.length : Int)
   ·rw [if_pos c4] at H
    have c4b0 := decide_eq_true c4
    by_cases c5 : 0 ≤ xi
    ·rw [if_pos c5, if_pos c4] at H
     by_cases c6 : xi < (l2.length : Int)
     ·rw [if_pos c6] at H
      obtain ⟨⟨xx, gx⟩, Fx, H⟩ := Sh.ba H
      obtain ⟨⟨xn, gn⟩, Fn, H⟩ := Sh.ba H
      obtain ⟨⟨xu, gu⟩, Fu, H⟩ := Sh.ba H
      have H' := am_ H
      clear H
      obtain ⟨ad1, e1, hx1⟩ := Kd.at_int HR1.out xi c5 c4
      subst e1
      obtain ⟨ad2, e2, hx2⟩ := Kd.at_int HR2.out xi c5 c6
      subst e2
      go_wp2
      refine start_ (n := 11) (S := fun w' => w'.cell? (ad1.add xi.toNat) = some (.int .i64 (rd l1 xi)) ∧ w'.cell? (ad2.add xi.toNat) = some (.int .i64 (rd l2 xi))) (ds := []) (Sh.nm 11 0) (by kernel_rfl) rfl rfl ⟨(HB.out.cell (World.block_lt_of_cell? w0 _ hx1)).trans hx1, (HB.out.cell (World.block_lt_of_cell? w0 _ hx2)).trans hx2⟩ (fun hHeld => ?_)
      refine with_tabW impl_putEq.tab5 impl_putEq.bits (fun HT_ HW_ => ?_)
      refine Sh.qA 0 ?_; refine Sh.qA 1 ?_; refine Sh.qA 2 ?_; refine Sh.qA 3 ?_; refine Sh.qT 4 hHeld ?_; refine Sh.qA 5 ?_; refine Sh.qA 6 ?_; refine Sh.qA 7 ?_; refine Sh.qT 8 hHeld ?_
      refine Sh.oC 9 Try.func55 #[.pointer (some ⟨g, 0, none⟩), .int .i64 5, .int .i64 (rd l1 xi), .int .i64 (rd l2 xi)] fun K hK => ?_
      (with_reducible refine (impl_put.calls g ok ins xg os 5 (rd l1 xi) (rd l2 xi) xx gx w0 _ ?side1 ?side2 Fx.out).mono ?_)
      (case side1 => repeat (first | (with_reducible first | exact HI.out | apply IsG.alloc | apply IsG.drewN | apply IsG.drew) | exact HI.out))
      (case side2 => repeat (first | (with_reducible first | exact HB.out | apply below_alloc | apply pw_below_drewN | apply below_drew1) | exact HB.out | with_reducible refine Below.alloc ?_ (by first | exact HL.out | exact Nat.le_trans HL.out HK.out.1) _))
      rintro e wx ⟨rfl, hi, hb, hk⟩
      refine ⟨_, rfl, ?_⟩
      have n2_ := am_ ((by first | exact KeepG.trans HK.out hk | exact KeepG.trans (KeepG.alloc HK.out _) hk) : KeepG w wx g)
      clear HI HB HK
      have HI := am_ hi
      have HB := am_ hb
      have HK := n2_
      clear hi hb hk n2_
      refine Sh.kN hK ⟨(HB.out.cell (World.block_lt_of_cell? w0 _ hx1)).trans hx1, (HB.out.cell (World.block_lt_of_cell? w0 _ hx2)).trans hx2⟩ fun hHeld => ?_
      clear hK K
      refine Sh.qA 10 ?_
      refine done_ (done_of HT_.out (by kernel_rfl)) ?_
      go_wp2_with (first | (go_at_call 55; (with_reducible refine (impl_put.calls g ok ins gx os 2 xx 0 xn gn w0 _ ?side1 ?side2 Fn.out).mono ?_); (case side1 => repeat (first | (with_reducible first | exact HI.out | apply IsG.alloc | apply IsG.drewN | apply IsG.drew) | exact HI.out)); (case side2 => repeat (first | (with_reducible first | exact HB.out | apply below_alloc | apply pw_below_drewN | apply below_drew1) | exact HB.out | with_reducible refine Below.alloc ?_ (by first | exact HL.out | exact Nat.le_trans HL.out HK.out.1) _)); rintro e wn ⟨rfl, hi, hb, hk⟩; have n2_ := am_ ((by first | exact KeepG.trans HK.out hk | exact KeepG.trans (KeepG.alloc HK.out _) hk) : KeepG w wn g); clear HI HB HK; have HI := am_ hi; have HB := am_ hb; have HK := n2_; clear hi hb hk n2_) | (go_at_call 55; (with_reducible refine (impl_put.calls g ok ins gn os 3 xn xc xu gu w0 _ ?side1 ?side2 Fu.out).mono ?_); (case side1 => repeat (first | (with_reducible first | exact HI.out | apply IsG.alloc | apply IsG.drewN | apply IsG.drew) | exact HI.out)); (case side2 => repeat (first | (with_reducible first | exact HB.out | apply below_alloc | apply pw_below_drewN | apply below_drew1) | exact HB.out | with_reducible refine Below.alloc ?_ (by first | exact HL.out | exact Nat.le_trans HL.out HK.out.1) _)); rintro e wu ⟨rfl, hi, hb, hk⟩; have n2_ := am_ ((by first | exact KeepG.trans HK.out hk | exact KeepG.trans (KeepG.alloc HK.out _) hk) : KeepG w wu g); clear HI HB HK; have HI := am_ hi; have HB := am_ hb; have HK := n2_; clear hi hb hk n2_))
      go_roundg k1
      case measure => have := HK1.out; omega
      case rel => exact ⟨(wrap64 (xi + 1)), _, _, rfl, rfl, H', ⟨by have := HK1.out; omega⟩, ⟨HI.out⟩, ⟨HK.out⟩, ⟨HB.out⟩⟩
     ·rw [if_neg c6] at H
      exact absurd H (by simp)
    ·rw [if_neg c5] at H
     exact absurd H (by simp)
   ·rw [if_neg c4] at H
    have c4b0 := decide_eq_false c4
    simp only [Option.some.injEq, Prod.mk.injEq] at H
    obtain ⟨rfl, rfl⟩ := H
    go_wp2
    go_ret
    exact ⟨Sh.eR, HI.out, HB.out, HK.out⟩

def impl_EqGates_1.f (k : Nat) (ins : Int) (gs : List S66) (l1 l2 : List Int) : Option (Int × List S66) := impl_putEq.f k ins gs l1 l2
theorem impl_EqGates_1.mono : ∀ a0 a1 a2 a3 k, LeO (impl_EqGates_1.f k a0 a1 a2 a3) (impl_EqGates_1.f (k + 1) a0 a1 a2 a3) := impl_putEq.mono
theorem impl_EqGates_1.calls (k : Nat) (g : Nat) (ok : Nat → Prop) (ins : Int) (gs : List S66) (os : List Int) (A1 : Option Addr) (c1 : Nat) (l1 : List Int) (A2 : Option Addr) (c2 : Nat) (l2 : List Int) (r1 : Int) (r2 : List S66) (w0 w : World) (hI : IsG 27 ok w0 w g ins gs os) (hB : Below w0.heap.size w0 w) (hr1 : Kd.C (Kd.int .i64) w0 A1 l1.length l1) (hr2 : Kd.C (Kd.int .i64) w0 A2 l2.length l2) (h : impl_EqGates_1.f k ins gs l1 l2 = some (r1, r2)) (bp1 bp2 : Nat) (hb1 : w0.heap[bp1]? = some (.cells #[.slice A1 l1.length c1] 25 (0, 0))) (hb2 : w0.heap[bp2]? = some (.cells #[.slice A2 l2.length c2] 25 (0, 0))) :
  Calls Try.prog 47 #[.pointer (some ⟨g, 0, none⟩), .pointer (some ⟨bp1, 0, none⟩), .pointer (some ⟨bp2, 0, none⟩)] w fun e w' => e = .returned (.int .i64 r1) ∧ IsG 27 ok w0 w' g ins r2 os ∧ Below w0.heap.size w0 w' ∧ KeepG w w' g := by
 have hc1 : w.cell? ⟨bp1, 0, none⟩ = some (.slice A1 l1.length c1) := (blk_cell ((hB.block _ (blk_lt hb1)).trans hb1) 0).trans rfl
 have hc2 : w.cell? ⟨bp2, 0, none⟩ = some (.slice A2 l2.length c2) := (blk_cell ((hB.block _ (blk_lt hb2)).trans hb2) 0).trans rfl
 have h' : impl_putEq.f k ins gs l1 l2 = some (r1, r2) := h
 go_enter Try.func47, Try.ntmps47
 go_wp2_with (first | (go_at_call 48; (with_reducible refine (impl_putEq.calls k g ok ins gs os _ _ l1 _ _ l2 r1 r2 w0 _ hI hB hr1 hr2 h').mono ?_); rintro e w1 ⟨rfl, hi, hb, hk⟩))
 go_ret
 exact ⟨rfl, hi, hb, hk⟩
def impl_compareGates_by_EqGates.f (k : Nat) (a0_0 : Int) (l0_1 : List S66) (l0_2 : List Int) (l1 l2 : List Int) : Option (Int × List S66 × List Int × Int × Bool) :=
 (impl_areLists.f k a0_0 l0_1 l0_2 l1 l2).bind fun t1 => (if t1 = true then ((impl_copyCircuit.f a0_0 l0_1 l0_2).bind fun c => ((impl_EqGates_1.f k c.1 c.2.1 l1 l2).bind fun p => ((impl_GoodCircuit.f k c.1 p.2 c.2.2).bind fun t4 => (if t4 = true then (some (c.1, p.2, c.2.2, p.1, true)) else (some (0, [], [], 0, false)))))) else (some (0, [], [], 0, false)))
theorem impl_compareGates_by_EqGates.mono : ∀ a0 a1 a2 a3 a4 k, LeO (impl_compareGates_by_EqGates.f k a0 a1 a2 a3 a4) (impl_compareGates_by_EqGates.f (k + 1) a0 a1 a2 a3 a4) := by
 intro a0 a1 a2 a3 a4 k
 unfold impl_compareGates_by_EqGates.f
 repeat' with_reducible first | apply impl_areLists.mono | apply impl_EqGates_1.mono | apply impl_GoodCircuit.mono | exact LeO.refl _ | exact LeO.none _ | apply LeO.ite | refine LeO.bind ?_ fun _ => ?_
theorem impl_compareGates_by_EqGates.calls (k : Nat) (a0_0 : Int) (A0_1 : Option Addr) (c0_1 : Nat) (l0_1 : List (S66)) (A0_2 : Option Addr) (c0_2 : Nat) (l0_2 : List Int) (A1 : Option Addr) (c1 : Nat) (l1 : List Int) (A2 : Option Addr) (c2 : Nat) (l2 : List Int) (r1 : Int) (r2 : List (S66)) (r3 : List Int) (r4 : Int) (r5 : Bool) (w : World) (bp1 bp2 : Nat) (hb1 : w.heap[bp1]? = some (.cells #[.slice A1 l1.length c1] 25 (0, 0))) (hb2 : w.heap[bp2]? = some (.cells #[.slice A2 l2.length c2] 25 (0, 0))) (hr0_1 : Kd.C k66 w A0_1 l0_1.length l0_1) (hc0_1 : l0_1.length ≤ c0_1) (hr0_2 : Kd.C (Kd.int .i64) w A0_2 l0_2.length l0_2) (hc0_2 : l0_2.length ≤ c0_2) (hr1 : Kd.C (Kd.int .i64) w A1 l1.length l1) (hc1 : l1.length ≤ c1) (hr2 : Kd.C (Kd.int .i64) w A2 l2.length l2) (hc2 : l2.length ≤ c2) (h : impl_compareGates_by_EqGates.f k a0_0 l0_1 l0_2 l1 l2 = some (r1, r2, r3, r4, r5)) :
  Calls Try.prog 43 #[.agg #[.int .i64 a0_0, .slice A0_1 l0_1.length c0_1, .slice A0_2 l0_2.length c0_2], .slice A1 l1.length c1, .slice A2 l2.length c2, .func (.func 47) #[] #[.pointer (some ⟨bp1, 0, none⟩), .pointer (some ⟨bp2, 0, none⟩)]] w fun e w' => ∃ v1_ v2_ : Value, e = .returned (.tuple #[.agg #[.int .i64 r1, v1_, v2_], .int .i64 r4, .bool r5]) ∧ Kd.R k66 66 w' w.heap.size (fun _ => True) v1_ r2 ∧ Kd.R (Kd.int .i64) 3 w' w.heap.size (fun _ => True) v2_ r3 ∧ Below w.heap.size w w' := by
 have hu27 := Try.underlying27
 have HR0_1 := am_ hr0_1
 have HC0_1 := am_ hc0_1
 have HR0_2 := am_ hr0_2
 have HC0_2 := am_ hc0_2
 have HR1 := am_ hr1
 have HC1 := am_ hc1
 have HR2 := am_ hr2
 have HC2 := am_ hc2
 clear hr0_1 hc0_1 hr0_2 hc0_2 hr1 hc1 hr2 hc2
 have HB := am_ (Below.refl w.heap.size w)
 have H := h
 clear h
 unfold impl_compareGates_by_EqGates.f at H
 obtain ⟨t1, A1_, H⟩ := Sh.ba H
 by_cases b1_ : t1 = true
 ·subst b1_
  rw [if_pos rfl] at H
  obtain ⟨⟨q1, q2, q3⟩, A4_, H⟩ := Sh.ba H
  obtain ⟨⟨s1, s2⟩, A5_, H⟩ := Sh.ba H
  obtain ⟨t4, A6_, H⟩ := Sh.ba H
  by_cases b4_ : t4 = true
  ·subst b4_
   rw [if_pos rfl] at H
   simp only [Option.some.injEq, Prod.mk.injEq] at H
   obtain ⟨rfl, rfl, rfl, rfl, rfl⟩ := H
   go_enter Try.func43, Try.ntmps43
   go_wp2_with (first | ((with_reducible refine Sh.d 4 ?_); refine Sh.bz w (N := 4) (cs := #[.int .i64 a0_0, .slice A0_1 l0_1.length c0_1, .slice A0_2 l0_2.length c0_2]) (t := 27) (h := ?_); clear HB; intro gb4 w4 BK4 GE4 HB) | ((with_reducible refine Sh.d 8 ?_); refine Sh.bx (N := 8) (cs := #[.int .i64 0, .slice none 0 0, .slice none 0 0]) (t := 27) (h := ?_); intro gb8 hg w5 hbox hb; have BK8 := am_ hbox; have GE8 := Sh.ag w hg; replace HB := Sh.hb hb; replace BK4 := Sh.ab BK4 hb; clear hb hbox hg; obtain ⟨hcz1_0, hcz1_1, hcz1_2, hfz1_0, hfz1_1, hfz1_2⟩ := Sh.b3 BK4.out) | (go_at_call 29; (with_reducible refine (impl_areLists.calls k a0_0 _ _ l0_1 _ _ l0_2 _ _ l1 _ _ l2 true _ (Sh.cB HR0_1.out) HC0_1.out (Sh.cB HR0_2.out) HC0_2.out (Sh.cB HR1.out) HC1.out (Sh.cB HR2.out) HC2.out A1_.out).mono ?_); rintro e w6 ⟨rfl, hb⟩; replace BK4 := Sh.ab BK4 hb; replace BK8 := Sh.ab BK8 hb; replace HB := Sh.hb hb; clear hb; clear hcz1_0 hcz1_1 hcz1_2 hfz1_0 hfz1_1 hfz1_2; obtain ⟨hcz1_0, hcz1_1, hcz1_2, hfz1_0, hfz1_1, hfz1_2⟩ := Sh.b3 BK4.out) | (go_at_call 32; (with_reducible refine (impl_copyCircuit.calls a0_0 _ _ l0_1 _ _ l0_2 q1 q2 q3 _ (Sh.cB HR0_1.out) HC0_1.out (Sh.cB HR0_2.out) HC0_2.out A4_.out).mono ?_); rintro e w10 ⟨v1, v2, rfl, ho1, ho2, hb⟩; have HO1 := am_ (Kd.R_lower ho1 (below_size Sh.bw)); have HO2 := am_ (Kd.R_lower ho2 (below_size Sh.bw)); replace BK8 := Sh.ab BK8 hb; replace HB := Sh.hb hb; clear hb ho1 ho2 BK4; obtain ⟨Ao1, co1, eo1⟩ := Kd.R_slice HO1.out; subst eo1; obtain ⟨Ao2, co2, eo2⟩ := Kd.R_slice HO2.out; subst eo2; clear hcz1_0 hcz1_1 hcz1_2 hfz1_0 hfz1_1 hfz1_2) | ((with_reducible refine Sh.d 11 ?_); refine Sh.bx (N := 11) (cs := #[.int .i64 0, .slice none 0 0, .slice none 0 0]) (t := 27) (h := ?_); intro gs_ hg w11 hbox hb; have BKs := am_ hbox; have GEs := Sh.ag w hg; replace HB := Sh.hb hb; have NB8_s := am_ (Sh.nl hg BK8.out); have NBs_8 := am_ (Sh.ng hg BK8.out); replace BK8 := Sh.ab BK8 hb; have n1_ := am_ (Kd.R_below (Sh.rl HO1.out) hb); have n2_ := am_ (Kd.R_below (Sh.rl HO2.out) hb); clear HO1 HO2; have HO1 := n1_; have HO2 := n2_; clear n1_ n2_ hb hbox hg; obtain ⟨hcz1_0, hcz1_1, hcz1_2, hfz1_0, hfz1_1, hfz1_2⟩ := Sh.b3 BKs.out) | (go_at_call 47; have hb3 := blk_put (cs := #[.int .i64 q1, .slice Ao1 q2.length co1, .slice none 0 0]) (blk_put (cs := #[.int .i64 q1, .slice none 0 0, .slice none 0 0]) (blk_put (cs := #[.int .i64 0, .slice none 0 0, .slice none 0 0]) BKs.out 0 (.int .i64 q1) rfl) 1 (.slice Ao1 q2.length co1) rfl) 2 (.slice Ao2 q3.length co2) rfl; have ho1 : Kd.R k66 66 (((w11.setCell ⟨gs_, 0, none⟩ (.int .i64 q1)).setCell ⟨gs_, 1, none⟩ (.slice Ao1 q2.length co1)).setCell ⟨gs_, 2, none⟩ (.slice Ao2 q3.length co2)) w.heap.size (fun _ => True) (.slice Ao1 q2.length co1) q2 := Kd.R_mono (Kd.R_far (p := ⟨gs_, 2, none⟩) (Kd.R_far (p := ⟨gs_, 1, none⟩) (Kd.R_far (p := ⟨gs_, 0, none⟩) (Kd.R_types HO1.out BKs.out (by decide)) (fun _ hk => hk.2) (.int .i64 q1)) (fun _ hk => hk.2) (.slice Ao1 q2.length co1)) (fun _ hk => hk.2) (.slice Ao2 q3.length co2)) (fun _ _ => trivial); have ho2 : Kd.R (Kd.int .i64) 3 (((w11.setCell ⟨gs_, 0, none⟩ (.int .i64 q1)).setCell ⟨gs_, 1, none⟩ (.slice Ao1 q2.length co1)).setCell ⟨gs_, 2, none⟩ (.slice Ao2 q3.length co2)) w.heap.size (fun _ => True) (.slice Ao2 q3.length co2) q3 := Kd.R_mono (Kd.R_far (p := ⟨gs_, 2, none⟩) (Kd.R_far (p := ⟨gs_, 1, none⟩) (Kd.R_far (p := ⟨gs_, 0, none⟩) (Kd.R_types HO2.out BKs.out (by decide)) (fun _ hk => hk.2) (.int .i64 q1)) (fun _ hk => hk.2) (.slice Ao1 q2.length co1)) (fun _ hk => hk.2) (.slice Ao2 q3.length co2)) (fun _ _ => trivial); have hB3 := below_set (j := 2) (v := .slice Ao2 q3.length co2) (below_set (j := 1) (v := .slice Ao1 q2.length co1) (below_set (j := 0) (v := .int .i64 q1) HB.out GEs.out) GEs.out) GEs.out; have hr8 := blk_far (blk_far (blk_far BK8.out NB8_s.out (p := ⟨gs_, 0, none⟩) (.int .i64 q1)) NB8_s.out (p := ⟨gs_, 1, none⟩) (.slice Ao1 q2.length co1)) NB8_s.out (p := ⟨gs_, 2, none⟩) (.slice Ao2 q3.length co2); have hI : IsG 27 (fun _ => True) w _ gs_ q1 q2 q3 := ⟨Ao1, co1, Ao2, co2, hb3, GEs.out, ho1, ho2⟩; (with_reducible refine (impl_EqGates_1.calls k gs_ (fun _ => True) q1 q2 q3 _ _ l1 _ _ l2 s1 s2 w _ hI hB3 HR1.out HR2.out A5_.out bp1 bp2 hb1 hb2).mono ?_); rintro e w12 ⟨rfl, hi, hb, hk⟩; have n1_ := am_ (KeepG.blk hk hr8 NB8_s.out (by decide)); obtain ⟨Ap1, cp1, Ap2, cp2, bs, ge_, og, oo⟩ := hi; clear HO1 HO2 HB BKs BK8 hb3 ho1 ho2 hB3 hr8 hI hk; have BK8 := n1_; have BKs := am_ bs; have HO1 := am_ og; have HO2 := am_ oo; have HB := am_ hb; clear n1_ bs ge_ og oo hb; clear hcz1_0 hcz1_1 hcz1_2 hfz1_0 hfz1_1 hfz1_2; obtain ⟨hcz1_0, hcz1_1, hcz1_2, hfz1_0, hfz1_1, hfz1_2⟩ := Sh.b3 BKs.out) | (go_at_call 11; (refine (impl_GoodCircuit.calls k q1 _ _ s2 _ _ q3 true _ (Kd.R_reads' HO1.out).2.2 (Kd.R_reads' HO1.out).2.1 (Kd.R_reads' HO2.out).2.2 (Kd.R_reads' HO2.out).2.1 A6_.out).mono ?_); rintro e w13 ⟨rfl, hb⟩; replace HO1 := am_ (Kd.R_below HO1.out hb); replace HO2 := am_ (Kd.R_below HO2.out hb); replace BK8 := Sh.ab BK8 hb; replace BKs := Sh.ab BKs hb; replace HB := Sh.hb hb; clear hb; clear hcz1_0 hcz1_1 hcz1_2 hfz1_0 hfz1_1 hfz1_2; obtain ⟨hcz1_0, hcz1_1, hcz1_2, hfz1_0, hfz1_1, hfz1_2⟩ := Sh.b3 BKs.out; obtain ⟨hdz1_0, hdz1_1, hdz1_2, hgz1_0, hgz1_1, hgz1_2⟩ := Sh.b3 BK8.out))
   refine bodyPost_ret (results_list (rs := [.cell 8 27, .tmp 9, .tmp 10]) rfl (by simp) (.cell gb8 27 #[.int .i64 q1, .slice Ap1 s2.length cp1, .slice Ap2 q3.length cp2] (0, 0) _ rfl (by refine Sh.pl ?_; refine blk_put (cs := #[.int .i64 q1, .slice Ap1 s2.length cp1, .slice none 0 0]) ?_ 2 _ rfl; refine Sh.pl ?_; refine blk_put (cs := #[.int .i64 q1, .slice none 0 0, .slice none 0 0]) ?_ 1 _ rfl; refine Sh.pl ?_; refine blk_put (cs := #[.int .i64 0, .slice none 0 0, .slice none 0 0]) ?_ 0 _ rfl; refine Sh.pl ?_; exact BK8.out) Try.underlying27 rfl (by kernel_rfl) (.tmp (.tmp .nil)))) rfl ?_
   exact ⟨_, _, rfl, (Kd.R_mono (Kd.R_far (p := ⟨gb8, 2, none⟩) (Kd.R_far (p := ⟨gb8, 1, none⟩) (Kd.R_far (p := ⟨gb8, 0, none⟩) (Kd.R_types HO1.out BK8.out (by decide)) (fun _ hk => hk.2) (.int .i64 q1)) (fun _ hk => hk.2) (.slice Ap1 s2.length cp1)) (fun _ hk => hk.2) (.slice Ap2 q3.length cp2)) (fun _ hk => trivial)), (Kd.R_mono (Kd.R_far (p := ⟨gb8, 2, none⟩) (Kd.R_far (p := ⟨gb8, 1, none⟩) (Kd.R_far (p := ⟨gb8, 0, none⟩) (Kd.R_types HO2.out BK8.out (by decide)) (fun _ hk => hk.2) (.int .i64 q1)) (fun _ hk => hk.2) (.slice Ap1 s2.length cp1)) (fun _ hk => hk.2) (.slice Ap2 q3.length cp2)) (fun _ hk => trivial)), (below_set (below_set (below_set HB.out GE8.out) GE8.out) GE8.out)⟩
  ·replace b4_ := Bool.eq_false_iff.mpr b4_
   subst b4_
   rw [Sh.nf] at H
   simp only [Option.some.injEq, Prod.mk.injEq] at H
   obtain ⟨rfl, rfl, rfl, rfl, rfl⟩ := H
   go_enter Try.func43, Try.ntmps43
   go_wp2_with (first | ((with_reducible refine Sh.d 4 ?_); refine Sh.bz w (N := 4) (cs := #[.int .i64 a0_0, .slice A0_1 l0_1.length c0_1, .slice A0_2 l0_2.length c0_2]) (t := 27) (h := ?_); clear HB; intro gb4 w4 BK4 GE4 HB) | ((with_reducible refine Sh.d 8 ?_); refine Sh.bx (N := 8) (cs := #[.int .i64 0, .slice none 0 0, .slice none 0 0]) (t := 27) (h := ?_); intro gb8 hg w5 hbox hb; have BK8 := am_ hbox; have GE8 := Sh.ag w hg; replace HB := Sh.hb hb; replace BK4 := Sh.ab BK4 hb; clear hb hbox hg; obtain ⟨hcz1_0, hcz1_1, hcz1_2, hfz1_0, hfz1_1, hfz1_2⟩ := Sh.b3 BK4.out) | (go_at_call 29; (with_reducible refine (impl_areLists.calls k a0_0 _ _ l0_1 _ _ l0_2 _ _ l1 _ _ l2 true _ (Sh.cB HR0_1.out) HC0_1.out (Sh.cB HR0_2.out) HC0_2.out (Sh.cB HR1.out) HC1.out (Sh.cB HR2.out) HC2.out A1_.out).mono ?_); rintro e w6 ⟨rfl, hb⟩; replace BK4 := Sh.ab BK4 hb; replace BK8 := Sh.ab BK8 hb; replace HB := Sh.hb hb; clear hb; clear hcz1_0 hcz1_1 hcz1_2 hfz1_0 hfz1_1 hfz1_2; obtain ⟨hcz1_0, hcz1_1, hcz1_2, hfz1_0, hfz1_1, hfz1_2⟩ := Sh.b3 BK4.out) | (go_at_call 32; (with_reducible refine (impl_copyCircuit.calls a0_0 _ _ l0_1 _ _ l0_2 q1 q2 q3 _ (Sh.cB HR0_1.out) HC0_1.out (Sh.cB HR0_2.out) HC0_2.out A4_.out).mono ?_); rintro e w10 ⟨v1, v2, rfl, ho1, ho2, hb⟩; have HO1 := am_ (Kd.R_lower ho1 (below_size Sh.bw)); have HO2 := am_ (Kd.R_lower ho2 (below_size Sh.bw)); replace BK8 := Sh.ab BK8 hb; replace HB := Sh.hb hb; clear hb ho1 ho2 BK4; obtain ⟨Ao1, co1, eo1⟩ := Kd.R_slice HO1.out; subst eo1; obtain ⟨Ao2, co2, eo2⟩ := Kd.R_slice HO2.out; subst eo2; clear hcz1_0 hcz1_1 hcz1_2 hfz1_0 hfz1_1 hfz1_2) | ((with_reducible refine Sh.d 11 ?_); refine Sh.bx (N := 11) (cs := #[.int .i64 0, .slice none 0 0, .slice none 0 0]) (t := 27) (h := ?_); intro gs_ hg w11 hbox hb; have BKs := am_ hbox; have GEs := Sh.ag w hg; replace HB := Sh.hb hb; have NB8_s := am_ (Sh.nl hg BK8.out); have NBs_8 := am_ (Sh.ng hg BK8.out); replace BK8 := Sh.ab BK8 hb; have n1_ := am_ (Kd.R_below (Sh.rl HO1.out) hb); have n2_ := am_ (Kd.R_below (Sh.rl HO2.out) hb); clear HO1 HO2; have HO1 := n1_; have HO2 := n2_; clear n1_ n2_ hb hbox hg; obtain ⟨hcz1_0, hcz1_1, hcz1_2, hfz1_0, hfz1_1, hfz1_2⟩ := Sh.b3 BKs.out) | (go_at_call 47; have hb3 := blk_put (cs := #[.int .i64 q1, .slice Ao1 q2.length co1, .slice none 0 0]) (blk_put (cs := #[.int .i64 q1, .slice none 0 0, .slice none 0 0]) (blk_put (cs := #[.int .i64 0, .slice none 0 0, .slice none 0 0]) BKs.out 0 (.int .i64 q1) rfl) 1 (.slice Ao1 q2.length co1) rfl) 2 (.slice Ao2 q3.length co2) rfl; have ho1 : Kd.R k66 66 (((w11.setCell ⟨gs_, 0, none⟩ (.int .i64 q1)).setCell ⟨gs_, 1, none⟩ (.slice Ao1 q2.length co1)).setCell ⟨gs_, 2, none⟩ (.slice Ao2 q3.length co2)) w.heap.size (fun _ => True) (.slice Ao1 q2.length co1) q2 := Kd.R_mono (Kd.R_far (p := ⟨gs_, 2, none⟩) (Kd.R_far (p := ⟨gs_, 1, none⟩) (Kd.R_far (p := ⟨gs_, 0, none⟩) (Kd.R_types HO1.out BKs.out (by decide)) (fun _ hk => hk.2) (.int .i64 q1)) (fun _ hk => hk.2) (.slice Ao1 q2.length co1)) (fun _ hk => hk.2) (.slice Ao2 q3.length co2)) (fun _ _ => trivial); have ho2 : Kd.R (Kd.int .i64) 3 (((w11.setCell ⟨gs_, 0, none⟩ (.int .i64 q1)).setCell ⟨gs_, 1, none⟩ (.slice Ao1 q2.length co1)).setCell ⟨gs_, 2, none⟩ (.slice Ao2 q3.length co2)) w.heap.size (fun _ => True) (.slice Ao2 q3.length co2) q3 := Kd.R_mono (Kd.R_far (p := ⟨gs_, 2, none⟩) (Kd.R_far (p := ⟨gs_, 1, none⟩) (Kd.R_far (p := ⟨gs_, 0, none⟩) (Kd.R_types HO2.out BKs.out (by decide)) (fun _ hk => hk.2) (.int .i64 q1)) (fun _ hk => hk.2) (.slice Ao1 q2.length co1)) (fun _ hk => hk.2) (.slice Ao2 q3.length co2)) (fun _ _ => trivial); have hB3 := below_set (j := 2) (v := .slice Ao2 q3.length co2) (below_set (j := 1) (v := .slice Ao1 q2.length co1) (below_set (j := 0) (v := .int .i64 q1) HB.out GEs.out) GEs.out) GEs.out; have hr8 := blk_far (blk_far (blk_far BK8.out NB8_s.out (p := ⟨gs_, 0, none⟩) (.int .i64 q1)) NB8_s.out (p := ⟨gs_, 1, none⟩) (.slice Ao1 q2.length co1)) NB8_s.out (p := ⟨gs_, 2, none⟩) (.slice Ao2 q3.length co2); have hI : IsG 27 (fun _ => True) w _ gs_ q1 q2 q3 := ⟨Ao1, co1, Ao2, co2, hb3, GEs.out, ho1, ho2⟩; (with_reducible refine (impl_EqGates_1.calls k gs_ (fun _ => True) q1 q2 q3 _ _ l1 _ _ l2 s1 s2 w _ hI hB3 HR1.out HR2.out A5_.out bp1 bp2 hb1 hb2).mono ?_); rintro e w12 ⟨rfl, hi, hb, hk⟩; have n1_ := am_ (KeepG.blk hk hr8 NB8_s.out (by decide)); obtain ⟨Ap1, cp1, Ap2, cp2, bs, ge_, og, oo⟩ := hi; clear HO1 HO2 HB BKs BK8 hb3 ho1 ho2 hB3 hr8 hI hk; have BK8 := n1_; have BKs := am_ bs; have HO1 := am_ og; have HO2 := am_ oo; have HB := am_ hb; clear n1_ bs ge_ og oo hb; clear hcz1_0 hcz1_1 hcz1_2 hfz1_0 hfz1_1 hfz1_2; obtain ⟨hcz1_0, hcz1_1, hcz1_2, hfz1_0, hfz1_1, hfz1_2⟩ := Sh.b3 BKs.out) | (go_at_call 11; (refine (impl_GoodCircuit.calls k q1 _ _ s2 _ _ q3 false _ (Kd.R_reads' HO1.out).2.2 (Kd.R_reads' HO1.out).2.1 (Kd.R_reads' HO2.out).2.2 (Kd.R_reads' HO2.out).2.1 A6_.out).mono ?_); rintro e w13 ⟨rfl, hb⟩; replace HO1 := am_ (Kd.R_below HO1.out hb); replace HO2 := am_ (Kd.R_below HO2.out hb); replace BK8 := Sh.ab BK8 hb; replace BKs := Sh.ab BKs hb; replace HB := Sh.hb hb; clear hb; clear hcz1_0 hcz1_1 hcz1_2 hfz1_0 hfz1_1 hfz1_2; obtain ⟨hcz1_0, hcz1_1, hcz1_2, hfz1_0, hfz1_1, hfz1_2⟩ := Sh.b3 BK8.out))
   have hw_ := BK8.out
   refine bodyPost_ret (results_list (rs := [.cell 8 27, .tmp 9, .tmp 10]) rfl (by simp) (.cell gb8 27 #[.int .i64 0, .slice none 0 0, .slice none 0 0] (0, 0) _ rfl (by refine Sh.pl ?_; refine blk_put (cs := #[.int .i64 0, .slice none 0 0, .slice none 0 0]) ?_ 2 _ rfl; refine Sh.pl ?_; refine blk_put (cs := #[.int .i64 0, .slice none 0 0, .slice none 0 0]) ?_ 1 _ rfl; refine Sh.pl ?_; refine blk_put (cs := #[.int .i64 0, .slice none 0 0, .slice none 0 0]) ?_ 0 _ rfl; refine Sh.pl ?_; exact BK8.out) Try.underlying27 rfl (by kernel_rfl) (.tmp (.tmp .nil)))) rfl ?_
   exact ⟨_, _, rfl, Kd.R_nil _ _ _ _ _, Kd.R_nil _ _ _ _ _, (below_set (below_set (below_set HB.out GE8.out) GE8.out) GE8.out)⟩
 ·replace b1_ := Bool.eq_false_iff.mpr b1_
  subst b1_
  rw [Sh.nf] at H
  simp only [Option.some.injEq, Prod.mk.injEq] at H
  obtain ⟨rfl, rfl, rfl, rfl, rfl⟩ := H
  go_enter Try.func43, Try.ntmps43
  go_wp2_with (first | ((with_reducible refine Sh.d 4 ?_); refine Sh.bz w (N := 4) (cs := #[.int .i64 a0_0, .slice A0_1 l0_1.length c0_1, .slice A0_2 l0_2.length c0_2]) (t := 27) (h := ?_); clear HB; intro gb4 w4 BK4 GE4 HB) | ((with_reducible refine Sh.d 8 ?_); refine Sh.bx (N := 8) (cs := #[.int .i64 0, .slice none 0 0, .slice none 0 0]) (t := 27) (h := ?_); intro gb8 hg w5 hbox hb; have BK8 := am_ hbox; have GE8 := Sh.ag w hg; replace HB := Sh.hb hb; replace BK4 := Sh.ab BK4 hb; clear hb hbox hg; obtain ⟨hcz1_0, hcz1_1, hcz1_2, hfz1_0, hfz1_1, hfz1_2⟩ := Sh.b3 BK4.out) | (go_at_call 29; (with_reducible refine (impl_areLists.calls k a0_0 _ _ l0_1 _ _ l0_2 _ _ l1 _ _ l2 false _ (Sh.cB HR0_1.out) HC0_1.out (Sh.cB HR0_2.out) HC0_2.out (Sh.cB HR1.out) HC1.out (Sh.cB HR2.out) HC2.out A1_.out).mono ?_); rintro e w6 ⟨rfl, hb⟩; replace BK4 := Sh.ab BK4 hb; replace BK8 := Sh.ab BK8 hb; replace HB := Sh.hb hb; clear hb; clear hcz1_0 hcz1_1 hcz1_2 hfz1_0 hfz1_1 hfz1_2; obtain ⟨hcz1_0, hcz1_1, hcz1_2, hfz1_0, hfz1_1, hfz1_2⟩ := Sh.b3 BK8.out))
  have hw_ := BK8.out
  refine bodyPost_ret (results_list (rs := [.cell 8 27, .tmp 9, .tmp 10]) rfl (by simp) (.cell gb8 27 #[.int .i64 0, .slice none 0 0, .slice none 0 0] (0, 0) _ rfl (by refine Sh.pl ?_; refine blk_put (cs := #[.int .i64 0, .slice none 0 0, .slice none 0 0]) ?_ 2 _ rfl; refine Sh.pl ?_; refine blk_put (cs := #[.int .i64 0, .slice none 0 0, .slice none 0 0]) ?_ 1 _ rfl; refine Sh.pl ?_; refine blk_put (cs := #[.int .i64 0, .slice none 0 0, .slice none 0 0]) ?_ 0 _ rfl; refine Sh.pl ?_; exact BK8.out) Try.underlying27 rfl (by kernel_rfl) (.tmp (.tmp .nil)))) rfl ?_
  exact ⟨_, _, rfl, Kd.R_nil _ _ _ _ _, Kd.R_nil _ _ _ _ _, (below_set (below_set (below_set HB.out GE8.out) GE8.out) GE8.out)⟩
def impl_EqGates.f (k : Nat) (a0_0 : Int) (l0_1 : List S66) (l0_2 : List Int) (l1 l2 : List Int) : Option (Int × List S66 × List Int × Int × Bool) := impl_compareGates_by_EqGates.f k a0_0 l0_1 l0_2 l1 l2
theorem impl_EqGates.mono : ∀ a0 a1 a2 a3 a4 k, LeO (impl_EqGates.f k a0 a1 a2 a3 a4) (impl_EqGates.f (k + 1) a0 a1 a2 a3 a4) := impl_compareGates_by_EqGates.mono
theorem impl_EqGates.calls (k : Nat) (a0_0 : Int) (A0_1 : Option Addr) (c0_1 : Nat) (l0_1 : List (S66)) (A0_2 : Option Addr) (c0_2 : Nat) (l0_2 : List Int) (A1 : Option Addr) (c1 : Nat) (l1 : List Int) (A2 : Option Addr) (c2 : Nat) (l2 : List Int) (r1 : Int) (r2 : List (S66)) (r3 : List Int) (r4 : Int) (r5 : Bool) (w : World) (hr0_1 : Kd.C k66 w A0_1 l0_1.length l0_1) (hc0_1 : l0_1.length ≤ c0_1) (hr0_2 : Kd.C (Kd.int .i64) w A0_2 l0_2.length l0_2) (hc0_2 : l0_2.length ≤ c0_2) (hr1 : Kd.C (Kd.int .i64) w A1 l1.length l1) (hc1 : l1.length ≤ c1) (hr2 : Kd.C (Kd.int .i64) w A2 l2.length l2) (hc2 : l2.length ≤ c2) (h : impl_EqGates.f k a0_0 l0_1 l0_2 l1 l2 = some (r1, r2, r3, r4, r5)) :
  Calls Try.prog 21 #[.agg #[.int .i64 a0_0, .slice A0_1 l0_1.length c0_1, .slice A0_2 l0_2.length c0_2], .slice A1 l1.length c1, .slice A2 l2.length c2] w fun e w' => ∃ v1_ v2_ : Value, e = .returned (.tuple #[.agg #[.int .i64 r1, v1_, v2_], .int .i64 r4, .bool r5]) ∧ Kd.R k66 66 w' w.heap.size (fun _ => True) v1_ r2 ∧ Kd.R (Kd.int .i64) 3 w' w.heap.size (fun _ => True) v2_ r3 ∧ Below w.heap.size w w' := by
 have hu27 := Try.underlying27
 have HR0_1 := am_ hr0_1
 have HC0_1 := am_ hc0_1
 have HR0_2 := am_ hr0_2
 have HC0_2 := am_ hc0_2
 have HR1 := am_ hr1
 have HC1 := am_ hc1
 have HR2 := am_ hr2
 have HC2 := am_ hc2
 clear hr0_1 hc0_1 hr0_2 hc0_2 hr1 hc1 hr2 hc2
 have HB := am_ (Below.refl w.heap.size w)
 have H : Aside0 (impl_compareGates_by_EqGates.f k a0_0 l0_1 l0_2 l1 l2 = some (r1, r2, r3, r4, r5)) := am_ h
 clear h
 go_enter Try.func21, Try.ntmps21
 go_wp2_with (first | ((with_reducible refine Sh.d 3 ?_); refine Sh.bz w (N := 3) (cs := #[.int .i64 a0_0, .slice A0_1 l0_1.length c0_1, .slice A0_2 l0_2.length c0_2]) (t := 27) (h := ?_); clear HB; intro gb3 w4 BK3 GE3 HB) | ((with_reducible refine Sh.d 4 ?_); refine Sh.bx (N := 4) (cs := #[.slice A1 l1.length c1]) (t := 25) (h := ?_); intro gb4 hg w5 hbox hb; have BK4 := am_ hbox; have GE4 := Sh.ag w hg; replace HB := Sh.hb hb; replace BK3 := Sh.ab BK3 hb; clear hb hbox hg) | ((with_reducible refine Sh.d 5 ?_); refine Sh.bx (N := 5) (cs := #[.slice A2 l2.length c2]) (t := 25) (h := ?_); intro gb5 hg w6 hbox hb; have BK5 := am_ hbox; have GE5 := Sh.ag w hg; replace HB := Sh.hb hb; replace BK3 := Sh.ab BK3 hb; replace BK4 := Sh.ab BK4 hb; clear hb hbox hg) | ((with_reducible refine Sh.d 6 ?_); refine Sh.bx (N := 6) (cs := #[.int .i64 0, .slice none 0 0, .slice none 0 0]) (t := 27) (h := ?_); intro gb6 hg w7 hbox hb; have BK6 := am_ hbox; have GE6 := Sh.ag w hg; replace HB := Sh.hb hb; replace BK3 := Sh.ab BK3 hb; replace BK4 := Sh.ab BK4 hb; replace BK5 := Sh.ab BK5 hb; clear hb hbox hg; obtain ⟨hcz1_0, hcz1_1, hcz1_2, hfz1_0, hfz1_1, hfz1_2⟩ := Sh.b3 BK3.out; have hdz4 := Sh.bc BK4.out 0; have hdz5 := Sh.bc BK5.out 0) | (go_at_call 43; (with_reducible refine (impl_compareGates_by_EqGates.calls k a0_0 _ _ l0_1 _ _ l0_2 _ _ l1 _ _ l2 r1 r2 r3 r4 r5 _ gb4 gb5 BK4.out BK5.out (Sh.cB HR0_1.out) HC0_1.out (Sh.cB HR0_2.out) HC0_2.out (Sh.cB HR1.out) HC1.out (Sh.cB HR2.out) HC2.out H.out).mono ?_); rintro e w8 ⟨v1, v2, rfl, ho1, ho2, hb⟩; have HO1 := am_ (Kd.R_lower ho1 (below_size Sh.bw)); have HO2 := am_ (Kd.R_lower ho2 (below_size Sh.bw)); replace BK6 := Sh.ab BK6 hb; replace HB := Sh.hb hb; clear hb ho1 ho2 BK3 BK4 BK5 hcz1_0 hcz1_1 hcz1_2 hfz1_0 hfz1_1 hfz1_2 hdz4 hdz5; obtain ⟨Ap1, cp1, ep1⟩ := Kd.R_slice HO1.out; subst ep1; obtain ⟨Ap2, cp2, ep2⟩ := Kd.R_slice HO2.out; subst ep2; obtain ⟨hcz1_0, hcz1_1, hcz1_2, hfz1_0, hfz1_1, hfz1_2⟩ := Sh.b3 BK6.out))
 refine bodyPost_ret (results_list (rs := [.cell 6 27, .tmp 7, .tmp 8]) rfl (by simp) (.cell gb6 27 #[.int .i64 r1, .slice Ap1 r2.length cp1, .slice Ap2 r3.length cp2] (0, 0) _ rfl (by refine Sh.pl ?_; refine blk_put (cs := #[.int .i64 r1, .slice Ap1 r2.length cp1, .slice none 0 0]) ?_ 2 _ rfl; refine Sh.pl ?_; refine blk_put (cs := #[.int .i64 r1, .slice none 0 0, .slice none 0 0]) ?_ 1 _ rfl; refine Sh.pl ?_; refine blk_put (cs := #[.int .i64 0, .slice none 0 0, .slice none 0 0]) ?_ 0 _ rfl; refine Sh.pl ?_; exact BK6.out) Try.underlying27 rfl (by kernel_rfl) (.tmp (.tmp .nil)))) rfl ?_
 exact ⟨_, _, rfl, (Kd.R_mono (Kd.R_far (p := ⟨gb6, 2, none⟩) (Kd.R_far (p := ⟨gb6, 1, none⟩) (Kd.R_far (p := ⟨gb6, 0, none⟩) (Kd.R_types HO1.out BK6.out (by decide)) (fun _ hk => hk.2) (.int .i64 r1)) (fun _ hk => hk.2) (.slice Ap1 r2.length cp1)) (fun _ hk => hk.2) (.slice Ap2 r3.length cp2)) (fun _ hk => trivial)), (Kd.R_mono (Kd.R_far (p := ⟨gb6, 2, none⟩) (Kd.R_far (p := ⟨gb6, 1, none⟩) (Kd.R_far (p := ⟨gb6, 0, none⟩) (Kd.R_types HO2.out BK6.out (by decide)) (fun _ hk => hk.2) (.int .i64 r1)) (fun _ hk => hk.2) (.slice Ap1 r2.length cp1)) (fun _ hk => hk.2) (.slice Ap2 r3.length cp2)) (fun _ hk => trivial)), (below_set (below_set (below_set HB.out GE6.out) GE6.out) GE6.out)⟩
def spec_eq.l0 : Nat → Int → List Int → List Int → Int → Int → Int → List S66 → Option (Int × List S66)
 | 0, _, _, _, _, _, _, _ => none
 | k + 1, ins, a, b, n, i, carry, gs => if i < n then (if 0 ≤ i then (if i < (a.length : Int) then (if i < (b.length : Int) then ((spec_gate.f ins gs 5 (rd a i) (rd b i)).bind fun p0 => ((spec_gate.f ins p0.2 2 p0.1 0).bind fun p1 => ((spec_gate.f ins p1.2 3 p1.1 carry).bind fun p2 => (spec_eq.l0 k ins a b n (wrap64 (i + 1)) p2.1 p2.2)))) else (none)) else (none)) else (none)) else (some (carry, gs))
def spec_eq.f (k : Nat) (ins : Int) (gs : List S66) (a b : List Int) : Option (Int × List S66) := (spec_gate.f ins gs 1 1 0).bind fun p => (spec_eq.l0 k ins a b (a.length : Int) 0 p.1 p.2)
theorem spec_eq.mono_l : ∀ k, (∀ y0 y1 y2 y3 y4 y5 y6, LeO (spec_eq.l0 k y0 y1 y2 y3 y4 y5 y6) (spec_eq.l0 (k + 1) y0 y1 y2 y3 y4 y5 y6))
 | 0 => fun _ _ _ _ _ _ _ r h => by simp [spec_eq.l0] at h
 | k + 1 => by
  have ih0 := spec_eq.mono_l k
  intro y0 y1 y2 y3 y4 y5 y6
  unfold spec_eq.l0
  repeat' with_reducible first | apply ih0 | exact LeO.refl _ | exact LeO.none _ | apply LeO.ite | refine LeO.bind ?_ fun _ => ?_
theorem spec_eq.mono : ∀ a0 a1 a2 a3 k, LeO (spec_eq.f k a0 a1 a2 a3) (spec_eq.f (k + 1) a0 a1 a2 a3) := by
 intro a0 a1 a2 a3 k
 have ih0 := spec_eq.mono_l k
 unfold spec_eq.f
 repeat' with_reducible first | apply ih0 | exact LeO.refl _ | exact LeO.none _ | apply LeO.ite | refine LeO.bind ?_ fun _ => ?_
def spec_eq.T : Bool × List (List Nat × List Nat) := (true, [([], []), ([], []), ([], []), ([1, 2], [1, 2]), ([3], [3]), ([], []), ([], []), ([5, 6], [5, 6]), ([7], [7]), ([0, 4, 8], [0, 4, 8]), ([9, 9, 0, 1, 2, 3, 4, 5, 6, 7, 8, 9], [9])])
def spec_eq.B : List Nat := [0, 0, 0, 6, 14, 0, 0, 96, 224, 511, 1023]
theorem spec_eq.tab5 : rtab .any (opsOf Try.f49 5) = spec_eq.T := by kernel_rfl
theorem spec_eq.bits : waitsOk spec_eq.T.2 spec_eq.B = true := by kernel_rfl
theorem spec_eq.calls (k : Nat) (g : Nat) (ok : Nat → Prop) (ins : Int) (gs : List S66) (os : List Int) (A1 : Option Addr) (c1 : Nat) (l1 : List Int) (A2 : Option Addr) (c2 : Nat) (l2 : List Int) (r1 : Int) (r2 : List S66) (w0 w : World) (hI : IsG 64 ok w0 w g ins gs os) (hB : Below w0.heap.size w0 w) (hr1 : Kd.C (Kd.int .i64) w0 A1 l1.length l1) (hr2 : Kd.C (Kd.int .i64) w0 A2 l2.length l2) (h : spec_eq.f k ins gs l1 l2 = some (r1, r2)) :
  Calls Try.prog 49 #[.pointer (some ⟨g, 0, none⟩), .slice A1 l1.length c1, .slice A2 l2.length c2] w fun e w' => e = .returned (.int .i64 r1) ∧ IsG 64 ok w0 w' g ins r2 os ∧ Below w0.heap.size w0 w' ∧ KeepG w w' g := by
 have HI := am_ hI
 have HB := am_ hB
 have HL := am_ hB.size
 have HK := am_ (KeepG.refl w g)
 have HR1 := am_ hr1
 have HR2 := am_ hr2
 clear hI hB hr1 hr2
 unfold spec_eq.f at h
 obtain ⟨⟨x0, g0⟩, F0, h⟩ := Sh.ba h
 have H' := am_ h
 clear h
 go_enter Try.func49, Try.ntmps49
 go_wp2_with (first | (go_at_call 57; (with_reducible refine (spec_gate.calls g ok ins gs os 1 1 0 x0 g0 w0 _ ?side1 ?side2 F0.out).mono ?_); (case side1 => repeat (first | (with_reducible first | exact HI.out | apply IsG.alloc | apply IsG.drewN | apply IsG.drew) | exact HI.out)); (case side2 => repeat (first | (with_reducible first | exact HB.out | apply below_alloc | apply pw_below_drewN | apply below_drew1) | exact HB.out | with_reducible refine Below.alloc ?_ (by first | exact HL.out | exact Nat.le_trans HL.out HK.out.1) _)); rintro e w1 ⟨rfl, hi, hb, hk⟩; have n2_ := am_ ((by first | exact KeepG.trans HK.out hk | exact KeepG.trans (KeepG.alloc HK.out _) hk) : KeepG w w1 g); clear HI HB HK; have HI := am_ hi; have HB := am_ hb; have HK := n2_; clear hi hb hk n2_))
 go_loopg [7, 15] k (fun kq v7 v15 w' => ∃ (xi xc : Int) (xg : List S66), v7 = .int .i64 xc ∧ v15 = .int .i64 xi ∧ Aside0 (spec_eq.l0 kq ins l1 l2 (l1.length : Int) xi xc xg = some (r1, r2)) ∧ Aside0 (kq ≤ k) ∧ Aside0 (IsG 64 ok w0 w' g ins xg os) ∧ Aside0 (KeepG w w' g) ∧ Aside0 (Below w0.heap.size w0 w'))
 case atStart => exact ⟨0, x0, g0, rfl, rfl, H', ⟨Nat.le_refl _⟩, ⟨by repeat (first | (with_reducible first | exact HI.out | apply IsG.alloc | apply IsG.drewN | apply IsG.drew) | exact HI.out)⟩, ⟨by first | exact HK.out | exact KeepG.alloc HK.out _⟩, ⟨by repeat (first | (with_reducible first | exact HB.out | apply below_alloc | apply pw_below_drewN | apply below_drew1) | exact HB.out | with_reducible refine Below.alloc ?_ (by first | exact HL.out | exact Nat.le_trans HL.out HK.out.1) _)⟩⟩
 case round =>
  clear H'
  obtain ⟨xi, xc, xg, rfl, rfl, HA, HK1, HI, HK, HB⟩ := hrel
  cases gk with
  | zero => exact absurd HA.out (by simp [spec_eq.l0])
  | succ k1 =>
   have H := HA.out
   clear HA
   simp only [spec_eq.l0] at H
   by_cases c4 : xi < (l1.length : Int)
   ·rw [if_pos c4] at H
    have c4b0 := decide_eq_true c4
    by_cases c5 : 0 ≤ xi
    ·rw [if_pos c5, if_pos c4] at H
     by_cases c6 : xi < (l2.length : Int)
     ·rw [if_pos c6] at H
      obtain ⟨⟨xx, gx⟩, Fx, H⟩ := Sh.ba H
      obtain ⟨⟨xn, gn⟩, Fn, H⟩ := Sh.ba H
      obtain ⟨⟨xu, gu⟩, Fu, H⟩ := Sh.ba H
      have H' := am_ H
      clear H
      obtain ⟨ad1, e1, hx1⟩ := Kd.at_int HR1.out xi c5 c4
      subst e1
      obtain ⟨ad2, e2, hx2⟩ := Kd.at_int HR2.out xi c5 c6
      subst e2
      go_wp2
      refine start_ (n := 11) (S := fun w' => w'.cell? (ad1.add xi.toNat) = some (.int .i64 (rd l1 xi)) ∧ w'.cell? (ad2.add xi.toNat) = some (.int .i64 (rd l2 xi))) (ds := []) (Sh.nm 11 0) (by kernel_rfl) rfl rfl ⟨(HB.out.cell (World.block_lt_of_cell? w0 _ hx1)).trans hx1, (HB.out.cell (World.block_lt_of_cell? w0 _ hx2)).trans hx2⟩ (fun hHeld => ?_)
      refine with_tabW spec_eq.tab5 spec_eq.bits (fun HT_ HW_ => ?_)
      refine Sh.qA 0 ?_; refine Sh.qA 1 ?_; refine Sh.qA 2 ?_; refine Sh.qA 3 ?_; refine Sh.qT 4 hHeld ?_; refine Sh.qA 5 ?_; refine Sh.qA 6 ?_; refine Sh.qA 7 ?_; refine Sh.qT 8 hHeld ?_
      refine Sh.oC 9 Try.func57 #[.pointer (some ⟨g, 0, none⟩), .int .i64 5, .int .i64 (rd l1 xi), .int .i64 (rd l2 xi)] fun K hK => ?_
      (with_reducible refine (spec_gate.calls g ok ins xg os 5 (rd l1 xi) (rd l2 xi) xx gx w0 _ ?side1 ?side2 Fx.out).mono ?_)
      (case side1 => repeat (first | (with_reducible first | exact HI.out | apply IsG.alloc | apply IsG.drewN | apply IsG.drew) | exact HI.out))
      (case side2 => repeat (first | (with_reducible first | exact HB.out | apply below_alloc | apply pw_below_drewN | apply below_drew1) | exact HB.out | with_reducible refine Below.alloc ?_ (by first | exact HL.out | exact Nat.le_trans HL.out HK.out.1) _))
      rintro e wx ⟨rfl, hi, hb, hk⟩
      refine ⟨_, rfl, ?_⟩
      have n2_ := am_ ((by first | exact KeepG.trans HK.out hk | exact KeepG.trans (KeepG.alloc HK.out _) hk) : KeepG w wx g)
      clear HI HB HK
      have HI := am_ hi
      have HB := am_ hb
      have HK := n2_
      clear hi hb hk n2_
      refine Sh.kN hK ⟨(HB.out.cell (World.block_lt_of_cell? w0 _ hx1)).trans hx1, (HB.out.cell (World.block_lt_of_cell? w0 _ hx2)).trans hx2⟩ fun hHeld => ?_
      clear hK K
      refine Sh.qA 10 ?_
      refine done_ (done_of HT_.out (by kernel_rfl)) ?_
      go_wp2_with (first | (go_at_call 57; (with_reducible refine (spec_gate.calls g ok ins gx os 2 xx 0 xn gn w0 _ ?side1 ?side2 Fn.out).mono ?_); (case side1 => repeat (first | (with_reducible first | exact HI.out | apply IsG.alloc | apply IsG.drewN | apply IsG.drew) | exact HI.out)); (case side2 => repeat (first | (with_reducible first | exact HB.out | apply below_alloc | apply pw_below_drewN | apply below_drew1) | exact HB.out | with_reducible refine Below.alloc ?_ (by first | exact HL.out | exact Nat.le_trans HL.out HK.out.1) _)); rintro e wn ⟨rfl, hi, hb, hk⟩; have n2_ := am_ ((by first | exact KeepG.trans HK.out hk | exact KeepG.trans (KeepG.alloc HK.out _) hk) : KeepG w wn g); clear HI HB HK; have HI := am_ hi; have HB := am_ hb; have HK := n2_; clear hi hb hk n2_) | (go_at_call 57; (with_reducible refine (spec_gate.calls g ok ins gn os 3 xn xc xu gu w0 _ ?side1 ?side2 Fu.out).mono ?_); (case side1 => repeat (first | (with_reducible first | exact HI.out | apply IsG.alloc | apply IsG.drewN | apply IsG.drew) | exact HI.out)); (case side2 => repeat (first | (with_reducible first | exact HB.out | apply below_alloc | apply pw_below_drewN | apply below_drew1) | exact HB.out | with_reducible refine Below.alloc ?_ (by first | exact HL.out | exact Nat.le_trans HL.out HK.out.1) _)); rintro e wu ⟨rfl, hi, hb, hk⟩; have n2_ := am_ ((by first | exact KeepG.trans HK.out hk | exact KeepG.trans (KeepG.alloc HK.out _) hk) : KeepG w wu g); clear HI HB HK; have HI := am_ hi; have HB := am_ hb; have HK := n2_; clear hi hb hk n2_))
      go_roundg k1
      case measure => have := HK1.out; omega
      case rel => exact ⟨(wrap64 (xi + 1)), _, _, rfl, rfl, H', ⟨by have := HK1.out; omega⟩, ⟨HI.out⟩, ⟨HK.out⟩, ⟨HB.out⟩⟩
     ·rw [if_neg c6] at H
      exact absurd H (by simp)
    ·rw [if_neg c5] at H
     exact absurd H (by simp)
   ·rw [if_neg c4] at H
    have c4b0 := decide_eq_false c4
    simp only [Option.some.injEq, Prod.mk.injEq] at H
    obtain ⟨rfl, rfl⟩ := H
    go_wp2
    go_ret
    exact ⟨Sh.eR, HI.out, HB.out, HK.out⟩

def spec_EqGates.f (k : Nat) (a0_0 : Int) (l0_1 : List S66) (l0_2 : List Int) (l1 l2 : List Int) : Option (Int × List S66 × List Int × Int × Bool) :=
 (spec_l4Lists.f k a0_0 l0_1 l0_2 l1 l2).bind fun t1 => (if t1 = true then ((spec_l4Own.f a0_0 l0_1 l0_2).bind fun c => ((spec_eq.f k c.1 c.2.1 l1 l2).bind fun p => ((spec_GoodCircuit.f k c.1 p.2 c.2.2).bind fun t4 => (if t4 = true then (some (c.1, p.2, c.2.2, p.1, true)) else (some (0, [], [], 0, false)))))) else (some (0, [], [], 0, false)))
theorem spec_EqGates.mono : ∀ a0 a1 a2 a3 a4 k, LeO (spec_EqGates.f k a0 a1 a2 a3 a4) (spec_EqGates.f (k + 1) a0 a1 a2 a3 a4) := by
 intro a0 a1 a2 a3 a4 k
 unfold spec_EqGates.f
 repeat' with_reducible first | apply spec_l4Lists.mono | apply spec_eq.mono | apply spec_GoodCircuit.mono | exact LeO.refl _ | exact LeO.none _ | apply LeO.ite | refine LeO.bind ?_ fun _ => ?_
theorem spec_EqGates.calls (k : Nat) (a0_0 : Int) (A0_1 : Option Addr) (c0_1 : Nat) (l0_1 : List (S66)) (A0_2 : Option Addr) (c0_2 : Nat) (l0_2 : List Int) (A1 : Option Addr) (c1 : Nat) (l1 : List Int) (A2 : Option Addr) (c2 : Nat) (l2 : List Int) (r1 : Int) (r2 : List (S66)) (r3 : List Int) (r4 : Int) (r5 : Bool) (w : World) (hr0_1 : Kd.C k66 w A0_1 l0_1.length l0_1) (hc0_1 : l0_1.length ≤ c0_1) (hr0_2 : Kd.C (Kd.int .i64) w A0_2 l0_2.length l0_2) (hc0_2 : l0_2.length ≤ c0_2) (hr1 : Kd.C (Kd.int .i64) w A1 l1.length l1) (hc1 : l1.length ≤ c1) (hr2 : Kd.C (Kd.int .i64) w A2 l2.length l2) (hc2 : l2.length ≤ c2) (h : spec_EqGates.f k a0_0 l0_1 l0_2 l1 l2 = some (r1, r2, r3, r4, r5)) :
  Calls Try.prog 22 #[.agg #[.int .i64 a0_0, .slice A0_1 l0_1.length c0_1, .slice A0_2 l0_2.length c0_2], .slice A1 l1.length c1, .slice A2 l2.length c2] w fun e w' => ∃ v1_ v2_ : Value, e = .returned (.tuple #[.agg #[.int .i64 r1, v1_, v2_], .int .i64 r4, .bool r5]) ∧ Kd.R k66 66 w' w.heap.size (fun _ => True) v1_ r2 ∧ Kd.R (Kd.int .i64) 3 w' w.heap.size (fun _ => True) v2_ r3 ∧ Below w.heap.size w w' := by
 have hu27 := Try.underlying27
 have hu64 := Try.underlying64
 have HR0_1 := am_ hr0_1
 have HC0_1 := am_ hc0_1
 have HR0_2 := am_ hr0_2
 have HC0_2 := am_ hc0_2
 have HR1 := am_ hr1
 have HC1 := am_ hc1
 have HR2 := am_ hr2
 have HC2 := am_ hc2
 clear hr0_1 hc0_1 hr0_2 hc0_2 hr1 hc1 hr2 hc2
 have HB := am_ (Below.refl w.heap.size w)
 have H := h
 clear h
 unfold spec_EqGates.f at H
 obtain ⟨t1, A1_, H⟩ := Sh.ba H
 by_cases b1_ : t1 = true
 ·subst b1_
  rw [if_pos rfl] at H
  obtain ⟨⟨q1, q2, q3⟩, A4_, H⟩ := Sh.ba H
  obtain ⟨⟨s1, s2⟩, A5_, H⟩ := Sh.ba H
  obtain ⟨t4, A6_, H⟩ := Sh.ba H
  by_cases b4_ : t4 = true
  ·subst b4_
   rw [if_pos rfl] at H
   simp only [Option.some.injEq, Prod.mk.injEq] at H
   obtain ⟨rfl, rfl, rfl, rfl, rfl⟩ := H
   go_enter Try.func22, Try.ntmps22
   go_wp2_with (first | ((with_reducible refine Sh.d 3 ?_); refine Sh.bz w (N := 3) (cs := #[.int .i64 a0_0, .slice A0_1 l0_1.length c0_1, .slice A0_2 l0_2.length c0_2]) (t := 27) (h := ?_); clear HB; intro gb3 w4 BK3 GE3 HB) | ((with_reducible refine Sh.d 6 ?_); refine Sh.bx (N := 6) (cs := #[.int .i64 0, .slice none 0 0, .slice none 0 0]) (t := 27) (h := ?_); intro gb6 hg w5 hbox hb; have BK6 := am_ hbox; have GE6 := Sh.ag w hg; replace HB := Sh.hb hb; replace BK3 := Sh.ab BK3 hb; clear hb hbox hg; obtain ⟨hcz1_0, hcz1_1, hcz1_2, hfz1_0, hfz1_1, hfz1_2⟩ := Sh.b3 BK3.out) | (go_at_call 34; (with_reducible refine (spec_l4Lists.calls k a0_0 _ _ l0_1 _ _ l0_2 _ _ l1 _ _ l2 true _ (Sh.cB HR0_1.out) HC0_1.out (Sh.cB HR0_2.out) HC0_2.out (Sh.cB HR1.out) HC1.out (Sh.cB HR2.out) HC2.out A1_.out).mono ?_); rintro e w6 ⟨rfl, hb⟩; replace BK3 := Sh.ab BK3 hb; replace BK6 := Sh.ab BK6 hb; replace HB := Sh.hb hb; clear hb; clear hcz1_0 hcz1_1 hcz1_2 hfz1_0 hfz1_1 hfz1_2; obtain ⟨hcz1_0, hcz1_1, hcz1_2, hfz1_0, hfz1_1, hfz1_2⟩ := Sh.b3 BK3.out) | (go_at_call 36; (with_reducible refine (spec_l4Own.calls a0_0 _ _ l0_1 _ _ l0_2 q1 q2 q3 _ (Sh.cB HR0_1.out) HC0_1.out (Sh.cB HR0_2.out) HC0_2.out A4_.out).mono ?_); rintro e w10 ⟨v1, v2, rfl, ho1, ho2, hb⟩; have HO1 := am_ (Kd.R_lower ho1 (below_size Sh.bw)); have HO2 := am_ (Kd.R_lower ho2 (below_size Sh.bw)); replace BK6 := Sh.ab BK6 hb; replace HB := Sh.hb hb; clear hb ho1 ho2 BK3; obtain ⟨Ao1, co1, eo1⟩ := Kd.R_slice HO1.out; subst eo1; obtain ⟨Ao2, co2, eo2⟩ := Kd.R_slice HO2.out; subst eo2; clear hcz1_0 hcz1_1 hcz1_2 hfz1_0 hfz1_1 hfz1_2) | ((with_reducible refine Sh.d 20 ?_); refine Sh.bx (N := 20) (cs := #[.int .i64 q1, .slice Ao1 q2.length co1, .slice Ao2 q3.length co2]) (t := 64) (h := ?_); intro gs_ hg w11 hbox hb; have BKs := am_ hbox; have GEs := Sh.ag w hg; replace HB := Sh.hb hb; have NB8_s := am_ (Sh.nl hg BK6.out); have NBs_8 := am_ (Sh.ng hg BK6.out); replace BK6 := Sh.ab BK6 hb; have n1_ := am_ (Kd.R_below (Sh.rl HO1.out) hb); have n2_ := am_ (Kd.R_below (Sh.rl HO2.out) hb); clear HO1 HO2; have HO1 := n1_; have HO2 := n2_; clear n1_ n2_ hb hbox hg; obtain ⟨hcz1_0, hcz1_1, hcz1_2, hfz1_0, hfz1_1, hfz1_2⟩ := Sh.b3 BKs.out) | (go_at_call 49; have hb3 := BKs.out; have ho1 := HO1.out; have ho2 := HO2.out; have hB3 := HB.out; have hr8 := BK6.out; have hI : IsG 64 (fun _ => True) w _ gs_ q1 q2 q3 := ⟨Ao1, co1, Ao2, co2, hb3, GEs.out, ho1, ho2⟩; (with_reducible refine (spec_eq.calls k gs_ (fun _ => True) q1 q2 q3 _ _ l1 _ _ l2 s1 s2 w _ hI hB3 HR1.out HR2.out A5_.out).mono ?_); rintro e w12 ⟨rfl, hi, hb, hk⟩; have n1_ := am_ (KeepG.blk hk hr8 NB8_s.out (by decide)); obtain ⟨Ap1, cp1, Ap2, cp2, bs, ge_, og, oo⟩ := hi; clear HO1 HO2 HB BKs BK6 hb3 ho1 ho2 hB3 hr8 hI hk; have BK6 := n1_; have BKs := am_ bs; have HO1 := am_ og; have HO2 := am_ oo; have HB := am_ hb; clear n1_ bs ge_ og oo hb; clear hcz1_0 hcz1_1 hcz1_2 hfz1_0 hfz1_1 hfz1_2; obtain ⟨hcz1_0, hcz1_1, hcz1_2, hfz1_0, hfz1_1, hfz1_2⟩ := Sh.b3 BKs.out) | (go_at_call 12; (refine (spec_GoodCircuit.calls k q1 _ _ s2 _ _ q3 true _ (Kd.R_reads' HO1.out).2.2 (Kd.R_reads' HO1.out).2.1 (Kd.R_reads' HO2.out).2.2 (Kd.R_reads' HO2.out).2.1 A6_.out).mono ?_); rintro e w13 ⟨rfl, hb⟩; replace HO1 := am_ (Kd.R_below HO1.out hb); replace HO2 := am_ (Kd.R_below HO2.out hb); replace BK6 := Sh.ab BK6 hb; replace BKs := Sh.ab BKs hb; replace HB := Sh.hb hb; clear hb; clear hcz1_0 hcz1_1 hcz1_2 hfz1_0 hfz1_1 hfz1_2; obtain ⟨hcz1_0, hcz1_1, hcz1_2, hfz1_0, hfz1_1, hfz1_2⟩ := Sh.b3 BKs.out; obtain ⟨hdz1_0, hdz1_1, hdz1_2, hgz1_0, hgz1_1, hgz1_2⟩ := Sh.b3 BK6.out))
   refine bodyPost_ret (results_list (rs := [.cell 6 27, .tmp 7, .tmp 8]) rfl (by simp) (.cell gb6 27 #[.int .i64 q1, .slice Ap1 s2.length cp1, .slice Ap2 q3.length cp2] (0, 0) _ rfl (by refine Sh.pl ?_; refine blk_put (cs := #[.int .i64 q1, .slice Ap1 s2.length cp1, .slice none 0 0]) ?_ 2 _ rfl; refine Sh.pl ?_; refine blk_put (cs := #[.int .i64 q1, .slice none 0 0, .slice none 0 0]) ?_ 1 _ rfl; refine Sh.pl ?_; refine blk_put (cs := #[.int .i64 0, .slice none 0 0, .slice none 0 0]) ?_ 0 _ rfl; refine Sh.pl ?_; exact BK6.out) Try.underlying27 rfl (by kernel_rfl) (.tmp (.tmp .nil)))) rfl ?_
   exact ⟨_, _, rfl, (Kd.R_mono (Kd.R_far (p := ⟨gb6, 2, none⟩) (Kd.R_far (p := ⟨gb6, 1, none⟩) (Kd.R_far (p := ⟨gb6, 0, none⟩) (Kd.R_types HO1.out BK6.out (by decide)) (fun _ hk => hk.2) (.int .i64 q1)) (fun _ hk => hk.2) (.slice Ap1 s2.length cp1)) (fun _ hk => hk.2) (.slice Ap2 q3.length cp2)) (fun _ hk => trivial)), (Kd.R_mono (Kd.R_far (p := ⟨gb6, 2, none⟩) (Kd.R_far (p := ⟨gb6, 1, none⟩) (Kd.R_far (p := ⟨gb6, 0, none⟩) (Kd.R_types HO2.out BK6.out (by decide)) (fun _ hk => hk.2) (.int .i64 q1)) (fun _ hk => hk.2) (.slice Ap1 s2.length cp1)) (fun _ hk => hk.2) (.slice Ap2 q3.length cp2)) (fun _ hk => trivial)), (below_set (below_set (below_set HB.out GE6.out) GE6.out) GE6.out)⟩
  ·replace b4_ := Bool.eq_false_iff.mpr b4_
   subst b4_
   rw [Sh.nf] at H
   simp only [Option.some.injEq, Prod.mk.injEq] at H
   obtain ⟨rfl, rfl, rfl, rfl, rfl⟩ := H
   go_enter Try.func22, Try.ntmps22
   go_wp2_with (first | ((with_reducible refine Sh.d 3 ?_); refine Sh.bz w (N := 3) (cs := #[.int .i64 a0_0, .slice A0_1 l0_1.length c0_1, .slice A0_2 l0_2.length c0_2]) (t := 27) (h := ?_); clear HB; intro gb3 w4 BK3 GE3 HB) | ((with_reducible refine Sh.d 6 ?_); refine Sh.bx (N := 6) (cs := #[.int .i64 0, .slice none 0 0, .slice none 0 0]) (t := 27) (h := ?_); intro gb6 hg w5 hbox hb; have BK6 := am_ hbox; have GE6 := Sh.ag w hg; replace HB := Sh.hb hb; replace BK3 := Sh.ab BK3 hb; clear hb hbox hg; obtain ⟨hcz1_0, hcz1_1, hcz1_2, hfz1_0, hfz1_1, hfz1_2⟩ := Sh.b3 BK3.out) | (go_at_call 34; (with_reducible refine (spec_l4Lists.calls k a0_0 _ _ l0_1 _ _ l0_2 _ _ l1 _ _ l2 true _ (Sh.cB HR0_1.out) HC0_1.out (Sh.cB HR0_2.out) HC0_2.out (Sh.cB HR1.out) HC1.out (Sh.cB HR2.out) HC2.out A1_.out).mono ?_); rintro e w6 ⟨rfl, hb⟩; replace BK3 := Sh.ab BK3 hb; replace BK6 := Sh.ab BK6 hb; replace HB := Sh.hb hb; clear hb; clear hcz1_0 hcz1_1 hcz1_2 hfz1_0 hfz1_1 hfz1_2; obtain ⟨hcz1_0, hcz1_1, hcz1_2, hfz1_0, hfz1_1, hfz1_2⟩ := Sh.b3 BK3.out) | (go_at_call 36; (with_reducible refine (spec_l4Own.calls a0_0 _ _ l0_1 _ _ l0_2 q1 q2 q3 _ (Sh.cB HR0_1.out) HC0_1.out (Sh.cB HR0_2.out) HC0_2.out A4_.out).mono ?_); rintro e w10 ⟨v1, v2, rfl, ho1, ho2, hb⟩; have HO1 := am_ (Kd.R_lower ho1 (below_size Sh.bw)); have HO2 := am_ (Kd.R_lower ho2 (below_size Sh.bw)); replace BK6 := Sh.ab BK6 hb; replace HB := Sh.hb hb; clear hb ho1 ho2 BK3; obtain ⟨Ao1, co1, eo1⟩ := Kd.R_slice HO1.out; subst eo1; obtain ⟨Ao2, co2, eo2⟩ := Kd.R_slice HO2.out; subst eo2; clear hcz1_0 hcz1_1 hcz1_2 hfz1_0 hfz1_1 hfz1_2) | ((with_reducible refine Sh.d 20 ?_); refine Sh.bx (N := 20) (cs := #[.int .i64 q1, .slice Ao1 q2.length co1, .slice Ao2 q3.length co2]) (t := 64) (h := ?_); intro gs_ hg w11 hbox hb; have BKs := am_ hbox; have GEs := Sh.ag w hg; replace HB := Sh.hb hb; have NB8_s := am_ (Sh.nl hg BK6.out); have NBs_8 := am_ (Sh.ng hg BK6.out); replace BK6 := Sh.ab BK6 hb; have n1_ := am_ (Kd.R_below (Sh.rl HO1.out) hb); have n2_ := am_ (Kd.R_below (Sh.rl HO2.out) hb); clear HO1 HO2; have HO1 := n1_; have HO2 := n2_; clear n1_ n2_ hb hbox hg; obtain ⟨hcz1_0, hcz1_1, hcz1_2, hfz1_0, hfz1_1, hfz1_2⟩ := Sh.b3 BKs.out) | (go_at_call 49; have hb3 := BKs.out; have ho1 := HO1.out; have ho2 := HO2.out; have hB3 := HB.out; have hr8 := BK6.out; have hI : IsG 64 (fun _ => True) w _ gs_ q1 q2 q3 := ⟨Ao1, co1, Ao2, co2, hb3, GEs.out, ho1, ho2⟩; (with_reducible refine (spec_eq.calls k gs_ (fun _ => True) q1 q2 q3 _ _ l1 _ _ l2 s1 s2 w _ hI hB3 HR1.out HR2.out A5_.out).mono ?_); rintro e w12 ⟨rfl, hi, hb, hk⟩; have n1_ := am_ (KeepG.blk hk hr8 NB8_s.out (by decide)); obtain ⟨Ap1, cp1, Ap2, cp2, bs, ge_, og, oo⟩ := hi; clear HO1 HO2 HB BKs BK6 hb3 ho1 ho2 hB3 hr8 hI hk; have BK6 := n1_; have BKs := am_ bs; have HO1 := am_ og; have HO2 := am_ oo; have HB := am_ hb; clear n1_ bs ge_ og oo hb; clear hcz1_0 hcz1_1 hcz1_2 hfz1_0 hfz1_1 hfz1_2; obtain ⟨hcz1_0, hcz1_1, hcz1_2, hfz1_0, hfz1_1, hfz1_2⟩ := Sh.b3 BKs.out) | (go_at_call 12; (refine (spec_GoodCircuit.calls k q1 _ _ s2 _ _ q3 false _ (Kd.R_reads' HO1.out).2.2 (Kd.R_reads' HO1.out).2.1 (Kd.R_reads' HO2.out).2.2 (Kd.R_reads' HO2.out).2.1 A6_.out).mono ?_); rintro e w13 ⟨rfl, hb⟩; replace HO1 := am_ (Kd.R_below HO1.out hb); replace HO2 := am_ (Kd.R_below HO2.out hb); replace BK6 := Sh.ab BK6 hb; replace BKs := Sh.ab BKs hb; replace HB := Sh.hb hb; clear hb; clear hcz1_0 hcz1_1 hcz1_2 hfz1_0 hfz1_1 hfz1_2; obtain ⟨hcz1_0, hcz1_1, hcz1_2, hfz1_0, hfz1_1, hfz1_2⟩ := Sh.b3 BK6.out))
   have hw_ := BK6.out
   refine bodyPost_ret (results_list (rs := [.cell 6 27, .tmp 7, .tmp 8]) rfl (by simp) (.cell gb6 27 #[.int .i64 0, .slice none 0 0, .slice none 0 0] (0, 0) _ rfl (by refine Sh.pl ?_; refine blk_put (cs := #[.int .i64 0, .slice none 0 0, .slice none 0 0]) ?_ 2 _ rfl; refine Sh.pl ?_; refine blk_put (cs := #[.int .i64 0, .slice none 0 0, .slice none 0 0]) ?_ 1 _ rfl; refine Sh.pl ?_; refine blk_put (cs := #[.int .i64 0, .slice none 0 0, .slice none 0 0]) ?_ 0 _ rfl; refine Sh.pl ?_; exact BK6.out) Try.underlying27 rfl (by kernel_rfl) (.tmp (.tmp .nil)))) rfl ?_
   exact ⟨_, _, rfl, Kd.R_nil _ _ _ _ _, Kd.R_nil _ _ _ _ _, (below_set (below_set (below_set HB.out GE6.out) GE6.out) GE6.out)⟩
 ·replace b1_ := Bool.eq_false_iff.mpr b1_
  subst b1_
  rw [Sh.nf] at H
  simp only [Option.some.injEq, Prod.mk.injEq] at H
  obtain ⟨rfl, rfl, rfl, rfl, rfl⟩ := H
  go_enter Try.func22, Try.ntmps22
  go_wp2_with (first | ((with_reducible refine Sh.d 3 ?_); refine Sh.bz w (N := 3) (cs := #[.int .i64 a0_0, .slice A0_1 l0_1.length c0_1, .slice A0_2 l0_2.length c0_2]) (t := 27) (h := ?_); clear HB; intro gb3 w4 BK3 GE3 HB) | ((with_reducible refine Sh.d 6 ?_); refine Sh.bx (N := 6) (cs := #[.int .i64 0, .slice none 0 0, .slice none 0 0]) (t := 27) (h := ?_); intro gb6 hg w5 hbox hb; have BK6 := am_ hbox; have GE6 := Sh.ag w hg; replace HB := Sh.hb hb; replace BK3 := Sh.ab BK3 hb; clear hb hbox hg; obtain ⟨hcz1_0, hcz1_1, hcz1_2, hfz1_0, hfz1_1, hfz1_2⟩ := Sh.b3 BK3.out) | (go_at_call 34; (with_reducible refine (spec_l4Lists.calls k a0_0 _ _ l0_1 _ _ l0_2 _ _ l1 _ _ l2 false _ (Sh.cB HR0_1.out) HC0_1.out (Sh.cB HR0_2.out) HC0_2.out (Sh.cB HR1.out) HC1.out (Sh.cB HR2.out) HC2.out A1_.out).mono ?_); rintro e w6 ⟨rfl, hb⟩; replace BK3 := Sh.ab BK3 hb; replace BK6 := Sh.ab BK6 hb; replace HB := Sh.hb hb; clear hb; clear hcz1_0 hcz1_1 hcz1_2 hfz1_0 hfz1_1 hfz1_2; obtain ⟨hcz1_0, hcz1_1, hcz1_2, hfz1_0, hfz1_1, hfz1_2⟩ := Sh.b3 BK6.out))
  have hw_ := BK6.out
  refine bodyPost_ret (results_list (rs := [.cell 6 27, .tmp 7, .tmp 8]) rfl (by simp) (.cell gb6 27 #[.int .i64 0, .slice none 0 0, .slice none 0 0] (0, 0) _ rfl (by refine Sh.pl ?_; refine blk_put (cs := #[.int .i64 0, .slice none 0 0, .slice none 0 0]) ?_ 2 _ rfl; refine Sh.pl ?_; refine blk_put (cs := #[.int .i64 0, .slice none 0 0, .slice none 0 0]) ?_ 1 _ rfl; refine Sh.pl ?_; refine blk_put (cs := #[.int .i64 0, .slice none 0 0, .slice none 0 0]) ?_ 0 _ rfl; refine Sh.pl ?_; exact BK6.out) Try.underlying27 rfl (by kernel_rfl) (.tmp (.tmp .nil)))) rfl ?_
  exact ⟨_, _, rfl, Kd.R_nil _ _ _ _ _, Kd.R_nil _ _ _ _ _, (below_set (below_set (below_set HB.out GE6.out) GE6.out) GE6.out)⟩
end Go.Proofs.Ytejlobcjgbeeaaa.P
