/- Go functions of this seat as Lean functions, and the proofs that the calls come to what these say; printed by a program of this session. No condition. -/
import Derived.Test.YtnfpolhpanpeiaaP0
import Derived.Test.YtnfpolhpanpeiaaMFnExactLevelsOf2
import Derived.Test.YtnfpolhpanpeiaaMFnExactLevelsOf1
set_option linter.unusedVariables false
set_option linter.unusedSimpArgs false
set_option maxHeartbeats 40000000
set_option maxRecDepth 100000
namespace Go.Proofs.Ytnfpolhpanpeiaa.P
open Go.RowKit Go.Proofs.YtnfpolhpanpeiaaW.PrintWords Go.Proofs.YtnfpolhpanpeiaaW.PrintLast Go.Proofs.YtnfpolhpanpeiaaW.PrintMore Go.Proofs.Ytnfpolhpanpeiaa.Hof
attribute [local go_sem] max2_int min2_int max_two min_two max_three min_three max_four min_four
-- over spec_l11Parts.calls
mutual
def impl_lev.l1 : Nat → List (List Int) → List (List Int) → List Int → List Int → Int → Int → Int → List Int → Option (Int × List Int)
 | 0, _, _, _, _, _, _, _, _ => none
 | k + 1, N, Mm, P, ws, j, own, out, Kn => if j < (ws.length : Int) then (if 0 ≤ j ∧ 0 ≤ rd ws j ∧ rd ws j < (P.length : Int) then (if rd P (rd ws j) = own then impl_lev.l1 k N Mm P ws (wrap64 (j + 1)) own out Kn else (impl_lev.f k N Mm P (rd P (rd ws j)) Kn).bind fun t => impl_lev.l1 k N Mm P ws (wrap64 (j + 1)) own (mx out (wrap64 (t.1 + 1))) t.2) else none) else some (out, Kn)
def impl_lev.l0 : Nat → List (List Int) → List (List Int) → List Int → List Int → Int → Int → Int → List Int → Option (Int × List Int)
 | 0, _, _, _, _, _, _, _, _ => none
 | k + 1, N, Mm, P, vs, i, own, out, Kn => if i < (vs.length : Int) then (if 0 ≤ i ∧ 0 ≤ rd vs i ∧ rd vs i < (N.length : Int) then ((impl_lev.l1 k N Mm P (rd_L1 N (rd vs i)) 0 own out Kn).bind fun t => impl_lev.l0 k N Mm P vs (wrap64 (i + 1)) own t.1 t.2) else none) else some (out, Kn)
def impl_lev.f : Nat → List (List Int) → List (List Int) → List Int → Int → List Int → Option (Int × List Int)
 | 0, _, _, _, _, _ => none
 | k + 1, N, Mm, P, own, Kn => if 0 ≤ own ∧ own < (Kn.length : Int) ∧ own < (Mm.length : Int) then (if rd Kn own ≥ 0 then some (rd Kn own, Kn) else (impl_lev.l0 k N Mm P (rd_L1 Mm own) 0 own 0 Kn).bind fun t => some (t.1, t.2.set own.toNat t.1)) else none
end
/-- What the closure's own variables hold, in every world of Kp; known's row is block gK. -/
structure Lev (W0 : World) (gK n cK : Nat) (bK bM bG bP bF : Nat) (AN : Option Addr) (cN : Nat) (N : List (List Int)) (AM : Option Addr) (cM : Nat) (Mm : List (List Int)) (AP : Option Addr) (cP : Nat) (P : List Int) : Prop where
  hK : W0.heap[bK]? = some (.cells #[.slice (some ⟨gK, 0, none⟩) n cK] 26 (0, 0))
  hM : W0.heap[bM]? = some (.cells #[.slice AM Mm.length cM] 22 (0, 0))
  hG : W0.heap[bG]? = some (.cells #[.slice AN N.length cN] 29 (0, 0))
  hP : W0.heap[bP]? = some (.cells #[.slice AP P.length cP] 26 (0, 0))
  hF : W0.heap[bF]? = some (.cells #[.func (.func 33) #[] #[.pointer (some ⟨bK, 0, none⟩), .pointer (some ⟨bM, 0, none⟩), .pointer (some ⟨bG, 0, none⟩), .pointer (some ⟨bP, 0, none⟩), .pointer (some ⟨bF, 0, none⟩)]] 48 (0, 0))
  ne : bK ≠ gK ∧ bM ≠ gK ∧ bG ≠ gK ∧ bP ≠ gK ∧ bF ≠ gK
  rM : RdN (fun W => W0.grownBy W (some gK)) AM Mm
  rN : RdN (fun W => W0.grownBy W (some gK)) AN N
  rP : ∀ W, W0.grownBy W (some gK) → Kd.C (Kd.int .i64) W AP P.length P
section
variable {W0 W W1 : World} {gK n cK bK bM bG bP bF : Nat} {AN AM AP : Option Addr} {cN cM cP : Nat} {N Mm : List (List Int)} {P Kn : List Int}
theorem Lev.cells (h : Lev W0 gK n cK bK bM bG bP bF AN cN N AM cM Mm AP cP P) (hw : W0.grownBy W (some gK)) : W.cell? ⟨bK, 0, none⟩ = some (.slice (some ⟨gK, 0, none⟩) n cK) ∧ W.cell? ⟨bM, 0, none⟩ = some (.slice AM Mm.length cM) ∧ W.cell? ⟨bG, 0, none⟩ = some (.slice AN N.length cN) ∧ W.cell? ⟨bP, 0, none⟩ = some (.slice AP P.length cP) ∧
    W.cell? ⟨bF, 0, none⟩ = some (.func (.func 33) #[] #[.pointer (some ⟨bK, 0, none⟩), .pointer (some ⟨bM, 0, none⟩), .pointer (some ⟨bG, 0, none⟩), .pointer (some ⟨bP, 0, none⟩), .pointer (some ⟨bF, 0, none⟩)]) := by
  obtain ⟨n1, n2, n3, n4, n5⟩ := h.ne
  have e : ∀ b : Nat, b ≠ gK → some b ≠ some gK := fun b hb h => hb (by injection h)
  exact ⟨Sh.bc (blk_grown h.hK hw (e _ n1)) 0 rfl, Sh.bc (blk_grown h.hM hw (e _ n2)) 0 rfl, Sh.bc (blk_grown h.hG hw (e _ n3)) 0 rfl, Sh.bc (blk_grown h.hP hw (e _ n4)) 0 rfl, Sh.bc (blk_grown h.hF hw (e _ n5)) 0 rfl⟩
theorem TJ_gb (h : W0.grownBy W (some gK)) (hs : Below W.heap.size W W1 := by (repeat (with_reducible first | apply below_alloc | apply pw_below_drewN | apply below_drew1)); exact Below.refl _ _) : W0.grownBy W1 (some gK) :=
  ⟨hs.os.trans h.os, hs.tape.trans h.tape, hs.output.trans h.output, Nat.le_trans h.size hs.size, fun i hi hne => (hs.block i (Nat.lt_of_lt_of_le hi h.size)).trans (h.block i hi hne)⟩
theorem TJ_gbs (h : W0.grownBy W (some gK)) (j : Nat) (u : Value) : W0.grownBy (W.setCell ⟨gK, j, none⟩ u) (some gK) :=
  ⟨h.os, h.tape, h.output, by simpa [World.setCell] using h.size, fun i hi hne => (Below.heap_setCell W ⟨gK, j, none⟩ u i (fun e => hne (by rw [e]))).trans (h.block i hi hne)⟩
end
def impl_LevelsOf_1.T11 : Bool × List (List Nat × List Nat) := (true, [([], []), ([], []), ([], []), ([], []), ([2, 3], [2, 3]), ([4], [4]), ([1, 5], [1, 5]), ([6], [6]), ([0, 7], [0, 7]), ([8, 6, 0, 1, 2, 3, 4, 5, 6, 7, 8], [0, 8])])
def impl_LevelsOf_1.B11 : List Nat := [0, 0, 0, 0, 12, 28, 62, 126, 255, 511]
theorem impl_LevelsOf_1.tab11 : rtab .any (opsOf Try.f33 11) = impl_LevelsOf_1.T11 := by kernel_rfl
theorem impl_LevelsOf_1.bits11 : waitsOk impl_LevelsOf_1.T11.2 impl_LevelsOf_1.B11 = true := by kernel_rfl
theorem impl_lev.calls (k : Nat) : ∀ (W0 : World) (gK n cK bK bM bG bP bF b : Nat) (AN : Option Addr) (cN : Nat) (N : List (List Int)) (AM : Option Addr) (cM : Nat) (Mm : List (List Int)) (AP : Option Addr) (cP : Nat) (P : List Int) (own : Int) (Kn : List Int) (r : Int × List Int) (w : World)
  (hL : Lev W0 gK n cK bK bM bG bP bF AN cN N AM cM Mm AP cP P) (hw : W0.grownBy w (some gK)) (hR : Kd.R (Kd.int .i64) 3 w b (fun _ => True) (.slice (some ⟨gK, 0, none⟩) n cK) Kn) (h : impl_lev.f k N Mm P own Kn = some r),
  Calls Try.prog 33 #[.int .i64 own, .pointer (some ⟨bK, 0, none⟩), .pointer (some ⟨bM, 0, none⟩), .pointer (some ⟨bG, 0, none⟩), .pointer (some ⟨bP, 0, none⟩), .pointer (some ⟨bF, 0, none⟩)] w fun e w' => e = .returned (.int .i64 r.1) ∧ W0.grownBy w' (some gK) ∧ Kd.R (Kd.int .i64) 3 w' b (fun _ => True) (.slice (some ⟨gK, 0, none⟩) n cK) r.2 := by
 induction k using Nat.strongRecOn with
 | _ k ih =>
 intro W0 gK n cK bK bM bG bP bF b AN cN N AM cM Mm AP cP P own Kn r w hL hw hR h
 cases k with
 | zero => exact absurd h (by simp [impl_lev.f])
 | succ k =>
 simp only [impl_lev.f] at h
 have HL := am_ hL
 have HW := am_ hw
 have HR := am_ hR
 have IH := am_ ih
 clear ih hL hw hR
 by_cases c1 : 0 ≤ own ∧ own < (Kn.length : Int) ∧ own < (Mm.length : Int)
 ·rw [if_pos c1] at h
  obtain ⟨p1, q1, q2⟩ := c1
  have hKn : Kn.length = n := (Kd.R_reads' HR.out).1.symm
  rw [hKn] at q1
  have p1b := decide_eq_true p1
  have q1b := decide_eq_true q1
  have p1t := eq_true p1
  have q1t := eq_true q1
  have q2b := decide_eq_true q2
  have q2t := eq_true q2
  have hcK : w.cell? ⟨gK, own.toNat, none⟩ = some (.int .i64 (rd Kn own)) := (Kd.R_celln 0 HR.out own p1 q1).1
  obtain ⟨hcz_0, hcz_1, hcz_2, hcz_3, hcz_4⟩ := HL.out.cells HW.out
  by_cases c2 : rd Kn own ≥ 0
  ·rw [if_pos c2] at h
   have c2b := decide_eq_true c2
   injection h with h
   subst h
   go_enter Try.func33, Try.ntmps33
   go_wp2
   exact bodyPost_ret (results_tmp rfl _ _ _) rfl ⟨rfl, HW.out, HR.out⟩
  ·rw [if_neg c2] at h
   have c2b := decide_eq_false c2
   have H' := am_ h
   clear h
   obtain ⟨adM, AM1, cM1, eM1, hLM, hRM⟩ := HL.out.rM own p1 q2
   subst eM1
   have hx1 := (hRM w HW.out).1
   replace hRM := am_ hRM
   replace hLM := am_ hLM
   go_enter Try.func33, Try.ntmps33
   go_wp2
   go_loopg [8, 27] k (fun kq v8 v27 w' => ∃ (i out : Int) (yK : List Int), v8 = .int .i64 out ∧ v27 = .int .i64 i ∧ Aside0 ((impl_lev.l0 kq N Mm P (rd_L1 Mm own) i own out yK).bind (fun t => some (t.1, t.2.set own.toNat t.1)) = some r) ∧ Aside0 (kq ≤ k) ∧ Aside0 (Kd.R (Kd.int .i64) 3 w' b (fun _ => True) (.slice (some ⟨gK, 0, none⟩) n cK) yK) ∧ Aside0 (W0.grownBy w' (some gK)))
   case atStart => exact ⟨_, _, _, rfl, rfl, H', ⟨Nat.le_refl _⟩, HR, HW⟩
   case round =>
    clear H' HR HW hcz_0 hcz_1 hcz_2 hcz_3 hcz_4 hx1 hcK hKn
    obtain ⟨i, out, yK, rfl, rfl, HA, HK1, HR, HW⟩ := hrel
    cases gk with
    | zero => exact absurd HA.out (by simp [impl_lev.l0])
    | succ k1 =>
     have H := HA.out
     clear HA
     simp only [impl_lev.l0] at H
     obtain ⟨hcz_0, hcz_1, hcz_2, hcz_3, hcz_4⟩ := HL.out.cells HW.out
     by_cases c3 : i < ((rd_L1 Mm own).length : Int)
     ·rw [if_pos c3] at H
      by_cases c4 : 0 ≤ i ∧ 0 ≤ rd (rd_L1 Mm own) i ∧ rd (rd_L1 Mm own) i < (N.length : Int)
      ·rw [if_pos c4] at H
       obtain ⟨p4, p5, q5⟩ := c4
       have c3b := decide_eq_true c3
       have c3t := eq_true c3
       have p4t := eq_true p4
       have p4b := decide_eq_true p4
       obtain ⟨ad2, e2, hxi⟩ := Kd.at_int (hRM.out wr HW.out).2 i p4 c3
       subst e2
       obtain ⟨ww, hww⟩ : ∃ ww, ww = rd (rd_L1 Mm own) i := ⟨_, rfl⟩
       rw [← hww] at hxi H p5 q5
       clear hww
       have p5t := eq_true p5
       have p5b := decide_eq_true p5
       have q5t := eq_true q5
       have q5b := decide_eq_true q5
       obtain ⟨adN, AN1, cN1, eN1, hLN, hRN⟩ := HL.out.rN ww p5 q5
       subst eN1
       have hx2 := (hRN wr HW.out).1
       replace hRN := am_ hRN
       rw [Option.bind_assoc] at H
       obtain ⟨t, A_, H⟩ := Sh.ba H
       have H' := am_ H
       clear H
       go_wp2
       go_loopg [8, 37] k1 (fun kq v8 v37 w' => ∃ (j out2 : Int) (zK : List Int), v8 = .int .i64 out2 ∧ v37 = .int .i64 j ∧ Aside0 (impl_lev.l1 kq N Mm P (rd_L1 N ww) j own out2 zK = some t) ∧ Aside0 (kq ≤ k1) ∧ Aside0 (Kd.R (Kd.int .i64) 3 w' b (fun _ => True) (.slice (some ⟨gK, 0, none⟩) n cK) zK) ∧ Aside0 (W0.grownBy w' (some gK)))
       case atStart => exact ⟨_, _, _, rfl, rfl, A_, ⟨Nat.le_refl _⟩, HR, HW⟩
       case round =>
        clear A_ HR HW hcz_0 hcz_1 hcz_2 hcz_3 hcz_4 hx2 hxi
        obtain ⟨j, out2, zK, rfl, rfl, HA, HK2, HR, HW⟩ := hrel
        cases gk with
        | zero => exact absurd HA.out (by simp [impl_lev.l1])
        | succ k2 =>
         have H := HA.out
         clear HA
         simp only [impl_lev.l1] at H
         obtain ⟨hcz_0, hcz_1, hcz_2, hcz_3, hcz_4⟩ := HL.out.cells HW.out
         by_cases c6 : j < ((rd_L1 N ww).length : Int)
         ·rw [if_pos c6] at H
          by_cases c7 : 0 ≤ j ∧ 0 ≤ rd (rd_L1 N ww) j ∧ rd (rd_L1 N ww) j < (P.length : Int)
          ·rw [if_pos c7] at H
           obtain ⟨p7, p8, q8⟩ := c7
           have c6b := decide_eq_true c6
           have c6t := eq_true c6
           have p7t := eq_true p7
           have p7b := decide_eq_true p7
           obtain ⟨ad3, e3, hxj⟩ := Kd.at_int (hRN.out wr HW.out).2 j p7 c6
           subst e3
           obtain ⟨xx, hxx⟩ : ∃ xx, xx = rd (rd_L1 N ww) j := ⟨_, rfl⟩
           rw [← hxx] at hxj H p8 q8
           clear hxx
           have p8t := eq_true p8
           have p8b := decide_eq_true p8
           have q8t := eq_true q8
           have q8b := decide_eq_true q8
           obtain ⟨ad4, e4, hxp⟩ := Kd.at_int (HL.out.rP wr HW.out) xx p8 q8
           subst e4
           obtain ⟨qq, hqq⟩ : ∃ qq, qq = rd P xx := ⟨_, rfl⟩
           rw [← hqq] at hxp H
           have HQ := am_ hqq.symm
           clear hqq
           by_cases c8 : qq = own
           ·rw [if_pos c8] at H
            have c8b : (qq == own) = true := beq_iff_eq.mpr c8
            have H3 := am_ H
            clear H
            go_wp2
            go_roundg k2
            case measure => have := HK2.out; omega
            case rel => exact ⟨_, _, _, rfl, rfl, H3, ⟨by have := HK2.out; omega⟩, ⟨Sh.rl HR.out⟩, ⟨TJ_gb HW.out⟩⟩
           ·rw [if_neg c8] at H
            have c8b : (qq == own) = false := beq_eq_false_iff_ne.mpr c8
            obtain ⟨u, B_, H⟩ := Sh.ba H
            have H3 := am_ H
            clear H
            have hlt := am_ (show k2 < k + 1 by have := HK2.out; have := HK1.out; omega)
            go_wp2
            have hS : ∀ W : World, W0.grownBy W (some gK) → (fun w' => w'.cell? ⟨bP, 0, none⟩ = some (.slice (some ad4) P.length cP) ∧ w'.cell? ⟨bF, 0, none⟩ = some (.func (.func 33) #[] #[.pointer (some ⟨bK, 0, none⟩), .pointer (some ⟨bM, 0, none⟩), .pointer (some ⟨bG, 0, none⟩), .pointer (some ⟨bP, 0, none⟩), .pointer (some ⟨bF, 0, none⟩)]) ∧ w'.cell? (ad4.add xx.toNat) = some (.int .i64 qq)) W := fun W hW => by
             obtain ⟨_, _, _, z3, z4⟩ := HL.out.cells hW
             obtain ⟨ad5, e5, h5⟩ := Kd.at_int (HL.out.rP W hW) xx p8 q8
             injection e5 with e5
             subst e5
             exact ⟨z3, z4, by rw [h5, HQ.out]⟩
            replace hS := am_ hS
            refine start_ (n := 10) (S := fun w' => w'.cell? ⟨bP, 0, none⟩ = some (.slice (some ad4) P.length cP) ∧ w'.cell? ⟨bF, 0, none⟩ = some (.func (.func 33) #[] #[.pointer (some ⟨bK, 0, none⟩), .pointer (some ⟨bM, 0, none⟩), .pointer (some ⟨bG, 0, none⟩), .pointer (some ⟨bP, 0, none⟩), .pointer (some ⟨bF, 0, none⟩)]) ∧ w'.cell? (ad4.add xx.toNat) = some (.int .i64 qq)) (ds := []) (Sh.nm 10 0) (by kernel_rfl) rfl rfl (hS.out _ (TJ_gb HW.out)) (fun hHeld => ?_)
            refine with_tabW impl_LevelsOf_1.tab11 impl_LevelsOf_1.bits11 (fun HT_ HW_ => ?_)
            refine Sh.qA 0 ?_; refine Sh.qT 1 hHeld ?_; refine Sh.qT 2 hHeld ?_; refine Sh.qA 3 ?_
            refine Sh.qA 4 ?_ (v := .pointer (some (ad4.add xx.toNat))) (hy := by intro w'; go_simp; first | done | (intro h_; omega))
            refine Sh.qT 5 hHeld ?_
            refine one_ (i := 6) (N := some 53) (Sh.nm 10 127) rfl rfl (one_of HT_.out (by kernel_rfl)) (by decide) fun K hK => ?_
            refine call_ 33 #[.int .i64 qq, .pointer (some ⟨bK, 0, none⟩), .pointer (some ⟨bM, 0, none⟩), .pointer (some ⟨bG, 0, none⟩), .pointer (some ⟨bP, 0, none⟩), .pointer (some ⟨bF, 0, none⟩)] (by rfl) rfl ?hrun ?_
            case hrun =>
             have he := enters_ Try.func33 (by kernel_rfl) rfl #[.int .i64 qq, .pointer (some ⟨bK, 0, none⟩), .pointer (some ⟨bM, 0, none⟩), .pointer (some ⟨bG, 0, none⟩), .pointer (some ⟨bP, 0, none⟩), .pointer (some ⟨bF, 0, none⟩)] wr.drew
             first | (go_simp; done) | (go_simp; rfl) | (trace_state; sorry)
            refine (IH.out k2 hlt.out W0 gK n cK bK bM bG bP bF b _ cN N _ cM Mm _ cP P qq zK u _ HL.out (TJ_gb HW.out) (Sh.rl HR.out) B_.out).mono ?_
            rintro e w9 ⟨rfl, hg, hr⟩
            refine ⟨_, rfl, ?_⟩
            have n1_ := am_ hr
            have n2_ := am_ hg
            clear hg hr HR HW hxj hxp hcz_0 hcz_1 hcz_2 hcz_3 hcz_4 hHeld
            have HR := n1_
            have HW := n2_
            clear n1_ n2_
            refine hK.out _ _ (hS.out _ HW.out) (fun hHeld => ?_)
            clear hK K
            refine norm_ (a' := ?_) ?_ ?_
            rotate_left
            · show Act.put _ (some 53) _ = _
              simp only [Act.put, List.setIfInBounds_toArray, List.set_cons_zero, List.set_cons_succ, i64_w, i32_w]
              rfl
            refine Sh.qA 7 ?_
            refine Sh.qA 8 ?_ (v := .int .i64 (mx out2 (wrap64 (u.1 + 1)))) (hy := by intro w'; go_simp; first | done | rfl)
            refine Sh.qA 9 ?_
            refine done_ (done_of HT_.out (by kernel_rfl)) ?_
            clear hHeld HT_ HW_
            go_wp2
            go_roundg k2
            case measure => have := HK2.out; omega
            case rel => exact ⟨_, _, _, rfl, rfl, H3, ⟨by have := HK2.out; omega⟩, ⟨Sh.rl HR.out⟩, ⟨TJ_gb HW.out⟩⟩
          ·rw [if_neg c7] at H
           exact absurd H (by simp)
         ·rw [if_neg c6] at H
          have c6b := decide_eq_false c6
          injection H with H
          subst H
          go_wp2
          go_roundg k1
          case measure => have := HK1.out; omega
          case rel => exact ⟨_, _, _, rfl, rfl, H', ⟨by have := HK1.out; omega⟩, ⟨Sh.rl HR.out⟩, ⟨TJ_gb HW.out⟩⟩
      ·rw [if_neg c4] at H
       exact absurd H (by simp)
     ·rw [if_neg c3] at H
      have c3b := decide_eq_false c3
      simp only [Option.bind_some] at H
      injection H with H
      subst H
      have hcK : wr.cell? ⟨gK, own.toNat, none⟩ = some (.int .i64 (rd yK own)) := (Kd.R_celln 0 HR.out own p1 q1).1
      have hfK : wr.frozen? ⟨gK, own.toNat, none⟩ = false := (Kd.R_celln 0 HR.out own p1 q1).2
      go_wp2_with (first | ((with_reducible refine gate_store (t := 3) (p := 61) rfl ?_); refine store_event (t := 3) (p := 61) (v := ?vo_w9) (w1 := (wr.setCell ⟨gK, own.toNat, none⟩ (.int .i64 out))) ?hg ?ho ?hn ?hr ?_; (case ho => rfl); (case hg => rfl); (case hn => rfl); (case hr => first | (go_simp; done) | (go_simp; rfl)); intro w9 hw; have n1_ := am_ (show Kd.R (Kd.int .i64) 3 w9 b (fun _ => True) (.slice (some ⟨gK, 0, none⟩) n cK) (yK.set own.toNat out) from (by rw [hw]; exact (Kd.R_putg HR.out own out).1)); have n2_ := am_ (show W0.grownBy w9 (some gK) from (by rw [hw]; exact TJ_gbs HW.out _ _)); clear hw HR HW hcK hfK hcz_0 hcz_1 hcz_2 hcz_3 hcz_4; have HR := n1_; have HW := n2_; clear n1_ n2_))
      exact bodyPost_ret (results_tmp rfl _ _ _) rfl ⟨rfl, HW.out, HR.out⟩
 ·rw [if_neg c1] at h
  exact absurd h (by simp)
section
variable {W0 w : World} {gK n cK bK bM bG bP bF : Nat} {AN AM AP : Option Addr} {cN cM cP : Nat} {N Mm : List (List Int)} {P Kn : List Int}
theorem Lev.at_ (h : Lev W0 gK n cK bK bM bG bP bF AN cN N AM cM Mm AP cP P) (hw : W0.grownBy w (some gK)) : Lev w gK n cK bK bM bG bP bF AN cN N AM cM Mm AP cP P := by
  obtain ⟨n1, n2, n3, n4, n5⟩ := h.ne
  have e : ∀ b : Nat, b ≠ gK → some b ≠ some gK := fun b hb h => hb (by injection h)
  exact ⟨blk_grown h.hK hw (e _ n1), blk_grown h.hM hw (e _ n2), blk_grown h.hG hw (e _ n3), blk_grown h.hP hw (e _ n4), blk_grown h.hF hw (e _ n5), h.ne, h.rM.mono (fun W hW => hw.trans hW), h.rN.mono (fun W hW => hw.trans hW), fun W hW => h.rP W (hw.trans hW)⟩
theorem impl_lev.calls2 (k : Nat) (b : Nat) (own : Int) (r : Int × List Int) (hL : Lev W0 gK n cK bK bM bG bP bF AN cN N AM cM Mm AP cP P) (hw : W0.grownBy w (some gK)) (hR : Kd.R (Kd.int .i64) 3 w b (fun _ => True) (.slice (some ⟨gK, 0, none⟩) n cK) Kn) (h : impl_lev.f k N Mm P own Kn = some r) :
  Calls Try.prog 33 #[.int .i64 own, .pointer (some ⟨bK, 0, none⟩), .pointer (some ⟨bM, 0, none⟩), .pointer (some ⟨bG, 0, none⟩), .pointer (some ⟨bP, 0, none⟩), .pointer (some ⟨bF, 0, none⟩)] w fun e w' => e = .returned (.int .i64 r.1) ∧ w.grownBy w' (some gK) ∧ Kd.R (Kd.int .i64) 3 w' b (fun _ => True) (.slice (some ⟨gK, 0, none⟩) n cK) r.2 :=
  impl_lev.calls k w gK n cK bK bM bG bP bF b AN cN N AM cM Mm AP cP P own Kn r w (hL.at_ hw) (World.grownBy.refl _ _) hR h
end

-- over spec_l11Parts.calls
/-- What impl.LevelsOf has made so far, in whatever order: the parts, the row of one -1, the row of -1s, two variables. -/
def MK3 (n : Nat) (P : List Int) (W1 W : World) (fa fb fc f8 f9 : Bool) (va vb vc : Value) (b8 b9 : Nat) : Prop :=
  Below W1.heap.size W1 W ∧ (fa = true → Kd.R (Kd.int .i64) 3 W W1.heap.size (fun _ => True) va P) ∧ (fb = true → Kd.R (Kd.int .i64) 3 W W1.heap.size (fun _ => True) vb [-1]) ∧ (fc = true → Kd.R (Kd.int .i64) 3 W W1.heap.size (fun _ => True) vc (List.replicate n (-1))) ∧
  (f8 = true → W1.heap.size ≤ b8 ∧ W.heap[b8]? = some (.cells #[.slice none 0 0] 26 (0, 0))) ∧ (f9 = true → W1.heap.size ≤ b9 ∧ W.heap[b9]? = some (.cells #[.slice none 0 0] 26 (0, 0))) ∧ (f8 = true → f9 = true → b8 ≠ b9) ∧ (fa = true → fc = true → ∀ k, va.ownBlock = some k → vc.ownBlock ≠ some k)
section
variable {n : Nat} {P : List Int} {W1 W W2 : World} {fa fb fc f8 f9 : Bool} {va vb vc v : Value} {b8 b9 g : Nat}
theorem MK3.b (h : MK3 n P W1 W fa fb fc f8 f9 va vb vc b8 b9) : Below W1.heap.size W1 W := h.1
theorem MK3.step (h : MK3 n P W1 W fa fb fc f8 f9 va vb vc b8 b9) (hw : Below W.heap.size W W2) : MK3 n P W1 W2 fa fb fc f8 f9 va vb vc b8 b9 := by
  obtain ⟨h1, h2, h3, h4, h5, h6, h7⟩ := h
  exact ⟨below_step h1 hw, fun k => Kd.R_below (h2 k) hw, fun k => Kd.R_below (h3 k) hw, fun k => Kd.R_below (h4 k) hw, fun k => ⟨(h5 k).1, blk_below (h5 k).2 hw⟩, fun k => ⟨(h6 k).1, blk_below (h6 k).2 hw⟩, h7⟩
theorem MK3.pa (h : MK3 n P W1 W false fb fc f8 f9 va vb vc b8 b9) (hw : Below W.heap.size W W2) (ho : Kd.R (Kd.int .i64) 3 W2 W.heap.size (fun _ => True) v P) : MK3 n P W1 W2 true fb fc f8 f9 v vb vc b8 b9 := by
  have hs := h.step hw
  exact ⟨hs.1, fun _ => Kd.R_lower ho (below_size h.1), hs.2.2.1, hs.2.2.2.1, hs.2.2.2.2.1, hs.2.2.2.2.2.1, hs.2.2.2.2.2.2.1, fun _ k j hj e => by
    have h1 := Kd.R_base ho j hj
    have h2 := Kd.R_lt (h.2.2.2.1 k) j e
    omega⟩
theorem MK3.pb (h : MK3 n P W1 W fa false fc f8 f9 va vb vc b8 b9) (hw : Below W.heap.size W W2) (ho : Kd.R (Kd.int .i64) 3 W2 W.heap.size (fun _ => True) v [-1]) : MK3 n P W1 W2 fa true fc f8 f9 va v vc b8 b9 := by
  have hs := h.step hw
  exact ⟨hs.1, hs.2.1, fun _ => Kd.R_lower ho (below_size h.1), hs.2.2.2.1, hs.2.2.2.2⟩
theorem MK3.pc (h : MK3 n P W1 W fa fb false f8 f9 va vb vc b8 b9) (hw : Below W.heap.size W W2) (ho : Kd.R (Kd.int .i64) 3 W2 W.heap.size (fun _ => True) v (List.replicate n (-1))) : MK3 n P W1 W2 fa fb true f8 f9 va vb v b8 b9 := by
  have hs := h.step hw
  exact ⟨hs.1, hs.2.1, hs.2.2.1, fun _ => Kd.R_lower ho (below_size h.1), hs.2.2.2.2.1, hs.2.2.2.2.2.1, hs.2.2.2.2.2.2.1, fun k _ j hj e => by
    have h1 := Kd.R_base ho j e
    have h2 := Kd.R_lt (h.2.1 k) j hj
    omega⟩
theorem MK3.p8 (h : MK3 n P W1 W fa fb fc false f9 va vb vc b8 b9) (hg : g = W.heap.size) : MK3 n P W1 (W.alloc (.cells #[.slice none 0 0] 26 (0, 0))) fa fb fc true f9 va vb vc g b9 := by
  have hs := h.step (below_alloc (Below.refl _ _) (.cells #[.slice none 0 0] 26 (0, 0)))
  exact ⟨hs.1, hs.2.1, hs.2.2.1, hs.2.2.2.1, fun _ => ⟨by rw [hg]; exact below_size h.1, by rw [hg]; exact heap_alloc_new W _⟩, hs.2.2.2.2.2.1, fun _ k => by have := blk_lt (h.2.2.2.2.2.1 k).2; omega, hs.2.2.2.2.2.2.2⟩
theorem MK3.p9 (h : MK3 n P W1 W fa fb fc f8 false va vb vc b8 b9) (hg : g = W.heap.size) : MK3 n P W1 (W.alloc (.cells #[.slice none 0 0] 26 (0, 0))) fa fb fc f8 true va vb vc b8 g := by
  have hs := h.step (below_alloc (Below.refl _ _) (.cells #[.slice none 0 0] 26 (0, 0)))
  exact ⟨hs.1, hs.2.1, hs.2.2.1, hs.2.2.2.1, hs.2.2.2.2.1, fun _ => ⟨by rw [hg]; exact below_size h.1, by rw [hg]; exact heap_alloc_new W _⟩, fun k _ => by have := blk_lt (h.2.2.2.2.1 k).2; omega, hs.2.2.2.2.2.2.2⟩
/-- Behind the two stores. -/
theorem MK3.fin (h : MK3 n P W1 W true true true true true va vb vc b8 b9) : (((W.setCell ⟨b8, 0, none⟩ va).setCell ⟨b9, 0, none⟩ vc).heap[b8]? = some (.cells #[va] 26 (0, 0)) ∧ ((W.setCell ⟨b8, 0, none⟩ va).setCell ⟨b9, 0, none⟩ vc).heap[b9]? = some (.cells #[vc] 26 (0, 0))) ∧
    Below W1.heap.size W1 ((W.setCell ⟨b8, 0, none⟩ va).setCell ⟨b9, 0, none⟩ vc) ∧ Kd.R (Kd.int .i64) 3 ((W.setCell ⟨b8, 0, none⟩ va).setCell ⟨b9, 0, none⟩ vc) W1.heap.size (fun _ => True) va P ∧ Kd.R (Kd.int .i64) 3 ((W.setCell ⟨b8, 0, none⟩ va).setCell ⟨b9, 0, none⟩ vc) W1.heap.size (fun _ => True) vc (List.replicate n (-1)) := by
  obtain ⟨h1, h2, _, h4, h5, h6, h7, _⟩ := h
  obtain ⟨g8, k8⟩ := h5 rfl
  obtain ⟨g9, k9⟩ := h6 rfl
  have n89 := h7 rfl rfl
  have j8 := blk_put k8 0 va rfl
  have j9 : (W.setCell ⟨b8, 0, none⟩ va).heap[b9]? = some (.cells #[.slice none 0 0] 26 (0, 0)) := by rw [Below.heap_setCell W ⟨b8, 0, none⟩ va b9 (fun e => n89 e.symm)]; exact k9
  exact ⟨⟨by rw [Below.heap_setCell _ ⟨b9, 0, none⟩ vc b8 n89]; exact j8, blk_put j9 0 vc rfl⟩, below_set (below_set h1 g8) g9, TJ_set (TJ_set (h2 rfl) k8 (by decide)) j9 (by decide), TJ_set (TJ_set (h4 rfl) k8 (by decide)) j9 (by decide)⟩
end
theorem TJ_gg {W0 W W1 : World} {gK : Nat} {v : Value} (h : W0.grownBy W (some gK)) (hg : W.grownBy W1 v.ownBlock) (hv : ∀ k, v.ownBlock = some k → W0.heap.size ≤ k) : W0.grownBy W1 (some gK) :=
  ⟨hg.os.trans h.os, hg.tape.trans h.tape, hg.output.trans h.output, Nat.le_trans h.size hg.size, fun i hi hne => (hg.block i (Nat.lt_of_lt_of_le hi h.size) (fun e => by have := hv i e.symm; omega)).trans (h.block i hi hne)⟩
theorem TJ_gB {w W0 W : World} {gK : Nat} (hB : Below w.heap.size w W0) (h : W0.grownBy W (some gK)) (hg : w.heap.size ≤ gK) : Below w.heap.size w W :=
  ⟨h.os.trans hB.os, h.tape.trans hB.tape, h.output.trans hB.output, Nat.le_trans hB.size h.size, fun i hi => (h.block i (Nat.lt_of_lt_of_le hi hB.size) (fun e => by injection e with e; omega)).trans (hB.block i hi)⟩
theorem Lev.mk_ {w wA w6 w11 : World} {bG b8 b9 bM bF c0 ca cc cM : Nat} {A0 Aa Ac AM : Option Addr} {N Mm : List (List Int)} {P : List Int} (HN : Kd.C (Kd.slice 3 (Kd.int .i64)) w A0 N.length N) (WA : w.heap.size ≤ wA.heap.size) (HB6 : Below w.heap.size w w6) (HB : Below w6.heap.size w6 w11)
    (BG6 : w6.heap[bG]? = some (.cells #[.slice A0 N.length c0] 29 (0, 0))) (B86 : w6.heap[b8]? = some (.cells #[.slice Aa P.length ca] 26 (0, 0))) (B96 : w6.heap[b9]? = some (.cells #[.slice Ac N.length cc] 26 (0, 0))) (RP6 : Kd.R (Kd.int .i64) 3 w6 wA.heap.size (fun _ => True) (.slice Aa P.length ca) P) (RK6 : Kd.R (Kd.int .i64) 3 w6 wA.heap.size (fun _ => True) (.slice Ac N.length cc) (List.replicate N.length (-1)))
    (hap : ∀ k, (Value.slice Aa P.length ca).ownBlock = some k → (Value.slice Ac N.length cc).ownBlock ≠ some k) (HS : Kd.S (Kd.slice 3 (Kd.int .i64)) 26 w11 w6.heap.size (fun _ => True) (.slice AM N.length cM) Mm) (BM : w11.heap[bM]? = some (.cells #[.slice AM N.length cM] 22 (0, 0))) (GEM : w6.heap.size ≤ bM)
    (BF : w11.heap[bF]? = some (.cells #[.func (.func 33) #[] #[.pointer (some ⟨b9, 0, none⟩), .pointer (some ⟨bM, 0, none⟩), .pointer (some ⟨bG, 0, none⟩), .pointer (some ⟨b8, 0, none⟩), .pointer (some ⟨bF, 0, none⟩)]] 48 (0, 0))) (GEF : w6.heap.size ≤ bF) (hn : 0 < N.length) :
    ∃ gK, Ac = some ⟨gK, 0, none⟩ ∧ w.heap.size ≤ gK ∧ gK < w11.heap.size ∧ Lev w11 gK N.length cc b9 bM bG b8 bF A0 c0 N AM cM Mm Aa ca P := by
  obtain ⟨gK, c, e⟩ := TJ_at RK6 (.inr (by simpa using hn))
  injection e with e _ _
  subst e
  have hb := Kd.R_base RK6 gK rfl
  have hl := Kd.R_lt RK6 gK rfl
  have hlen := (Kd.S_reads' HS).1
  have hs := HB.size
  have ne : ∀ {b t : Nat} {cs : Array Value}, w6.heap[b]? = some (.cells cs t (0, 0)) → 3 ≠ t → b ≠ gK := fun hbk ht e => Kd.R_ne RK6 hbk ht (by rw [e]; rfl)
  refine ⟨gK, rfl, by omega, by omega, ⟨blk_below B96 HB, by rw [← hlen]; exact BM, blk_below BG6 HB, blk_below B86 HB, BF, ⟨ne B96 (by decide), by omega, ne BG6 (by decide), ne B86 (by decide), by omega⟩, ?_, ?_, fun W hW => ?_⟩⟩
  · have hR := Kd.R_mono (Kd.R_bound (Kd.S_R HS)) (ok' := fun k => w6.heap.size ≤ k) (fun k hk => hk.2.1)
    exact RdN_R (cn := cM) (by rw [← hlen]; exact hR) (fun W' hW k ho hk => hW.block k hk (fun e => by injection e with e; omega))
  · refine RdN_C HN (fun W hW => ?_)
    have hB11 : Below w.heap.size w w11 := ⟨HB.os.trans HB6.os, HB.tape.trans HB6.tape, HB.output.trans HB6.output, Nat.le_trans HB6.size HB.size, fun i hi => (HB.block i (Nat.lt_of_lt_of_le hi HB6.size)).trans (HB6.block i hi)⟩
    exact TJ_gB hB11 hW (by omega)
  · exact (Kd.R_reads' (Kd.R_grown1 (Kd.R_below RP6 HB) rfl hW (fun e => hap gK e.symm rfl))).2.2

-- over spec_l11Parts.calls
def impl_LevelsOf.m : Nat → List Int → Int → List (List Int) → Option (List (List Int))
 | 0, _, _, _ => none
 | k + 1, P, i, Mm => if i < (P.length : Int) then (if 0 ≤ i ∧ 0 ≤ rd P i ∧ rd P i < (Mm.length : Int) then (if (rd_L1 Mm (rd P i)).length < 17592186044416 then impl_LevelsOf.m k P (wrap64 (i + 1)) (Mm.set (rd P i).toNat (rd_L1 Mm (rd P i) ++ [i])) else none) else none) else some Mm
def impl_LevelsOf.v : Nat → List (List Int) → List (List Int) → List Int → Int → List Int → List Int → Option (List Int)
 | 0, _, _, _, _, _, _ => none
 | k + 1, N, Mm, P, i, Kn, out => if i < (N.length : Int) then (if 0 ≤ i ∧ i < (P.length : Int) then ((impl_lev.f k N Mm P (rd P i) Kn).bind fun t => if out.length < 17592186044416 then impl_LevelsOf.v k N Mm P (wrap64 (i + 1)) t.2 (out ++ [t.1]) else none) else none) else some out
def impl_LevelsOf.f (k : Nat) (N : List (List Int)) : Option (List Int × Bool) := (impl_GoodGraph.f k N).bind fun t => (if t = true then ((impl_parts.f k N).bind fun P => (if N.length ≤ 1048576 then ((impl_LevelsOf.m k P 0 (List.replicate N.length [])).bind fun Mm => (impl_LevelsOf.v k N Mm P 0 (List.replicate N.length (-1)) []).bind fun out => some (out, true)) else none)) else some ([], false))
@[local go_sem] theorem TJ_runf (P : Program) (w : World) (a : Addr) (m : Mode) (f : Fn) (x y : Array Value) : (store a (.func f x y) m).run P w = stored P w a (.func f x y) m := run_store P w a _ m rfl
def impl_LevelsOf.T3 : Bool × List (List Nat × List Nat) := (true, [([], []), ([0], [0]), ([1], [1]), ([], []), ([], []), ([4], [4]), ([5], [5]), ([3, 6, 2], [3, 6]), ([], []), ([], []), ([8, 2, 7, 0, 1, 2, 8, 9], [2, 8]), ([9, 7, 10, 0, 1, 2, 3, 4, 5, 6, 7, 8, 9, 10], [7, 9])])
def impl_LevelsOf.B3 : List Nat := [0, 1, 3, 0, 0, 16, 48, 127, 0, 0, 1023, 2047]
theorem impl_LevelsOf.tab3 : rtab .any (opsOf Try.f17 3) = impl_LevelsOf.T3 := by kernel_rfl
theorem impl_LevelsOf.bits3 : waitsOk impl_LevelsOf.T3.2 impl_LevelsOf.B3 = true := by kernel_rfl
def impl_LevelsOf.T8 : Bool × List (List Nat × List Nat) := (true, [([], []), ([], []), ([], []), ([], []), ([2, 3], [2, 3]), ([4], [4]), ([], []), ([6], [6]), ([5, 7], [5, 7]), ([0, 1, 0, 1, 2, 3, 4, 5, 6, 7, 8], [0, 1]), ([9, 8, 8, 0, 1, 2, 3, 4, 5, 6, 7, 8], [8, 9])])
def impl_LevelsOf.B8 : List Nat := [0, 0, 0, 0, 12, 28, 0, 64, 252, 511, 1023]
theorem impl_LevelsOf.tab8 : rtab .any (opsOf Try.f17 8) = impl_LevelsOf.T8 := by kernel_rfl
theorem impl_LevelsOf.bits8 : waitsOk impl_LevelsOf.T8.2 impl_LevelsOf.B8 = true := by kernel_rfl
def impl_LevelsOf.T16 : Bool × List (List Nat × List Nat) := (true, [([], []), ([], []), ([], []), ([], []), ([2, 3], [2, 3]), ([4], [4]), ([1, 5], [1, 5]), ([6], [6]), ([0, 7, 6], [0, 7]), ([8, 8, 0, 1, 2, 3, 4, 5, 6, 7, 8], [0, 8])])
def impl_LevelsOf.B16 : List Nat := [0, 0, 0, 0, 12, 28, 62, 126, 255, 511]
theorem impl_LevelsOf.tab16 : rtab .any (opsOf Try.f17 16) = impl_LevelsOf.T16 := by kernel_rfl
theorem impl_LevelsOf.bits16 : waitsOk impl_LevelsOf.T16.2 impl_LevelsOf.B16 = true := by kernel_rfl
theorem impl_LevelsOf.calls_ (k : Nat) (A0 : Option Addr) (c0 : Nat) (N : List (List Int)) (r1 : List Int) (r2 : Bool) (w : World) (hr0 : Kd.C (Kd.slice 3 (Kd.int .i64)) w A0 N.length N) (hc0 : N.length ≤ c0) (h : impl_LevelsOf.f k N = some (r1, r2)) :
  Calls Try.prog 17 #[.agg #[.slice A0 N.length c0]] w fun e w' => ∃ v0_ : Value, e = .returned (.tuple #[v0_, .bool r2]) ∧ Kd.R (Kd.int .i64) 3 w' w.heap.size (fun _ => True) v0_ r1 ∧ Below w.heap.size w w' := by
 have hu29 := Try.underlying29
 have HN := am_ hr0
 have HC := am_ hc0
 clear hr0 hc0
 have HB := am_ (Below.refl w.heap.size w)
 unfold impl_LevelsOf.f at h
 obtain ⟨t, A2, h⟩ := Sh.ba h
 by_cases c3 : t = true
 ·subst c3
  rw [if_pos rfl] at h
  obtain ⟨P, AP_, h⟩ := Sh.ba h
  by_cases c1 : N.length ≤ 1048576
  ·rw [if_pos c1] at h
   obtain ⟨Mm, AM_, h⟩ := Sh.ba h
   obtain ⟨out0, AV_, h⟩ := Sh.ba h
   simp only [Option.some.injEq, Prod.mk.injEq] at h
   obtain ⟨rfl, rfl⟩ := h
   have LM := am_ c1
   have hrep : slices_Repeat_int_int.f ([-1] : List Int) (N.length : Int) = some (List.replicate N.length (-1)) := by
    unfold slices_Repeat_int_int.f
    rw [if_pos ⟨rfl, by omega, by omega⟩]
    rfl
   clear c1
   go_enter Try.func17, Try.ntmps17
   go_wp2_with (first | ((with_reducible refine Sh.d 1 ?_); refine Sh.bz w (N := 1) (cs := #[.slice A0 N.length c0]) (t := 29) (h := ?_); clear HB; intro bG w5 BKG GEG HB; have hcz_0 := Sh.bc BKG.out 0 rfl; have hfz_0 := blk_frozen BKG.out 0) | ((with_reducible refine Sh.k 29 ?_); refine Sh.gB (some 13) Try.func29 #[.agg #[.slice A0 N.length c0]] (impl_GoodGraph.calls k _ _ N true _ (Sh.cB HN.out) HC.out A2.out) fun wA hb => ?_; have HBG := Sh.ab BKG hb; replace HB := Sh.hb hb; clear hb BKG hcz_0 hfz_0; have hcz_0 := Sh.bc HBG.out 0 rfl))
   obtain ⟨va, ea⟩ : ∃ v : Value, v = undef := ⟨_, rfl⟩
   obtain ⟨vb, eb⟩ : ∃ v : Value, v = undef := ⟨_, rfl⟩
   obtain ⟨vc, ec⟩ : ∃ v : Value, v = undef := ⟨_, rfl⟩
   obtain ⟨b8, e8⟩ : ∃ v : Nat, v = 0 := ⟨_, rfl⟩
   obtain ⟨b9, e9⟩ : ∃ v : Nat, v = 0 := ⟨_, rfl⟩
   have hM := am_ (show MK3 N.length P wA wA.drew false false false false false va vb vc b8 b9 from ⟨below_drew1 (Below.refl _ _), by simp, by simp, by simp, by simp, by simp, by simp, by simp⟩)
   clear ea eb ec e8 e9
   refine start_ (n := 12) (S := fun w' => w'.cell? ⟨bG, 0, none⟩ = some (.slice A0 N.length c0)) (ds := [10, 11]) (Sh.nm 12 0) (by kernel_rfl) rfl rfl ((Sh.bc (blk_below HBG.out (below_drew1 (Below.refl _ _))) 0 rfl)) (fun hHeld => ?_)
   refine with_tabW impl_LevelsOf.tab3 impl_LevelsOf.bits3 (fun HT_ HW_ => ?_)
   generalize wA.drew = w' at hHeld hM ⊢
   refine Sh.qA 0 ?_; refine Sh.qA 4 ?_; refine Sh.qT 1 hHeld ?_; refine Sh.qT 5 hHeld ?_; refine Sh.qA 6 ?_
   refine join_ (σ := Value × Value × Value × Nat × Nat) 2 (Sh.nm 12 1023) (fun s => [(17, s.1), (18, s.2.1), (22, s.2.2.1), (4, .pointer (some ⟨s.2.2.2.1, 0, none⟩)), (5, .pointer (some ⟨s.2.2.2.2, 0, none⟩))]) (fun s w' => MK3 N.length P wA w' true true true true true s.1 s.2.1 s.2.2.1 s.2.2.2.1 s.2.2.2.2 ∧ w'.cell? ⟨bG, 0, none⟩ = some (.slice A0 N.length c0)) ?_ ?_
   rotate_left
   · intro hJ2_3_7_8_9
     refine join_ (σ := Value × Value × Value × Nat × Nat) 3 (Sh.nm 12 511) (fun s => [(17, s.1), (18, s.2.1), (22, s.2.2.1), (4, .pointer (some ⟨s.2.2.2.1, 0, none⟩))]) (fun s w' => MK3 N.length P wA w' true true true true false s.1 s.2.1 s.2.2.1 s.2.2.2.1 s.2.2.2.2 ∧ w'.cell? ⟨bG, 0, none⟩ = some (.slice A0 N.length c0)) ?_ ?_
     rotate_left
     · intro hJ2_3_7_8
       refine join_ (σ := Value × Value × Value × Nat × Nat) 3 (Sh.nm 12 767) (fun s => [(17, s.1), (18, s.2.1), (22, s.2.2.1), (5, .pointer (some ⟨s.2.2.2.2, 0, none⟩))]) (fun s w' => MK3 N.length P wA w' true true true false true s.1 s.2.1 s.2.2.1 s.2.2.2.1 s.2.2.2.2 ∧ w'.cell? ⟨bG, 0, none⟩ = some (.slice A0 N.length c0)) ?_ ?_
       rotate_left
       · intro hJ2_3_7_9
         refine join_ (σ := Value × Value × Value × Nat × Nat) 3 (Sh.nm 12 895) (fun s => [(17, s.1), (18, s.2.1), (4, .pointer (some ⟨s.2.2.2.1, 0, none⟩)), (5, .pointer (some ⟨s.2.2.2.2, 0, none⟩))]) (fun s w' => MK3 N.length P wA w' true true false true true s.1 s.2.1 s.2.2.1 s.2.2.2.1 s.2.2.2.2 ∧ w'.cell? ⟨bG, 0, none⟩ = some (.slice A0 N.length c0)) ?_ ?_
         rotate_left
         · intro hJ2_3_8_9
           refine join_ (σ := Value × Value × Value × Nat × Nat) 4 (Sh.nm 12 255) (fun s => [(17, s.1), (18, s.2.1), (22, s.2.2.1)]) (fun s w' => MK3 N.length P wA w' true true true false false s.1 s.2.1 s.2.2.1 s.2.2.2.1 s.2.2.2.2 ∧ w'.cell? ⟨bG, 0, none⟩ = some (.slice A0 N.length c0)) ?_ ?_
           rotate_left
           · intro hJ2_3_7
             refine join_ (σ := Value × Value × Value × Nat × Nat) 4 (Sh.nm 12 383) (fun s => [(17, s.1), (18, s.2.1), (4, .pointer (some ⟨s.2.2.2.1, 0, none⟩))]) (fun s w' => MK3 N.length P wA w' true true false true false s.1 s.2.1 s.2.2.1 s.2.2.2.1 s.2.2.2.2 ∧ w'.cell? ⟨bG, 0, none⟩ = some (.slice A0 N.length c0)) ?_ ?_
             rotate_left
             · intro hJ2_3_8
               refine join_ (σ := Value × Value × Value × Nat × Nat) 4 (Sh.nm 12 639) (fun s => [(17, s.1), (18, s.2.1), (5, .pointer (some ⟨s.2.2.2.2, 0, none⟩))]) (fun s w' => MK3 N.length P wA w' true true false false true s.1 s.2.1 s.2.2.1 s.2.2.2.1 s.2.2.2.2 ∧ w'.cell? ⟨bG, 0, none⟩ = some (.slice A0 N.length c0)) ?_ ?_
               rotate_left
               · intro hJ2_3_9
                 refine join_ (σ := Value × Value × Value × Nat × Nat) 4 (Sh.nm 12 887) (fun s => [(17, s.1), (4, .pointer (some ⟨s.2.2.2.1, 0, none⟩)), (5, .pointer (some ⟨s.2.2.2.2, 0, none⟩))]) (fun s w' => MK3 N.length P wA w' true false false true true s.1 s.2.1 s.2.2.1 s.2.2.2.1 s.2.2.2.2 ∧ w'.cell? ⟨bG, 0, none⟩ = some (.slice A0 N.length c0)) ?_ ?_
                 rotate_left
                 · intro hJ2_8_9
                   refine join_ (σ := Value × Value × Value × Nat × Nat) 4 (Sh.nm 12 891) (fun s => [(18, s.2.1), (4, .pointer (some ⟨s.2.2.2.1, 0, none⟩)), (5, .pointer (some ⟨s.2.2.2.2, 0, none⟩))]) (fun s w' => MK3 N.length P wA w' false true false true true s.1 s.2.1 s.2.2.1 s.2.2.2.1 s.2.2.2.2 ∧ w'.cell? ⟨bG, 0, none⟩ = some (.slice A0 N.length c0)) ?_ ?_
                   rotate_left
                   · intro hJ3_8_9
                     refine join_ (σ := Value × Value × Value × Nat × Nat) 5 (Sh.nm 12 127) (fun s => [(17, s.1), (18, s.2.1)]) (fun s w' => MK3 N.length P wA w' true true false false false s.1 s.2.1 s.2.2.1 s.2.2.2.1 s.2.2.2.2 ∧ w'.cell? ⟨bG, 0, none⟩ = some (.slice A0 N.length c0)) ?_ ?_
                     rotate_left
                     · intro hJ2_3
                       refine join_ (σ := Value × Value × Value × Nat × Nat) 5 (Sh.nm 12 375) (fun s => [(17, s.1), (4, .pointer (some ⟨s.2.2.2.1, 0, none⟩))]) (fun s w' => MK3 N.length P wA w' true false false true false s.1 s.2.1 s.2.2.1 s.2.2.2.1 s.2.2.2.2 ∧ w'.cell? ⟨bG, 0, none⟩ = some (.slice A0 N.length c0)) ?_ ?_
                       rotate_left
                       · intro hJ2_8
                         refine join_ (σ := Value × Value × Value × Nat × Nat) 5 (Sh.nm 12 631) (fun s => [(17, s.1), (5, .pointer (some ⟨s.2.2.2.2, 0, none⟩))]) (fun s w' => MK3 N.length P wA w' true false false false true s.1 s.2.1 s.2.2.1 s.2.2.2.1 s.2.2.2.2 ∧ w'.cell? ⟨bG, 0, none⟩ = some (.slice A0 N.length c0)) ?_ ?_
                         rotate_left
                         · intro hJ2_9
                           refine join_ (σ := Value × Value × Value × Nat × Nat) 5 (Sh.nm 12 379) (fun s => [(18, s.2.1), (4, .pointer (some ⟨s.2.2.2.1, 0, none⟩))]) (fun s w' => MK3 N.length P wA w' false true false true false s.1 s.2.1 s.2.2.1 s.2.2.2.1 s.2.2.2.2 ∧ w'.cell? ⟨bG, 0, none⟩ = some (.slice A0 N.length c0)) ?_ ?_
                           rotate_left
                           · intro hJ3_8
                             refine join_ (σ := Value × Value × Value × Nat × Nat) 5 (Sh.nm 12 635) (fun s => [(18, s.2.1), (5, .pointer (some ⟨s.2.2.2.2, 0, none⟩))]) (fun s w' => MK3 N.length P wA w' false true false false true s.1 s.2.1 s.2.2.1 s.2.2.2.1 s.2.2.2.2 ∧ w'.cell? ⟨bG, 0, none⟩ = some (.slice A0 N.length c0)) ?_ ?_
                             rotate_left
                             · intro hJ3_9
                               refine join_ (σ := Value × Value × Value × Nat × Nat) 5 (Sh.nm 12 883) (fun s => [(4, .pointer (some ⟨s.2.2.2.1, 0, none⟩)), (5, .pointer (some ⟨s.2.2.2.2, 0, none⟩))]) (fun s w' => MK3 N.length P wA w' false false false true true s.1 s.2.1 s.2.2.1 s.2.2.2.1 s.2.2.2.2 ∧ w'.cell? ⟨bG, 0, none⟩ = some (.slice A0 N.length c0)) ?_ ?_
                               rotate_left
                               · intro hJ8_9
                                 refine join_ (σ := Value × Value × Value × Nat × Nat) 6 (Sh.nm 12 119) (fun s => [(17, s.1)]) (fun s w' => MK3 N.length P wA w' true false false false false s.1 s.2.1 s.2.2.1 s.2.2.2.1 s.2.2.2.2 ∧ w'.cell? ⟨bG, 0, none⟩ = some (.slice A0 N.length c0)) ?_ ?_
                                 rotate_left
                                 · intro hJ2
                                   refine join_ (σ := Value × Value × Value × Nat × Nat) 6 (Sh.nm 12 123) (fun s => [(18, s.2.1)]) (fun s w' => MK3 N.length P wA w' false true false false false s.1 s.2.1 s.2.2.1 s.2.2.2.1 s.2.2.2.2 ∧ w'.cell? ⟨bG, 0, none⟩ = some (.slice A0 N.length c0)) ?_ ?_
                                   rotate_left
                                   · intro hJ3
                                     refine join_ (σ := Value × Value × Value × Nat × Nat) 6 (Sh.nm 12 371) (fun s => [(4, .pointer (some ⟨s.2.2.2.1, 0, none⟩))]) (fun s w' => MK3 N.length P wA w' false false false true false s.1 s.2.1 s.2.2.1 s.2.2.2.1 s.2.2.2.2 ∧ w'.cell? ⟨bG, 0, none⟩ = some (.slice A0 N.length c0)) ?_ ?_
                                     rotate_left
                                     · intro hJ8
                                       refine join_ (σ := Value × Value × Value × Nat × Nat) 6 (Sh.nm 12 627) (fun s => [(5, .pointer (some ⟨s.2.2.2.2, 0, none⟩))]) (fun s w' => MK3 N.length P wA w' false false false false true s.1 s.2.1 s.2.2.1 s.2.2.2.1 s.2.2.2.2 ∧ w'.cell? ⟨bG, 0, none⟩ = some (.slice A0 N.length c0)) ?_ ?_
                                       rotate_left
                                       · intro hJ9
                                         refine four_ (i := 2) (j := 3) (k := 8) (m := 9) (Ni := some 17) (Nj := some 18) (Nk := some 4) (Nm := some 5) (Sh.nm 12 119) (Sh.nm 12 123) (Sh.nm 12 371) (Sh.nm 12 627) rfl rfl rfl rfl rfl rfl rfl rfl (four_of HT_.out (by kernel_rfl)) (by decide) (by decide) (by decide) (by decide) (fun K hK => ?_) (fun K hK => ?_) (fun K hK => ?_) (fun K hK => ?_)
                                         · skip
                                           refine goes_ Try.func30 (by kernel_rfl) rfl #[.slice A0 N.length c0] (by rfl) rfl rfl (by simp only [List.map_toArray, List.map_cons, List.map_nil]; rfl) ?_
                                           with_reducible refine (impl_parts.calls k _ _ N P _ (Kd.C_below HN.out (below_step HB.out (MK3.b hM.out))) HC.out AP_.out).mono ?_
                                           rintro e w1 ⟨v1, rfl, ho, hb⟩
                                           refine ⟨_, rfl, ?_⟩
                                           have hM2 := am_ (MK3.pa hM.out hb ho)
                                           clear ho hb hM
                                           refine hK.out _ _ ((Sh.bc (blk_below HBG.out (MK3.b hM2.out)) 0 rfl)) (fun hHeld => ?_)
                                           clear hK K
                                           refine norm_ (a' := ?_) ?_ ?_
                                           rotate_left
                                           · show Act.put _ (some 17) _ = _
                                             simp only [Act.put, List.setIfInBounds_toArray, List.set_cons_zero, List.set_cons_succ, i64_w, i32_w]
                                             rfl
                                           exact norm_ (by first | (simp only [putAll, Act.put, List.setIfInBounds_toArray, List.set_cons_zero, List.set_cons_succ]; done) | (simp only [putAll, Act.put, List.setIfInBounds_toArray, List.set_cons_zero, List.set_cons_succ]; rfl)) (hJ2 (v1, vb, vc, b8, b9) _ ⟨hM2.out, hHeld⟩)
                                         · skip
                                           refine Kd.R_lit_step (Kd.int .i64) _ 3 (by rfl) rfl (xs := ([-1] : List Int)) (inner := [.int .i64 (-1)]) (ok := fun _ => True) (okp := fun _ => True) (by first | (go_simp; done) | (go_simp; rfl)) (Reps.one (show Kd.M (Kd.int .i64) _ _ _ (-1) [.int .i64 (-1)] from rfl) (Reps.none _ _)) (fun _ hk => hk) trivial (Below.refl _ _) (Nat.le_refl _) (by simp) ?_
                                           intro v1 w1 ho hb _ _
                                           have hM2 := am_ (MK3.pb hM.out hb ho)
                                           clear ho hb hM
                                           refine hK.out _ _ ((Sh.bc (blk_below HBG.out (MK3.b hM2.out)) 0 rfl)) (fun hHeld => ?_)
                                           clear hK K
                                           refine norm_ (a' := ?_) ?_ ?_
                                           rotate_left
                                           · show Act.put _ (some 18) _ = _
                                             simp only [Act.put, List.setIfInBounds_toArray, List.set_cons_zero, List.set_cons_succ, i64_w, i32_w]
                                             rfl
                                           exact norm_ (by first | (simp only [putAll, Act.put, List.setIfInBounds_toArray, List.set_cons_zero, List.set_cons_succ]; done) | (simp only [putAll, Act.put, List.setIfInBounds_toArray, List.set_cons_zero, List.set_cons_succ]; rfl)) (hJ3 (va, v1, vc, b8, b9) _ ⟨hM2.out, hHeld⟩)
                                         · skip
                                           obtain ⟨g, hg⟩ : ∃ g, g = w'.heap.size := ⟨_, rfl⟩
                                           refine value_ (w1 := w'.alloc (.cells #[.slice none 0 0] 26 (0, 0))) (v := .pointer (some ⟨g, 0, none⟩)) (by rfl) rfl (by rw [hg]; first | (go_simp; done) | (go_simp; rfl)) ?_
                                           have hM2 := am_ (MK3.p8 hM.out hg)
                                           clear hg hM
                                           refine hK.out _ _ ((Sh.bc (blk_below HBG.out (MK3.b hM2.out)) 0 rfl)) (fun hHeld => ?_)
                                           clear hK K
                                           refine norm_ (a' := ?_) ?_ ?_
                                           rotate_left
                                           · show Act.put _ (some 4) _ = _
                                             simp only [Act.put, List.setIfInBounds_toArray, List.set_cons_zero, List.set_cons_succ, i64_w, i32_w]
                                             rfl
                                           exact norm_ (by first | (simp only [putAll, Act.put, List.setIfInBounds_toArray, List.set_cons_zero, List.set_cons_succ]; done) | (simp only [putAll, Act.put, List.setIfInBounds_toArray, List.set_cons_zero, List.set_cons_succ]; rfl)) (hJ8 (va, vb, vc, g, b9) _ ⟨hM2.out, hHeld⟩)
                                         · skip
                                           obtain ⟨g, hg⟩ : ∃ g, g = w'.heap.size := ⟨_, rfl⟩
                                           refine value_ (w1 := w'.alloc (.cells #[.slice none 0 0] 26 (0, 0))) (v := .pointer (some ⟨g, 0, none⟩)) (by rfl) rfl (by rw [hg]; first | (go_simp; done) | (go_simp; rfl)) ?_
                                           have hM2 := am_ (MK3.p9 hM.out hg)
                                           clear hg hM
                                           refine hK.out _ _ ((Sh.bc (blk_below HBG.out (MK3.b hM2.out)) 0 rfl)) (fun hHeld => ?_)
                                           clear hK K
                                           refine norm_ (a' := ?_) ?_ ?_
                                           rotate_left
                                           · show Act.put _ (some 5) _ = _
                                             simp only [Act.put, List.setIfInBounds_toArray, List.set_cons_zero, List.set_cons_succ, i64_w, i32_w]
                                             rfl
                                           exact norm_ (by first | (simp only [putAll, Act.put, List.setIfInBounds_toArray, List.set_cons_zero, List.set_cons_succ]; done) | (simp only [putAll, Act.put, List.setIfInBounds_toArray, List.set_cons_zero, List.set_cons_succ]; rfl)) (hJ9 (va, vb, vc, b8, g) _ ⟨hM2.out, hHeld⟩)
                                       · skip
                                         rintro ⟨va, vb, vc, b8, b9⟩ w' ⟨hM, hHeld⟩
                                         dsimp only at hM
                                         replace hM := am_ hM
                                         refine norm_ (a' := ?_) ?_ ?_
                                         rotate_left
                                         · simp only [putAll, Act.put, List.setIfInBounds_toArray, List.set_cons_zero, List.set_cons_succ]
                                           rfl
                                         refine three_ (i := 2) (j := 3) (k := 8) (Ni := some 17) (Nj := some 18) (Nk := some 4) (Sh.nm 12 631) (Sh.nm 12 635) (Sh.nm 12 883) rfl rfl rfl rfl rfl rfl (three_of HT_.out (by kernel_rfl)) (by decide) (by decide) (by decide) (fun K hK => ?_) (fun K hK => ?_) (fun K hK => ?_)
                                         · skip
                                           refine goes_ Try.func30 (by kernel_rfl) rfl #[.slice A0 N.length c0] (by rfl) rfl rfl (by simp only [List.map_toArray, List.map_cons, List.map_nil]; rfl) ?_
                                           with_reducible refine (impl_parts.calls k _ _ N P _ (Kd.C_below HN.out (below_step HB.out (MK3.b hM.out))) HC.out AP_.out).mono ?_
                                           rintro e w1 ⟨v1, rfl, ho, hb⟩
                                           refine ⟨_, rfl, ?_⟩
                                           have hM2 := am_ (MK3.pa hM.out hb ho)
                                           clear ho hb hM
                                           refine hK.out _ _ ((Sh.bc (blk_below HBG.out (MK3.b hM2.out)) 0 rfl)) (fun hHeld => ?_)
                                           clear hK K
                                           refine norm_ (a' := ?_) ?_ ?_
                                           rotate_left
                                           · show Act.put _ (some 17) _ = _
                                             simp only [Act.put, List.setIfInBounds_toArray, List.set_cons_zero, List.set_cons_succ, i64_w, i32_w]
                                             rfl
                                           exact norm_ (by first | (simp only [putAll, Act.put, List.setIfInBounds_toArray, List.set_cons_zero, List.set_cons_succ]; done) | (simp only [putAll, Act.put, List.setIfInBounds_toArray, List.set_cons_zero, List.set_cons_succ]; rfl)) (hJ2_9 (v1, vb, vc, b8, b9) _ ⟨hM2.out, hHeld⟩)
                                         · skip
                                           refine Kd.R_lit_step (Kd.int .i64) _ 3 (by rfl) rfl (xs := ([-1] : List Int)) (inner := [.int .i64 (-1)]) (ok := fun _ => True) (okp := fun _ => True) (by first | (go_simp; done) | (go_simp; rfl)) (Reps.one (show Kd.M (Kd.int .i64) _ _ _ (-1) [.int .i64 (-1)] from rfl) (Reps.none _ _)) (fun _ hk => hk) trivial (Below.refl _ _) (Nat.le_refl _) (by simp) ?_
                                           intro v1 w1 ho hb _ _
                                           have hM2 := am_ (MK3.pb hM.out hb ho)
                                           clear ho hb hM
                                           refine hK.out _ _ ((Sh.bc (blk_below HBG.out (MK3.b hM2.out)) 0 rfl)) (fun hHeld => ?_)
                                           clear hK K
                                           refine norm_ (a' := ?_) ?_ ?_
                                           rotate_left
                                           · show Act.put _ (some 18) _ = _
                                             simp only [Act.put, List.setIfInBounds_toArray, List.set_cons_zero, List.set_cons_succ, i64_w, i32_w]
                                             rfl
                                           exact norm_ (by first | (simp only [putAll, Act.put, List.setIfInBounds_toArray, List.set_cons_zero, List.set_cons_succ]; done) | (simp only [putAll, Act.put, List.setIfInBounds_toArray, List.set_cons_zero, List.set_cons_succ]; rfl)) (hJ3_9 (va, v1, vc, b8, b9) _ ⟨hM2.out, hHeld⟩)
                                         · skip
                                           obtain ⟨g, hg⟩ : ∃ g, g = w'.heap.size := ⟨_, rfl⟩
                                           refine value_ (w1 := w'.alloc (.cells #[.slice none 0 0] 26 (0, 0))) (v := .pointer (some ⟨g, 0, none⟩)) (by rfl) rfl (by rw [hg]; first | (go_simp; done) | (go_simp; rfl)) ?_
                                           have hM2 := am_ (MK3.p8 hM.out hg)
                                           clear hg hM
                                           refine hK.out _ _ ((Sh.bc (blk_below HBG.out (MK3.b hM2.out)) 0 rfl)) (fun hHeld => ?_)
                                           clear hK K
                                           refine norm_ (a' := ?_) ?_ ?_
                                           rotate_left
                                           · show Act.put _ (some 4) _ = _
                                             simp only [Act.put, List.setIfInBounds_toArray, List.set_cons_zero, List.set_cons_succ, i64_w, i32_w]
                                             rfl
                                           exact norm_ (by first | (simp only [putAll, Act.put, List.setIfInBounds_toArray, List.set_cons_zero, List.set_cons_succ]; done) | (simp only [putAll, Act.put, List.setIfInBounds_toArray, List.set_cons_zero, List.set_cons_succ]; rfl)) (hJ8_9 (va, vb, vc, g, b9) _ ⟨hM2.out, hHeld⟩)
                                     · skip
                                       rintro ⟨va, vb, vc, b8, b9⟩ w' ⟨hM, hHeld⟩
                                       dsimp only at hM
                                       replace hM := am_ hM
                                       refine norm_ (a' := ?_) ?_ ?_
                                       rotate_left
                                       · simp only [putAll, Act.put, List.setIfInBounds_toArray, List.set_cons_zero, List.set_cons_succ]
                                         rfl
                                       refine three_ (i := 2) (j := 3) (k := 9) (Ni := some 17) (Nj := some 18) (Nk := some 5) (Sh.nm 12 375) (Sh.nm 12 379) (Sh.nm 12 883) rfl rfl rfl rfl rfl rfl (three_of HT_.out (by kernel_rfl)) (by decide) (by decide) (by decide) (fun K hK => ?_) (fun K hK => ?_) (fun K hK => ?_)
                                       · skip
                                         refine goes_ Try.func30 (by kernel_rfl) rfl #[.slice A0 N.length c0] (by rfl) rfl rfl (by simp only [List.map_toArray, List.map_cons, List.map_nil]; rfl) ?_
                                         with_reducible refine (impl_parts.calls k _ _ N P _ (Kd.C_below HN.out (below_step HB.out (MK3.b hM.out))) HC.out AP_.out).mono ?_
                                         rintro e w1 ⟨v1, rfl, ho, hb⟩
                                         refine ⟨_, rfl, ?_⟩
                                         have hM2 := am_ (MK3.pa hM.out hb ho)
                                         clear ho hb hM
                                         refine hK.out _ _ ((Sh.bc (blk_below HBG.out (MK3.b hM2.out)) 0 rfl)) (fun hHeld => ?_)
                                         clear hK K
                                         refine norm_ (a' := ?_) ?_ ?_
                                         rotate_left
                                         · show Act.put _ (some 17) _ = _
                                           simp only [Act.put, List.setIfInBounds_toArray, List.set_cons_zero, List.set_cons_succ, i64_w, i32_w]
                                           rfl
                                         exact norm_ (by first | (simp only [putAll, Act.put, List.setIfInBounds_toArray, List.set_cons_zero, List.set_cons_succ]; done) | (simp only [putAll, Act.put, List.setIfInBounds_toArray, List.set_cons_zero, List.set_cons_succ]; rfl)) (hJ2_8 (v1, vb, vc, b8, b9) _ ⟨hM2.out, hHeld⟩)
                                       · skip
                                         refine Kd.R_lit_step (Kd.int .i64) _ 3 (by rfl) rfl (xs := ([-1] : List Int)) (inner := [.int .i64 (-1)]) (ok := fun _ => True) (okp := fun _ => True) (by first | (go_simp; done) | (go_simp; rfl)) (Reps.one (show Kd.M (Kd.int .i64) _ _ _ (-1) [.int .i64 (-1)] from rfl) (Reps.none _ _)) (fun _ hk => hk) trivial (Below.refl _ _) (Nat.le_refl _) (by simp) ?_
                                         intro v1 w1 ho hb _ _
                                         have hM2 := am_ (MK3.pb hM.out hb ho)
                                         clear ho hb hM
                                         refine hK.out _ _ ((Sh.bc (blk_below HBG.out (MK3.b hM2.out)) 0 rfl)) (fun hHeld => ?_)
                                         clear hK K
                                         refine norm_ (a' := ?_) ?_ ?_
                                         rotate_left
                                         · show Act.put _ (some 18) _ = _
                                           simp only [Act.put, List.setIfInBounds_toArray, List.set_cons_zero, List.set_cons_succ, i64_w, i32_w]
                                           rfl
                                         exact norm_ (by first | (simp only [putAll, Act.put, List.setIfInBounds_toArray, List.set_cons_zero, List.set_cons_succ]; done) | (simp only [putAll, Act.put, List.setIfInBounds_toArray, List.set_cons_zero, List.set_cons_succ]; rfl)) (hJ3_8 (va, v1, vc, b8, b9) _ ⟨hM2.out, hHeld⟩)
                                       · skip
                                         obtain ⟨g, hg⟩ : ∃ g, g = w'.heap.size := ⟨_, rfl⟩
                                         refine value_ (w1 := w'.alloc (.cells #[.slice none 0 0] 26 (0, 0))) (v := .pointer (some ⟨g, 0, none⟩)) (by rfl) rfl (by rw [hg]; first | (go_simp; done) | (go_simp; rfl)) ?_
                                         have hM2 := am_ (MK3.p9 hM.out hg)
                                         clear hg hM
                                         refine hK.out _ _ ((Sh.bc (blk_below HBG.out (MK3.b hM2.out)) 0 rfl)) (fun hHeld => ?_)
                                         clear hK K
                                         refine norm_ (a' := ?_) ?_ ?_
                                         rotate_left
                                         · show Act.put _ (some 5) _ = _
                                           simp only [Act.put, List.setIfInBounds_toArray, List.set_cons_zero, List.set_cons_succ, i64_w, i32_w]
                                           rfl
                                         exact norm_ (by first | (simp only [putAll, Act.put, List.setIfInBounds_toArray, List.set_cons_zero, List.set_cons_succ]; done) | (simp only [putAll, Act.put, List.setIfInBounds_toArray, List.set_cons_zero, List.set_cons_succ]; rfl)) (hJ8_9 (va, vb, vc, b8, g) _ ⟨hM2.out, hHeld⟩)
                                   · skip
                                     rintro ⟨va, vb, vc, b8, b9⟩ w' ⟨hM, hHeld⟩
                                     dsimp only at hM
                                     replace hM := am_ hM
                                     refine norm_ (a' := ?_) ?_ ?_
                                     rotate_left
                                     · simp only [putAll, Act.put, List.setIfInBounds_toArray, List.set_cons_zero, List.set_cons_succ]
                                       rfl
                                     refine three_ (i := 2) (j := 8) (k := 9) (Ni := some 17) (Nj := some 4) (Nk := some 5) (Sh.nm 12 127) (Sh.nm 12 379) (Sh.nm 12 635) rfl rfl rfl rfl rfl rfl (three_of HT_.out (by kernel_rfl)) (by decide) (by decide) (by decide) (fun K hK => ?_) (fun K hK => ?_) (fun K hK => ?_)
                                     · skip
                                       refine goes_ Try.func30 (by kernel_rfl) rfl #[.slice A0 N.length c0] (by rfl) rfl rfl (by simp only [List.map_toArray, List.map_cons, List.map_nil]; rfl) ?_
                                       with_reducible refine (impl_parts.calls k _ _ N P _ (Kd.C_below HN.out (below_step HB.out (MK3.b hM.out))) HC.out AP_.out).mono ?_
                                       rintro e w1 ⟨v1, rfl, ho, hb⟩
                                       refine ⟨_, rfl, ?_⟩
                                       have hM2 := am_ (MK3.pa hM.out hb ho)
                                       clear ho hb hM
                                       refine hK.out _ _ ((Sh.bc (blk_below HBG.out (MK3.b hM2.out)) 0 rfl)) (fun hHeld => ?_)
                                       clear hK K
                                       refine norm_ (a' := ?_) ?_ ?_
                                       rotate_left
                                       · show Act.put _ (some 17) _ = _
                                         simp only [Act.put, List.setIfInBounds_toArray, List.set_cons_zero, List.set_cons_succ, i64_w, i32_w]
                                         rfl
                                       exact norm_ (by first | (simp only [putAll, Act.put, List.setIfInBounds_toArray, List.set_cons_zero, List.set_cons_succ]; done) | (simp only [putAll, Act.put, List.setIfInBounds_toArray, List.set_cons_zero, List.set_cons_succ]; rfl)) (hJ2_3 (v1, vb, vc, b8, b9) _ ⟨hM2.out, hHeld⟩)
                                     · skip
                                       obtain ⟨g, hg⟩ : ∃ g, g = w'.heap.size := ⟨_, rfl⟩
                                       refine value_ (w1 := w'.alloc (.cells #[.slice none 0 0] 26 (0, 0))) (v := .pointer (some ⟨g, 0, none⟩)) (by rfl) rfl (by rw [hg]; first | (go_simp; done) | (go_simp; rfl)) ?_
                                       have hM2 := am_ (MK3.p8 hM.out hg)
                                       clear hg hM
                                       refine hK.out _ _ ((Sh.bc (blk_below HBG.out (MK3.b hM2.out)) 0 rfl)) (fun hHeld => ?_)
                                       clear hK K
                                       refine norm_ (a' := ?_) ?_ ?_
                                       rotate_left
                                       · show Act.put _ (some 4) _ = _
                                         simp only [Act.put, List.setIfInBounds_toArray, List.set_cons_zero, List.set_cons_succ, i64_w, i32_w]
                                         rfl
                                       exact norm_ (by first | (simp only [putAll, Act.put, List.setIfInBounds_toArray, List.set_cons_zero, List.set_cons_succ]; done) | (simp only [putAll, Act.put, List.setIfInBounds_toArray, List.set_cons_zero, List.set_cons_succ]; rfl)) (hJ3_8 (va, vb, vc, g, b9) _ ⟨hM2.out, hHeld⟩)
                                     · skip
                                       obtain ⟨g, hg⟩ : ∃ g, g = w'.heap.size := ⟨_, rfl⟩
                                       refine value_ (w1 := w'.alloc (.cells #[.slice none 0 0] 26 (0, 0))) (v := .pointer (some ⟨g, 0, none⟩)) (by rfl) rfl (by rw [hg]; first | (go_simp; done) | (go_simp; rfl)) ?_
                                       have hM2 := am_ (MK3.p9 hM.out hg)
                                       clear hg hM
                                       refine hK.out _ _ ((Sh.bc (blk_below HBG.out (MK3.b hM2.out)) 0 rfl)) (fun hHeld => ?_)
                                       clear hK K
                                       refine norm_ (a' := ?_) ?_ ?_
                                       rotate_left
                                       · show Act.put _ (some 5) _ = _
                                         simp only [Act.put, List.setIfInBounds_toArray, List.set_cons_zero, List.set_cons_succ, i64_w, i32_w]
                                         rfl
                                       exact norm_ (by first | (simp only [putAll, Act.put, List.setIfInBounds_toArray, List.set_cons_zero, List.set_cons_succ]; done) | (simp only [putAll, Act.put, List.setIfInBounds_toArray, List.set_cons_zero, List.set_cons_succ]; rfl)) (hJ3_9 (va, vb, vc, b8, g) _ ⟨hM2.out, hHeld⟩)
                                 · skip
                                   rintro ⟨va, vb, vc, b8, b9⟩ w' ⟨hM, hHeld⟩
                                   dsimp only at hM
                                   replace hM := am_ hM
                                   refine norm_ (a' := ?_) ?_ ?_
                                   rotate_left
                                   · simp only [putAll, Act.put, List.setIfInBounds_toArray, List.set_cons_zero, List.set_cons_succ]
                                     rfl
                                   refine three_ (i := 3) (j := 8) (k := 9) (Ni := some 18) (Nj := some 4) (Nk := some 5) (Sh.nm 12 127) (Sh.nm 12 375) (Sh.nm 12 631) rfl rfl rfl rfl rfl rfl (three_of HT_.out (by kernel_rfl)) (by decide) (by decide) (by decide) (fun K hK => ?_) (fun K hK => ?_) (fun K hK => ?_)
                                   · skip
                                     refine Kd.R_lit_step (Kd.int .i64) _ 3 (by rfl) rfl (xs := ([-1] : List Int)) (inner := [.int .i64 (-1)]) (ok := fun _ => True) (okp := fun _ => True) (by first | (go_simp; done) | (go_simp; rfl)) (Reps.one (show Kd.M (Kd.int .i64) _ _ _ (-1) [.int .i64 (-1)] from rfl) (Reps.none _ _)) (fun _ hk => hk) trivial (Below.refl _ _) (Nat.le_refl _) (by simp) ?_
                                     intro v1 w1 ho hb _ _
                                     have hM2 := am_ (MK3.pb hM.out hb ho)
                                     clear ho hb hM
                                     refine hK.out _ _ ((Sh.bc (blk_below HBG.out (MK3.b hM2.out)) 0 rfl)) (fun hHeld => ?_)
                                     clear hK K
                                     refine norm_ (a' := ?_) ?_ ?_
                                     rotate_left
                                     · show Act.put _ (some 18) _ = _
                                       simp only [Act.put, List.setIfInBounds_toArray, List.set_cons_zero, List.set_cons_succ, i64_w, i32_w]
                                       rfl
                                     exact norm_ (by first | (simp only [putAll, Act.put, List.setIfInBounds_toArray, List.set_cons_zero, List.set_cons_succ]; done) | (simp only [putAll, Act.put, List.setIfInBounds_toArray, List.set_cons_zero, List.set_cons_succ]; rfl)) (hJ2_3 (va, v1, vc, b8, b9) _ ⟨hM2.out, hHeld⟩)
                                   · skip
                                     obtain ⟨g, hg⟩ : ∃ g, g = w'.heap.size := ⟨_, rfl⟩
                                     refine value_ (w1 := w'.alloc (.cells #[.slice none 0 0] 26 (0, 0))) (v := .pointer (some ⟨g, 0, none⟩)) (by rfl) rfl (by rw [hg]; first | (go_simp; done) | (go_simp; rfl)) ?_
                                     have hM2 := am_ (MK3.p8 hM.out hg)
                                     clear hg hM
                                     refine hK.out _ _ ((Sh.bc (blk_below HBG.out (MK3.b hM2.out)) 0 rfl)) (fun hHeld => ?_)
                                     clear hK K
                                     refine norm_ (a' := ?_) ?_ ?_
                                     rotate_left
                                     · show Act.put _ (some 4) _ = _
                                       simp only [Act.put, List.setIfInBounds_toArray, List.set_cons_zero, List.set_cons_succ, i64_w, i32_w]
                                       rfl
                                     exact norm_ (by first | (simp only [putAll, Act.put, List.setIfInBounds_toArray, List.set_cons_zero, List.set_cons_succ]; done) | (simp only [putAll, Act.put, List.setIfInBounds_toArray, List.set_cons_zero, List.set_cons_succ]; rfl)) (hJ2_8 (va, vb, vc, g, b9) _ ⟨hM2.out, hHeld⟩)
                                   · skip
                                     obtain ⟨g, hg⟩ : ∃ g, g = w'.heap.size := ⟨_, rfl⟩
                                     refine value_ (w1 := w'.alloc (.cells #[.slice none 0 0] 26 (0, 0))) (v := .pointer (some ⟨g, 0, none⟩)) (by rfl) rfl (by rw [hg]; first | (go_simp; done) | (go_simp; rfl)) ?_
                                     have hM2 := am_ (MK3.p9 hM.out hg)
                                     clear hg hM
                                     refine hK.out _ _ ((Sh.bc (blk_below HBG.out (MK3.b hM2.out)) 0 rfl)) (fun hHeld => ?_)
                                     clear hK K
                                     refine norm_ (a' := ?_) ?_ ?_
                                     rotate_left
                                     · show Act.put _ (some 5) _ = _
                                       simp only [Act.put, List.setIfInBounds_toArray, List.set_cons_zero, List.set_cons_succ, i64_w, i32_w]
                                       rfl
                                     exact norm_ (by first | (simp only [putAll, Act.put, List.setIfInBounds_toArray, List.set_cons_zero, List.set_cons_succ]; done) | (simp only [putAll, Act.put, List.setIfInBounds_toArray, List.set_cons_zero, List.set_cons_succ]; rfl)) (hJ2_9 (va, vb, vc, b8, g) _ ⟨hM2.out, hHeld⟩)
                               · skip
                                 rintro ⟨va, vb, vc, b8, b9⟩ w' ⟨hM, hHeld⟩
                                 dsimp only at hM
                                 replace hM := am_ hM
                                 refine norm_ (a' := ?_) ?_ ?_
                                 rotate_left
                                 · simp only [putAll, Act.put, List.setIfInBounds_toArray, List.set_cons_zero, List.set_cons_succ]
                                   rfl
                                 refine two_ (i := 2) (j := 3) (Ni := some 17) (Nj := some 18) (Sh.nm 12 887) (Sh.nm 12 891) rfl rfl rfl rfl (two_of HT_.out (by kernel_rfl)) (by decide) (by decide) (fun K hK => ?_) (fun K hK => ?_)
                                 · skip
                                   refine goes_ Try.func30 (by kernel_rfl) rfl #[.slice A0 N.length c0] (by rfl) rfl rfl (by simp only [List.map_toArray, List.map_cons, List.map_nil]; rfl) ?_
                                   with_reducible refine (impl_parts.calls k _ _ N P _ (Kd.C_below HN.out (below_step HB.out (MK3.b hM.out))) HC.out AP_.out).mono ?_
                                   rintro e w1 ⟨v1, rfl, ho, hb⟩
                                   refine ⟨_, rfl, ?_⟩
                                   have hM2 := am_ (MK3.pa hM.out hb ho)
                                   clear ho hb hM
                                   refine hK.out _ _ ((Sh.bc (blk_below HBG.out (MK3.b hM2.out)) 0 rfl)) (fun hHeld => ?_)
                                   clear hK K
                                   refine norm_ (a' := ?_) ?_ ?_
                                   rotate_left
                                   · show Act.put _ (some 17) _ = _
                                     simp only [Act.put, List.setIfInBounds_toArray, List.set_cons_zero, List.set_cons_succ, i64_w, i32_w]
                                     rfl
                                   exact norm_ (by first | (simp only [putAll, Act.put, List.setIfInBounds_toArray, List.set_cons_zero, List.set_cons_succ]; done) | (simp only [putAll, Act.put, List.setIfInBounds_toArray, List.set_cons_zero, List.set_cons_succ]; rfl)) (hJ2_8_9 (v1, vb, vc, b8, b9) _ ⟨hM2.out, hHeld⟩)
                                 · skip
                                   refine Kd.R_lit_step (Kd.int .i64) _ 3 (by rfl) rfl (xs := ([-1] : List Int)) (inner := [.int .i64 (-1)]) (ok := fun _ => True) (okp := fun _ => True) (by first | (go_simp; done) | (go_simp; rfl)) (Reps.one (show Kd.M (Kd.int .i64) _ _ _ (-1) [.int .i64 (-1)] from rfl) (Reps.none _ _)) (fun _ hk => hk) trivial (Below.refl _ _) (Nat.le_refl _) (by simp) ?_
                                   intro v1 w1 ho hb _ _
                                   have hM2 := am_ (MK3.pb hM.out hb ho)
                                   clear ho hb hM
                                   refine hK.out _ _ ((Sh.bc (blk_below HBG.out (MK3.b hM2.out)) 0 rfl)) (fun hHeld => ?_)
                                   clear hK K
                                   refine norm_ (a' := ?_) ?_ ?_
                                   rotate_left
                                   · show Act.put _ (some 18) _ = _
                                     simp only [Act.put, List.setIfInBounds_toArray, List.set_cons_zero, List.set_cons_succ, i64_w, i32_w]
                                     rfl
                                   exact norm_ (by first | (simp only [putAll, Act.put, List.setIfInBounds_toArray, List.set_cons_zero, List.set_cons_succ]; done) | (simp only [putAll, Act.put, List.setIfInBounds_toArray, List.set_cons_zero, List.set_cons_succ]; rfl)) (hJ3_8_9 (va, v1, vc, b8, b9) _ ⟨hM2.out, hHeld⟩)
                             · skip
                               rintro ⟨va, vb, vc, b8, b9⟩ w' ⟨hM, hHeld⟩
                               dsimp only at hM
                               replace hM := am_ hM
                               refine norm_ (a' := ?_) ?_ ?_
                               rotate_left
                               · simp only [putAll, Act.put, List.setIfInBounds_toArray, List.set_cons_zero, List.set_cons_succ]
                                 rfl
                               refine two_ (i := 2) (j := 8) (Ni := some 17) (Nj := some 4) (Sh.nm 12 639) (Sh.nm 12 891) rfl rfl rfl rfl (two_of HT_.out (by kernel_rfl)) (by decide) (by decide) (fun K hK => ?_) (fun K hK => ?_)
                               · skip
                                 refine goes_ Try.func30 (by kernel_rfl) rfl #[.slice A0 N.length c0] (by rfl) rfl rfl (by simp only [List.map_toArray, List.map_cons, List.map_nil]; rfl) ?_
                                 with_reducible refine (impl_parts.calls k _ _ N P _ (Kd.C_below HN.out (below_step HB.out (MK3.b hM.out))) HC.out AP_.out).mono ?_
                                 rintro e w1 ⟨v1, rfl, ho, hb⟩
                                 refine ⟨_, rfl, ?_⟩
                                 have hM2 := am_ (MK3.pa hM.out hb ho)
                                 clear ho hb hM
                                 refine hK.out _ _ ((Sh.bc (blk_below HBG.out (MK3.b hM2.out)) 0 rfl)) (fun hHeld => ?_)
                                 clear hK K
                                 refine norm_ (a' := ?_) ?_ ?_
                                 rotate_left
                                 · show Act.put _ (some 17) _ = _
                                   simp only [Act.put, List.setIfInBounds_toArray, List.set_cons_zero, List.set_cons_succ, i64_w, i32_w]
                                   rfl
                                 exact norm_ (by first | (simp only [putAll, Act.put, List.setIfInBounds_toArray, List.set_cons_zero, List.set_cons_succ]; done) | (simp only [putAll, Act.put, List.setIfInBounds_toArray, List.set_cons_zero, List.set_cons_succ]; rfl)) (hJ2_3_9 (v1, vb, vc, b8, b9) _ ⟨hM2.out, hHeld⟩)
                               · skip
                                 obtain ⟨g, hg⟩ : ∃ g, g = w'.heap.size := ⟨_, rfl⟩
                                 refine value_ (w1 := w'.alloc (.cells #[.slice none 0 0] 26 (0, 0))) (v := .pointer (some ⟨g, 0, none⟩)) (by rfl) rfl (by rw [hg]; first | (go_simp; done) | (go_simp; rfl)) ?_
                                 have hM2 := am_ (MK3.p8 hM.out hg)
                                 clear hg hM
                                 refine hK.out _ _ ((Sh.bc (blk_below HBG.out (MK3.b hM2.out)) 0 rfl)) (fun hHeld => ?_)
                                 clear hK K
                                 refine norm_ (a' := ?_) ?_ ?_
                                 rotate_left
                                 · show Act.put _ (some 4) _ = _
                                   simp only [Act.put, List.setIfInBounds_toArray, List.set_cons_zero, List.set_cons_succ, i64_w, i32_w]
                                   rfl
                                 exact norm_ (by first | (simp only [putAll, Act.put, List.setIfInBounds_toArray, List.set_cons_zero, List.set_cons_succ]; done) | (simp only [putAll, Act.put, List.setIfInBounds_toArray, List.set_cons_zero, List.set_cons_succ]; rfl)) (hJ3_8_9 (va, vb, vc, g, b9) _ ⟨hM2.out, hHeld⟩)
                           · skip
                             rintro ⟨va, vb, vc, b8, b9⟩ w' ⟨hM, hHeld⟩
                             dsimp only at hM
                             replace hM := am_ hM
                             refine norm_ (a' := ?_) ?_ ?_
                             rotate_left
                             · simp only [putAll, Act.put, List.setIfInBounds_toArray, List.set_cons_zero, List.set_cons_succ]
                               rfl
                             refine two_ (i := 2) (j := 9) (Ni := some 17) (Nj := some 5) (Sh.nm 12 383) (Sh.nm 12 891) rfl rfl rfl rfl (two_of HT_.out (by kernel_rfl)) (by decide) (by decide) (fun K hK => ?_) (fun K hK => ?_)
                             · skip
                               refine goes_ Try.func30 (by kernel_rfl) rfl #[.slice A0 N.length c0] (by rfl) rfl rfl (by simp only [List.map_toArray, List.map_cons, List.map_nil]; rfl) ?_
                               with_reducible refine (impl_parts.calls k _ _ N P _ (Kd.C_below HN.out (below_step HB.out (MK3.b hM.out))) HC.out AP_.out).mono ?_
                               rintro e w1 ⟨v1, rfl, ho, hb⟩
                               refine ⟨_, rfl, ?_⟩
                               have hM2 := am_ (MK3.pa hM.out hb ho)
                               clear ho hb hM
                               refine hK.out _ _ ((Sh.bc (blk_below HBG.out (MK3.b hM2.out)) 0 rfl)) (fun hHeld => ?_)
                               clear hK K
                               refine norm_ (a' := ?_) ?_ ?_
                               rotate_left
                               · show Act.put _ (some 17) _ = _
                                 simp only [Act.put, List.setIfInBounds_toArray, List.set_cons_zero, List.set_cons_succ, i64_w, i32_w]
                                 rfl
                               exact norm_ (by first | (simp only [putAll, Act.put, List.setIfInBounds_toArray, List.set_cons_zero, List.set_cons_succ]; done) | (simp only [putAll, Act.put, List.setIfInBounds_toArray, List.set_cons_zero, List.set_cons_succ]; rfl)) (hJ2_3_8 (v1, vb, vc, b8, b9) _ ⟨hM2.out, hHeld⟩)
                             · skip
                               obtain ⟨g, hg⟩ : ∃ g, g = w'.heap.size := ⟨_, rfl⟩
                               refine value_ (w1 := w'.alloc (.cells #[.slice none 0 0] 26 (0, 0))) (v := .pointer (some ⟨g, 0, none⟩)) (by rfl) rfl (by rw [hg]; first | (go_simp; done) | (go_simp; rfl)) ?_
                               have hM2 := am_ (MK3.p9 hM.out hg)
                               clear hg hM
                               refine hK.out _ _ ((Sh.bc (blk_below HBG.out (MK3.b hM2.out)) 0 rfl)) (fun hHeld => ?_)
                               clear hK K
                               refine norm_ (a' := ?_) ?_ ?_
                               rotate_left
                               · show Act.put _ (some 5) _ = _
                                 simp only [Act.put, List.setIfInBounds_toArray, List.set_cons_zero, List.set_cons_succ, i64_w, i32_w]
                                 rfl
                               exact norm_ (by first | (simp only [putAll, Act.put, List.setIfInBounds_toArray, List.set_cons_zero, List.set_cons_succ]; done) | (simp only [putAll, Act.put, List.setIfInBounds_toArray, List.set_cons_zero, List.set_cons_succ]; rfl)) (hJ3_8_9 (va, vb, vc, b8, g) _ ⟨hM2.out, hHeld⟩)
                         · skip
                           rintro ⟨va, vb, vc, b8, b9⟩ w' ⟨hM, hHeld⟩
                           dsimp only at hM
                           replace hM := am_ hM
                           refine norm_ (a' := ?_) ?_ ?_
                           rotate_left
                           · simp only [putAll, Act.put, List.setIfInBounds_toArray, List.set_cons_zero, List.set_cons_succ]
                             rfl
                           refine two_ (i := 3) (j := 8) (Ni := some 18) (Nj := some 4) (Sh.nm 12 639) (Sh.nm 12 887) rfl rfl rfl rfl (two_of HT_.out (by kernel_rfl)) (by decide) (by decide) (fun K hK => ?_) (fun K hK => ?_)
                           · skip
                             refine Kd.R_lit_step (Kd.int .i64) _ 3 (by rfl) rfl (xs := ([-1] : List Int)) (inner := [.int .i64 (-1)]) (ok := fun _ => True) (okp := fun _ => True) (by first | (go_simp; done) | (go_simp; rfl)) (Reps.one (show Kd.M (Kd.int .i64) _ _ _ (-1) [.int .i64 (-1)] from rfl) (Reps.none _ _)) (fun _ hk => hk) trivial (Below.refl _ _) (Nat.le_refl _) (by simp) ?_
                             intro v1 w1 ho hb _ _
                             have hM2 := am_ (MK3.pb hM.out hb ho)
                             clear ho hb hM
                             refine hK.out _ _ ((Sh.bc (blk_below HBG.out (MK3.b hM2.out)) 0 rfl)) (fun hHeld => ?_)
                             clear hK K
                             refine norm_ (a' := ?_) ?_ ?_
                             rotate_left
                             · show Act.put _ (some 18) _ = _
                               simp only [Act.put, List.setIfInBounds_toArray, List.set_cons_zero, List.set_cons_succ, i64_w, i32_w]
                               rfl
                             exact norm_ (by first | (simp only [putAll, Act.put, List.setIfInBounds_toArray, List.set_cons_zero, List.set_cons_succ]; done) | (simp only [putAll, Act.put, List.setIfInBounds_toArray, List.set_cons_zero, List.set_cons_succ]; rfl)) (hJ2_3_9 (va, v1, vc, b8, b9) _ ⟨hM2.out, hHeld⟩)
                           · skip
                             obtain ⟨g, hg⟩ : ∃ g, g = w'.heap.size := ⟨_, rfl⟩
                             refine value_ (w1 := w'.alloc (.cells #[.slice none 0 0] 26 (0, 0))) (v := .pointer (some ⟨g, 0, none⟩)) (by rfl) rfl (by rw [hg]; first | (go_simp; done) | (go_simp; rfl)) ?_
                             have hM2 := am_ (MK3.p8 hM.out hg)
                             clear hg hM
                             refine hK.out _ _ ((Sh.bc (blk_below HBG.out (MK3.b hM2.out)) 0 rfl)) (fun hHeld => ?_)
                             clear hK K
                             refine norm_ (a' := ?_) ?_ ?_
                             rotate_left
                             · show Act.put _ (some 4) _ = _
                               simp only [Act.put, List.setIfInBounds_toArray, List.set_cons_zero, List.set_cons_succ, i64_w, i32_w]
                               rfl
                             exact norm_ (by first | (simp only [putAll, Act.put, List.setIfInBounds_toArray, List.set_cons_zero, List.set_cons_succ]; done) | (simp only [putAll, Act.put, List.setIfInBounds_toArray, List.set_cons_zero, List.set_cons_succ]; rfl)) (hJ2_8_9 (va, vb, vc, g, b9) _ ⟨hM2.out, hHeld⟩)
                       · skip
                         rintro ⟨va, vb, vc, b8, b9⟩ w' ⟨hM, hHeld⟩
                         dsimp only at hM
                         replace hM := am_ hM
                         refine norm_ (a' := ?_) ?_ ?_
                         rotate_left
                         · simp only [putAll, Act.put, List.setIfInBounds_toArray, List.set_cons_zero, List.set_cons_succ]
                           rfl
                         refine two_ (i := 3) (j := 9) (Ni := some 18) (Nj := some 5) (Sh.nm 12 383) (Sh.nm 12 887) rfl rfl rfl rfl (two_of HT_.out (by kernel_rfl)) (by decide) (by decide) (fun K hK => ?_) (fun K hK => ?_)
                         · skip
                           refine Kd.R_lit_step (Kd.int .i64) _ 3 (by rfl) rfl (xs := ([-1] : List Int)) (inner := [.int .i64 (-1)]) (ok := fun _ => True) (okp := fun _ => True) (by first | (go_simp; done) | (go_simp; rfl)) (Reps.one (show Kd.M (Kd.int .i64) _ _ _ (-1) [.int .i64 (-1)] from rfl) (Reps.none _ _)) (fun _ hk => hk) trivial (Below.refl _ _) (Nat.le_refl _) (by simp) ?_
                           intro v1 w1 ho hb _ _
                           have hM2 := am_ (MK3.pb hM.out hb ho)
                           clear ho hb hM
                           refine hK.out _ _ ((Sh.bc (blk_below HBG.out (MK3.b hM2.out)) 0 rfl)) (fun hHeld => ?_)
                           clear hK K
                           refine norm_ (a' := ?_) ?_ ?_
                           rotate_left
                           · show Act.put _ (some 18) _ = _
                             simp only [Act.put, List.setIfInBounds_toArray, List.set_cons_zero, List.set_cons_succ, i64_w, i32_w]
                             rfl
                           exact norm_ (by first | (simp only [putAll, Act.put, List.setIfInBounds_toArray, List.set_cons_zero, List.set_cons_succ]; done) | (simp only [putAll, Act.put, List.setIfInBounds_toArray, List.set_cons_zero, List.set_cons_succ]; rfl)) (hJ2_3_8 (va, v1, vc, b8, b9) _ ⟨hM2.out, hHeld⟩)
                         · skip
                           obtain ⟨g, hg⟩ : ∃ g, g = w'.heap.size := ⟨_, rfl⟩
                           refine value_ (w1 := w'.alloc (.cells #[.slice none 0 0] 26 (0, 0))) (v := .pointer (some ⟨g, 0, none⟩)) (by rfl) rfl (by rw [hg]; first | (go_simp; done) | (go_simp; rfl)) ?_
                           have hM2 := am_ (MK3.p9 hM.out hg)
                           clear hg hM
                           refine hK.out _ _ ((Sh.bc (blk_below HBG.out (MK3.b hM2.out)) 0 rfl)) (fun hHeld => ?_)
                           clear hK K
                           refine norm_ (a' := ?_) ?_ ?_
                           rotate_left
                           · show Act.put _ (some 5) _ = _
                             simp only [Act.put, List.setIfInBounds_toArray, List.set_cons_zero, List.set_cons_succ, i64_w, i32_w]
                             rfl
                           exact norm_ (by first | (simp only [putAll, Act.put, List.setIfInBounds_toArray, List.set_cons_zero, List.set_cons_succ]; done) | (simp only [putAll, Act.put, List.setIfInBounds_toArray, List.set_cons_zero, List.set_cons_succ]; rfl)) (hJ2_8_9 (va, vb, vc, b8, g) _ ⟨hM2.out, hHeld⟩)
                     · skip
                       rintro ⟨va, vb, vc, b8, b9⟩ w' ⟨hM, hHeld⟩
                       dsimp only at hM
                       replace hM := am_ hM
                       refine norm_ (a' := ?_) ?_ ?_
                       rotate_left
                       · simp only [putAll, Act.put, List.setIfInBounds_toArray, List.set_cons_zero, List.set_cons_succ]
                         rfl
                       refine three_ (i := 7) (j := 8) (k := 9) (Ni := some 22) (Nj := some 4) (Nk := some 5) (Sh.nm 12 255) (Sh.nm 12 383) (Sh.nm 12 639) rfl rfl rfl rfl rfl rfl (three_of HT_.out (by kernel_rfl)) (by decide) (by decide) (by decide) (fun K hK => ?_) (fun K hK => ?_) (fun K hK => ?_)
                       · skip
                         have hC := hM.out.2.2.1 rfl
                         obtain ⟨A5, c5, e5⟩ := Kd.R_slice hC
                         subst e5
                         refine goes_ Try.func32 (by kernel_rfl) rfl #[.slice A5 ([-1] : List Int).length c5, .int .i64 (N.length : Int)] (by rfl) rfl rfl (by simp only [List.map_toArray, List.map_cons, List.map_nil]; rfl) ?_
                         with_reducible refine (slices_Repeat_int_int.calls _ _ _ _ (List.replicate N.length (-1)) _ (Kd.R_reads' hC).2.2 (Kd.R_reads' hC).2.1 hrep).mono ?_
                         rintro e w1 ⟨v1, rfl, ho, hb⟩
                         refine ⟨_, rfl, ?_⟩
                         have hM2 := am_ (MK3.pc hM.out hb ho)
                         clear ho hb hM hC
                         refine hK.out _ _ ((Sh.bc (blk_below HBG.out (MK3.b hM2.out)) 0 rfl)) (fun hHeld => ?_)
                         clear hK K
                         refine norm_ (a' := ?_) ?_ ?_
                         rotate_left
                         · show Act.put _ (some 22) _ = _
                           simp only [Act.put, List.setIfInBounds_toArray, List.set_cons_zero, List.set_cons_succ, i64_w, i32_w]
                           rfl
                         exact norm_ (by first | (simp only [putAll, Act.put, List.setIfInBounds_toArray, List.set_cons_zero, List.set_cons_succ]; done) | (simp only [putAll, Act.put, List.setIfInBounds_toArray, List.set_cons_zero, List.set_cons_succ]; rfl)) (hJ2_3_7 (va, (.slice A5 ([-1] : List Int).length c5), v1, b8, b9) _ ⟨hM2.out, hHeld⟩)
                       · skip
                         obtain ⟨g, hg⟩ : ∃ g, g = w'.heap.size := ⟨_, rfl⟩
                         refine value_ (w1 := w'.alloc (.cells #[.slice none 0 0] 26 (0, 0))) (v := .pointer (some ⟨g, 0, none⟩)) (by rfl) rfl (by rw [hg]; first | (go_simp; done) | (go_simp; rfl)) ?_
                         have hM2 := am_ (MK3.p8 hM.out hg)
                         clear hg hM
                         refine hK.out _ _ ((Sh.bc (blk_below HBG.out (MK3.b hM2.out)) 0 rfl)) (fun hHeld => ?_)
                         clear hK K
                         refine norm_ (a' := ?_) ?_ ?_
                         rotate_left
                         · show Act.put _ (some 4) _ = _
                           simp only [Act.put, List.setIfInBounds_toArray, List.set_cons_zero, List.set_cons_succ, i64_w, i32_w]
                           rfl
                         exact norm_ (by first | (simp only [putAll, Act.put, List.setIfInBounds_toArray, List.set_cons_zero, List.set_cons_succ]; done) | (simp only [putAll, Act.put, List.setIfInBounds_toArray, List.set_cons_zero, List.set_cons_succ]; rfl)) (hJ2_3_8 (va, vb, vc, g, b9) _ ⟨hM2.out, hHeld⟩)
                       · skip
                         obtain ⟨g, hg⟩ : ∃ g, g = w'.heap.size := ⟨_, rfl⟩
                         refine value_ (w1 := w'.alloc (.cells #[.slice none 0 0] 26 (0, 0))) (v := .pointer (some ⟨g, 0, none⟩)) (by rfl) rfl (by rw [hg]; first | (go_simp; done) | (go_simp; rfl)) ?_
                         have hM2 := am_ (MK3.p9 hM.out hg)
                         clear hg hM
                         refine hK.out _ _ ((Sh.bc (blk_below HBG.out (MK3.b hM2.out)) 0 rfl)) (fun hHeld => ?_)
                         clear hK K
                         refine norm_ (a' := ?_) ?_ ?_
                         rotate_left
                         · show Act.put _ (some 5) _ = _
                           simp only [Act.put, List.setIfInBounds_toArray, List.set_cons_zero, List.set_cons_succ, i64_w, i32_w]
                           rfl
                         exact norm_ (by first | (simp only [putAll, Act.put, List.setIfInBounds_toArray, List.set_cons_zero, List.set_cons_succ]; done) | (simp only [putAll, Act.put, List.setIfInBounds_toArray, List.set_cons_zero, List.set_cons_succ]; rfl)) (hJ2_3_9 (va, vb, vc, b8, g) _ ⟨hM2.out, hHeld⟩)
                   · skip
                     rintro ⟨va, vb, vc, b8, b9⟩ w' ⟨hM, hHeld⟩
                     dsimp only at hM
                     replace hM := am_ hM
                     refine norm_ (a' := ?_) ?_ ?_
                     rotate_left
                     · simp only [putAll, Act.put, List.setIfInBounds_toArray, List.set_cons_zero, List.set_cons_succ]
                       rfl
                     refine one_ (i := 2) (N := some 17) (Sh.nm 12 895) rfl rfl (one_of HT_.out (by kernel_rfl)) (by decide) (fun K hK => ?_)
                     refine goes_ Try.func30 (by kernel_rfl) rfl #[.slice A0 N.length c0] (by rfl) rfl rfl (by simp only [List.map_toArray, List.map_cons, List.map_nil]; rfl) ?_
                     with_reducible refine (impl_parts.calls k _ _ N P _ (Kd.C_below HN.out (below_step HB.out (MK3.b hM.out))) HC.out AP_.out).mono ?_
                     rintro e w1 ⟨v1, rfl, ho, hb⟩
                     refine ⟨_, rfl, ?_⟩
                     have hM2 := am_ (MK3.pa hM.out hb ho)
                     clear ho hb hM
                     refine hK.out _ _ ((Sh.bc (blk_below HBG.out (MK3.b hM2.out)) 0 rfl)) (fun hHeld => ?_)
                     clear hK K
                     refine norm_ (a' := ?_) ?_ ?_
                     rotate_left
                     · show Act.put _ (some 17) _ = _
                       simp only [Act.put, List.setIfInBounds_toArray, List.set_cons_zero, List.set_cons_succ, i64_w, i32_w]
                       rfl
                     exact norm_ (by first | (simp only [putAll, Act.put, List.setIfInBounds_toArray, List.set_cons_zero, List.set_cons_succ]; done) | (simp only [putAll, Act.put, List.setIfInBounds_toArray, List.set_cons_zero, List.set_cons_succ]; rfl)) (hJ2_3_8_9 (v1, vb, vc, b8, b9) _ ⟨hM2.out, hHeld⟩)
                 · skip
                   rintro ⟨va, vb, vc, b8, b9⟩ w' ⟨hM, hHeld⟩
                   dsimp only at hM
                   replace hM := am_ hM
                   refine norm_ (a' := ?_) ?_ ?_
                   rotate_left
                   · simp only [putAll, Act.put, List.setIfInBounds_toArray, List.set_cons_zero, List.set_cons_succ]
                     rfl
                   refine one_ (i := 3) (N := some 18) (Sh.nm 12 895) rfl rfl (one_of HT_.out (by kernel_rfl)) (by decide) (fun K hK => ?_)
                   refine Kd.R_lit_step (Kd.int .i64) _ 3 (by rfl) rfl (xs := ([-1] : List Int)) (inner := [.int .i64 (-1)]) (ok := fun _ => True) (okp := fun _ => True) (by first | (go_simp; done) | (go_simp; rfl)) (Reps.one (show Kd.M (Kd.int .i64) _ _ _ (-1) [.int .i64 (-1)] from rfl) (Reps.none _ _)) (fun _ hk => hk) trivial (Below.refl _ _) (Nat.le_refl _) (by simp) ?_
                   intro v1 w1 ho hb _ _
                   have hM2 := am_ (MK3.pb hM.out hb ho)
                   clear ho hb hM
                   refine hK.out _ _ ((Sh.bc (blk_below HBG.out (MK3.b hM2.out)) 0 rfl)) (fun hHeld => ?_)
                   clear hK K
                   refine norm_ (a' := ?_) ?_ ?_
                   rotate_left
                   · show Act.put _ (some 18) _ = _
                     simp only [Act.put, List.setIfInBounds_toArray, List.set_cons_zero, List.set_cons_succ, i64_w, i32_w]
                     rfl
                   exact norm_ (by first | (simp only [putAll, Act.put, List.setIfInBounds_toArray, List.set_cons_zero, List.set_cons_succ]; done) | (simp only [putAll, Act.put, List.setIfInBounds_toArray, List.set_cons_zero, List.set_cons_succ]; rfl)) (hJ2_3_8_9 (va, v1, vc, b8, b9) _ ⟨hM2.out, hHeld⟩)
               · skip
                 rintro ⟨va, vb, vc, b8, b9⟩ w' ⟨hM, hHeld⟩
                 dsimp only at hM
                 replace hM := am_ hM
                 refine norm_ (a' := ?_) ?_ ?_
                 rotate_left
                 · simp only [putAll, Act.put, List.setIfInBounds_toArray, List.set_cons_zero, List.set_cons_succ]
                   rfl
                 refine two_ (i := 7) (j := 8) (Ni := some 22) (Nj := some 4) (Sh.nm 12 767) (Sh.nm 12 895) rfl rfl rfl rfl (two_of HT_.out (by kernel_rfl)) (by decide) (by decide) (fun K hK => ?_) (fun K hK => ?_)
                 · skip
                   have hC := hM.out.2.2.1 rfl
                   obtain ⟨A5, c5, e5⟩ := Kd.R_slice hC
                   subst e5
                   refine goes_ Try.func32 (by kernel_rfl) rfl #[.slice A5 ([-1] : List Int).length c5, .int .i64 (N.length : Int)] (by rfl) rfl rfl (by simp only [List.map_toArray, List.map_cons, List.map_nil]; rfl) ?_
                   with_reducible refine (slices_Repeat_int_int.calls _ _ _ _ (List.replicate N.length (-1)) _ (Kd.R_reads' hC).2.2 (Kd.R_reads' hC).2.1 hrep).mono ?_
                   rintro e w1 ⟨v1, rfl, ho, hb⟩
                   refine ⟨_, rfl, ?_⟩
                   have hM2 := am_ (MK3.pc hM.out hb ho)
                   clear ho hb hM hC
                   refine hK.out _ _ ((Sh.bc (blk_below HBG.out (MK3.b hM2.out)) 0 rfl)) (fun hHeld => ?_)
                   clear hK K
                   refine norm_ (a' := ?_) ?_ ?_
                   rotate_left
                   · show Act.put _ (some 22) _ = _
                     simp only [Act.put, List.setIfInBounds_toArray, List.set_cons_zero, List.set_cons_succ, i64_w, i32_w]
                     rfl
                   exact norm_ (by first | (simp only [putAll, Act.put, List.setIfInBounds_toArray, List.set_cons_zero, List.set_cons_succ]; done) | (simp only [putAll, Act.put, List.setIfInBounds_toArray, List.set_cons_zero, List.set_cons_succ]; rfl)) (hJ2_3_7_9 (va, (.slice A5 ([-1] : List Int).length c5), v1, b8, b9) _ ⟨hM2.out, hHeld⟩)
                 · skip
                   obtain ⟨g, hg⟩ : ∃ g, g = w'.heap.size := ⟨_, rfl⟩
                   refine value_ (w1 := w'.alloc (.cells #[.slice none 0 0] 26 (0, 0))) (v := .pointer (some ⟨g, 0, none⟩)) (by rfl) rfl (by rw [hg]; first | (go_simp; done) | (go_simp; rfl)) ?_
                   have hM2 := am_ (MK3.p8 hM.out hg)
                   clear hg hM
                   refine hK.out _ _ ((Sh.bc (blk_below HBG.out (MK3.b hM2.out)) 0 rfl)) (fun hHeld => ?_)
                   clear hK K
                   refine norm_ (a' := ?_) ?_ ?_
                   rotate_left
                   · show Act.put _ (some 4) _ = _
                     simp only [Act.put, List.setIfInBounds_toArray, List.set_cons_zero, List.set_cons_succ, i64_w, i32_w]
                     rfl
                   exact norm_ (by first | (simp only [putAll, Act.put, List.setIfInBounds_toArray, List.set_cons_zero, List.set_cons_succ]; done) | (simp only [putAll, Act.put, List.setIfInBounds_toArray, List.set_cons_zero, List.set_cons_succ]; rfl)) (hJ2_3_8_9 (va, vb, vc, g, b9) _ ⟨hM2.out, hHeld⟩)
             · skip
               rintro ⟨va, vb, vc, b8, b9⟩ w' ⟨hM, hHeld⟩
               dsimp only at hM
               replace hM := am_ hM
               refine norm_ (a' := ?_) ?_ ?_
               rotate_left
               · simp only [putAll, Act.put, List.setIfInBounds_toArray, List.set_cons_zero, List.set_cons_succ]
                 rfl
               refine two_ (i := 7) (j := 9) (Ni := some 22) (Nj := some 5) (Sh.nm 12 511) (Sh.nm 12 895) rfl rfl rfl rfl (two_of HT_.out (by kernel_rfl)) (by decide) (by decide) (fun K hK => ?_) (fun K hK => ?_)
               · skip
                 have hC := hM.out.2.2.1 rfl
                 obtain ⟨A5, c5, e5⟩ := Kd.R_slice hC
                 subst e5
                 refine goes_ Try.func32 (by kernel_rfl) rfl #[.slice A5 ([-1] : List Int).length c5, .int .i64 (N.length : Int)] (by rfl) rfl rfl (by simp only [List.map_toArray, List.map_cons, List.map_nil]; rfl) ?_
                 with_reducible refine (slices_Repeat_int_int.calls _ _ _ _ (List.replicate N.length (-1)) _ (Kd.R_reads' hC).2.2 (Kd.R_reads' hC).2.1 hrep).mono ?_
                 rintro e w1 ⟨v1, rfl, ho, hb⟩
                 refine ⟨_, rfl, ?_⟩
                 have hM2 := am_ (MK3.pc hM.out hb ho)
                 clear ho hb hM hC
                 refine hK.out _ _ ((Sh.bc (blk_below HBG.out (MK3.b hM2.out)) 0 rfl)) (fun hHeld => ?_)
                 clear hK K
                 refine norm_ (a' := ?_) ?_ ?_
                 rotate_left
                 · show Act.put _ (some 22) _ = _
                   simp only [Act.put, List.setIfInBounds_toArray, List.set_cons_zero, List.set_cons_succ, i64_w, i32_w]
                   rfl
                 exact norm_ (by first | (simp only [putAll, Act.put, List.setIfInBounds_toArray, List.set_cons_zero, List.set_cons_succ]; done) | (simp only [putAll, Act.put, List.setIfInBounds_toArray, List.set_cons_zero, List.set_cons_succ]; rfl)) (hJ2_3_7_8 (va, (.slice A5 ([-1] : List Int).length c5), v1, b8, b9) _ ⟨hM2.out, hHeld⟩)
               · skip
                 obtain ⟨g, hg⟩ : ∃ g, g = w'.heap.size := ⟨_, rfl⟩
                 refine value_ (w1 := w'.alloc (.cells #[.slice none 0 0] 26 (0, 0))) (v := .pointer (some ⟨g, 0, none⟩)) (by rfl) rfl (by rw [hg]; first | (go_simp; done) | (go_simp; rfl)) ?_
                 have hM2 := am_ (MK3.p9 hM.out hg)
                 clear hg hM
                 refine hK.out _ _ ((Sh.bc (blk_below HBG.out (MK3.b hM2.out)) 0 rfl)) (fun hHeld => ?_)
                 clear hK K
                 refine norm_ (a' := ?_) ?_ ?_
                 rotate_left
                 · show Act.put _ (some 5) _ = _
                   simp only [Act.put, List.setIfInBounds_toArray, List.set_cons_zero, List.set_cons_succ, i64_w, i32_w]
                   rfl
                 exact norm_ (by first | (simp only [putAll, Act.put, List.setIfInBounds_toArray, List.set_cons_zero, List.set_cons_succ]; done) | (simp only [putAll, Act.put, List.setIfInBounds_toArray, List.set_cons_zero, List.set_cons_succ]; rfl)) (hJ2_3_8_9 (va, vb, vc, b8, g) _ ⟨hM2.out, hHeld⟩)
           · skip
             rintro ⟨va, vb, vc, b8, b9⟩ w' ⟨hM, hHeld⟩
             dsimp only at hM
             replace hM := am_ hM
             refine norm_ (a' := ?_) ?_ ?_
             rotate_left
             · simp only [putAll, Act.put, List.setIfInBounds_toArray, List.set_cons_zero, List.set_cons_succ]
               rfl
             refine two_ (i := 8) (j := 9) (Ni := some 4) (Nj := some 5) (Sh.nm 12 511) (Sh.nm 12 767) rfl rfl rfl rfl (two_of HT_.out (by kernel_rfl)) (by decide) (by decide) (fun K hK => ?_) (fun K hK => ?_)
             · skip
               obtain ⟨g, hg⟩ : ∃ g, g = w'.heap.size := ⟨_, rfl⟩
               refine value_ (w1 := w'.alloc (.cells #[.slice none 0 0] 26 (0, 0))) (v := .pointer (some ⟨g, 0, none⟩)) (by rfl) rfl (by rw [hg]; first | (go_simp; done) | (go_simp; rfl)) ?_
               have hM2 := am_ (MK3.p8 hM.out hg)
               clear hg hM
               refine hK.out _ _ ((Sh.bc (blk_below HBG.out (MK3.b hM2.out)) 0 rfl)) (fun hHeld => ?_)
               clear hK K
               refine norm_ (a' := ?_) ?_ ?_
               rotate_left
               · show Act.put _ (some 4) _ = _
                 simp only [Act.put, List.setIfInBounds_toArray, List.set_cons_zero, List.set_cons_succ, i64_w, i32_w]
                 rfl
               exact norm_ (by first | (simp only [putAll, Act.put, List.setIfInBounds_toArray, List.set_cons_zero, List.set_cons_succ]; done) | (simp only [putAll, Act.put, List.setIfInBounds_toArray, List.set_cons_zero, List.set_cons_succ]; rfl)) (hJ2_3_7_8 (va, vb, vc, g, b9) _ ⟨hM2.out, hHeld⟩)
             · skip
               obtain ⟨g, hg⟩ : ∃ g, g = w'.heap.size := ⟨_, rfl⟩
               refine value_ (w1 := w'.alloc (.cells #[.slice none 0 0] 26 (0, 0))) (v := .pointer (some ⟨g, 0, none⟩)) (by rfl) rfl (by rw [hg]; first | (go_simp; done) | (go_simp; rfl)) ?_
               have hM2 := am_ (MK3.p9 hM.out hg)
               clear hg hM
               refine hK.out _ _ ((Sh.bc (blk_below HBG.out (MK3.b hM2.out)) 0 rfl)) (fun hHeld => ?_)
               clear hK K
               refine norm_ (a' := ?_) ?_ ?_
               rotate_left
               · show Act.put _ (some 5) _ = _
                 simp only [Act.put, List.setIfInBounds_toArray, List.set_cons_zero, List.set_cons_succ, i64_w, i32_w]
                 rfl
               exact norm_ (by first | (simp only [putAll, Act.put, List.setIfInBounds_toArray, List.set_cons_zero, List.set_cons_succ]; done) | (simp only [putAll, Act.put, List.setIfInBounds_toArray, List.set_cons_zero, List.set_cons_succ]; rfl)) (hJ2_3_7_9 (va, vb, vc, b8, g) _ ⟨hM2.out, hHeld⟩)
         · skip
           rintro ⟨va, vb, vc, b8, b9⟩ w' ⟨hM, hHeld⟩
           dsimp only at hM
           replace hM := am_ hM
           refine norm_ (a' := ?_) ?_ ?_
           rotate_left
           · simp only [putAll, Act.put, List.setIfInBounds_toArray, List.set_cons_zero, List.set_cons_succ]
             rfl
           refine one_ (i := 7) (N := some 22) (Sh.nm 12 1023) rfl rfl (one_of HT_.out (by kernel_rfl)) (by decide) (fun K hK => ?_)
           have hC := hM.out.2.2.1 rfl
           obtain ⟨A5, c5, e5⟩ := Kd.R_slice hC
           subst e5
           refine goes_ Try.func32 (by kernel_rfl) rfl #[.slice A5 ([-1] : List Int).length c5, .int .i64 (N.length : Int)] (by rfl) rfl rfl (by simp only [List.map_toArray, List.map_cons, List.map_nil]; rfl) ?_
           with_reducible refine (slices_Repeat_int_int.calls _ _ _ _ (List.replicate N.length (-1)) _ (Kd.R_reads' hC).2.2 (Kd.R_reads' hC).2.1 hrep).mono ?_
           rintro e w1 ⟨v1, rfl, ho, hb⟩
           refine ⟨_, rfl, ?_⟩
           have hM2 := am_ (MK3.pc hM.out hb ho)
           clear ho hb hM hC
           refine hK.out _ _ ((Sh.bc (blk_below HBG.out (MK3.b hM2.out)) 0 rfl)) (fun hHeld => ?_)
           clear hK K
           refine norm_ (a' := ?_) ?_ ?_
           rotate_left
           · show Act.put _ (some 22) _ = _
             simp only [Act.put, List.setIfInBounds_toArray, List.set_cons_zero, List.set_cons_succ, i64_w, i32_w]
             rfl
           exact norm_ (by first | (simp only [putAll, Act.put, List.setIfInBounds_toArray, List.set_cons_zero, List.set_cons_succ]; done) | (simp only [putAll, Act.put, List.setIfInBounds_toArray, List.set_cons_zero, List.set_cons_succ]; rfl)) (hJ2_3_7_8_9 (va, (.slice A5 ([-1] : List Int).length c5), v1, b8, b9) _ ⟨hM2.out, hHeld⟩)
       · skip
         rintro ⟨va, vb, vc, b8, b9⟩ w' ⟨hM, hHeld⟩
         dsimp only at hM
         replace hM := am_ hM
         refine norm_ (a' := ?_) ?_ ?_
         rotate_left
         · simp only [putAll, Act.put, List.setIfInBounds_toArray, List.set_cons_zero, List.set_cons_succ]
           rfl
         refine one_ (i := 8) (N := some 4) (Sh.nm 12 1023) rfl rfl (one_of HT_.out (by kernel_rfl)) (by decide) (fun K hK => ?_)
         obtain ⟨g, hg⟩ : ∃ g, g = w'.heap.size := ⟨_, rfl⟩
         refine value_ (w1 := w'.alloc (.cells #[.slice none 0 0] 26 (0, 0))) (v := .pointer (some ⟨g, 0, none⟩)) (by rfl) rfl (by rw [hg]; first | (go_simp; done) | (go_simp; rfl)) ?_
         have hM2 := am_ (MK3.p8 hM.out hg)
         clear hg hM
         refine hK.out _ _ ((Sh.bc (blk_below HBG.out (MK3.b hM2.out)) 0 rfl)) (fun hHeld => ?_)
         clear hK K
         refine norm_ (a' := ?_) ?_ ?_
         rotate_left
         · show Act.put _ (some 4) _ = _
           simp only [Act.put, List.setIfInBounds_toArray, List.set_cons_zero, List.set_cons_succ, i64_w, i32_w]
           rfl
         exact norm_ (by first | (simp only [putAll, Act.put, List.setIfInBounds_toArray, List.set_cons_zero, List.set_cons_succ]; done) | (simp only [putAll, Act.put, List.setIfInBounds_toArray, List.set_cons_zero, List.set_cons_succ]; rfl)) (hJ2_3_7_8_9 (va, vb, vc, g, b9) _ ⟨hM2.out, hHeld⟩)
     · skip
       rintro ⟨va, vb, vc, b8, b9⟩ w' ⟨hM, hHeld⟩
       dsimp only at hM
       replace hM := am_ hM
       refine norm_ (a' := ?_) ?_ ?_
       rotate_left
       · simp only [putAll, Act.put, List.setIfInBounds_toArray, List.set_cons_zero, List.set_cons_succ]
         rfl
       refine one_ (i := 9) (N := some 5) (Sh.nm 12 1023) rfl rfl (one_of HT_.out (by kernel_rfl)) (by decide) (fun K hK => ?_)
       obtain ⟨g, hg⟩ : ∃ g, g = w'.heap.size := ⟨_, rfl⟩
       refine value_ (w1 := w'.alloc (.cells #[.slice none 0 0] 26 (0, 0))) (v := .pointer (some ⟨g, 0, none⟩)) (by rfl) rfl (by rw [hg]; first | (go_simp; done) | (go_simp; rfl)) ?_
       have hM2 := am_ (MK3.p9 hM.out hg)
       clear hg hM
       refine hK.out _ _ ((Sh.bc (blk_below HBG.out (MK3.b hM2.out)) 0 rfl)) (fun hHeld => ?_)
       clear hK K
       refine norm_ (a' := ?_) ?_ ?_
       rotate_left
       · show Act.put _ (some 5) _ = _
         simp only [Act.put, List.setIfInBounds_toArray, List.set_cons_zero, List.set_cons_succ, i64_w, i32_w]
         rfl
       exact norm_ (by first | (simp only [putAll, Act.put, List.setIfInBounds_toArray, List.set_cons_zero, List.set_cons_succ]; done) | (simp only [putAll, Act.put, List.setIfInBounds_toArray, List.set_cons_zero, List.set_cons_succ]; rfl)) (hJ2_3_7_8_9 (va, vb, vc, b8, g) _ ⟨hM2.out, hHeld⟩)
   rintro ⟨va, vb, vc, b8, b9⟩ w' ⟨hM, hHeld⟩
   dsimp only at hM
   replace hM := am_ hM
   have q8 := (hM.out.2.2.2.2.1 rfl).2
   have q9 := (hM.out.2.2.2.2.2.1 rfl).2
   have hc8 := Sh.bc q8 0 rfl
   have hf8 := blk_frozen q8 0
   have n89 := hM.out.2.2.2.2.2.2.1 rfl rfl
   obtain ⟨Aa, ca, ea⟩ := Kd.R_slice (hM.out.2.1 rfl)
   obtain ⟨Ac, cc, ec⟩ := TJ_sl (hM.out.2.2.2.1 rfl)
   subst ea ec
   refine norm_ (a' := ?_) ?_ ?_
   rotate_left
   · simp only [putAll, Act.put, List.setIfInBounds_toArray, List.set_cons_zero, List.set_cons_succ]
     rfl
   refine last_ (i := 10) (N := none) (Sh.nm 12 2047) rfl rfl (one_of HT_.out (by kernel_rfl)) (by decide) (fun K hK => ?_)
   refine TJ_store (w1 := w'.setCell ⟨b8, 0, none⟩ (.slice Aa P.length ca)) (by rfl) rfl (by first | (go_simp; done) | (go_simp; rfl)) ?_
   intro w5 hw5
   have hc9 : w5.cell? ⟨b9, 0, none⟩ = some (.slice none 0 0) := by rw [hw5]; exact Sh.bc (show (w'.setCell ⟨b8, 0, none⟩ (.slice Aa P.length ca)).heap[b9]? = some (.cells #[.slice none 0 0] 26 (0, 0)) by rw [Below.heap_setCell w' ⟨b8, 0, none⟩ (.slice Aa P.length ca) b9 (fun e => n89 e.symm)]; exact q9) 0 rfl
   have hf9 : w5.frozen? ⟨b9, 0, none⟩ = false := by rw [hw5]; exact blk_frozen (show (w'.setCell ⟨b8, 0, none⟩ (.slice Aa P.length ca)).heap[b9]? = some (.cells #[.slice none 0 0] 26 (0, 0)) by rw [Below.heap_setCell w' ⟨b8, 0, none⟩ (.slice Aa P.length ca) b9 (fun e => n89 e.symm)]; exact q9) 0
   clear hc8 hf8 hHeld
   refine hK.out _ _ ?_
   clear hK K
   refine last_ (i := 11) (N := none) (Sh.nm 12 4095) rfl rfl (one_of HT_.out (by kernel_rfl)) (by decide) (fun K hK => ?_)
   refine TJ_store (w1 := w5.setCell ⟨b9, 0, none⟩ (.slice Ac N.length cc)) (by rfl) rfl (by clear hw5; first | (go_simp; done) | (go_simp; rfl)) ?_
   intro w6 hw6
   have hM4 := MK3.fin hM.out
   rw [← hw5, ← hw6] at hM4
   have hap := hM.out.2.2.2.2.2.2.2 rfl rfl
   replace hM4 := am_ hM4
   clear hM hw5 hw6 hc9 hf9 q8 q9
   refine hK.out _ _ ?_
   clear hK K
   refine done_ (done_of HT_.out (by kernel_rfl)) ?_
   clear hHeld
   have BG6 := am_ (blk_below HBG.out hM4.out.2.1)
   have B86 := am_ hM4.out.1.1
   have B96 := am_ hM4.out.1.2
   have RP6 := am_ hM4.out.2.2.1
   have RK6 := am_ hM4.out.2.2.2
   have HB6 := am_ (below_step HB.out hM4.out.2.1)
   have WA := am_ (below_size HB.out)
   clear HB hM4 hcz_0 HBG
   have HB := am_ (Below.refl w6.heap.size w6)
   have hcz_0 := Sh.bc BG6.out 0 rfl
   have LQ : Aside0 (((N.length : Int)).toNat * 24 ≤ 281474976710656) := ⟨by have := LM.out; omega⟩
   go_wp2_with (first | ((with_reducible refine Sh.d 26 ?_); refine Kd.S_make (Kd.slice 3 (Kd.int .i64)) (w0 := w6) w6.heap.size 26 rfl (N := 26) rfl 22 _ _ rfl (N.length : Int) rfl rfl Try.underlying22 (.slice none 0 0) 24 info26 rfl (by decide) (by decide) [] (ok := fun _ => True) (okp := fun _ => True) ⟨_, rfl, Kd.R_nil _ _ _ _ _⟩ (fun _ hk => hk) trivial (Int.natCast_nonneg _) LQ.out TJ_bl (below_size TJ_bl) ?_; intro v7 w7 ho hb hg_ hnew_; clear hg_ hnew_; rw [TJ_len1] at ho; obtain ⟨AM, cM, eM⟩ := Kd.S_slice ho; subst eM; rw [List.length_replicate] at ho ⊢; have HS := am_ ho; clear HB; have HB := am_ hb; clear hb ho) | ((with_reducible refine Sh.d 6 ?_); refine Sh.bx (N := 6) (cs := #[.slice none 0 0]) (t := 22) (h := ?_); intro bM hg w8 hbox hb; have GEM := am_ (show w6.heap.size ≤ bM from by rw [hg]; exact below_size (below_step HB.out (by (repeat (with_reducible first | apply below_alloc | apply pw_below_drewN | apply below_drew1)); exact Below.refl _ _))); replace HS := am_ (Kd.S_below HS.out hb); replace HB := am_ (below_step HB.out hb); have BM := am_ hbox; clear hg hb hbox; have hcM := Sh.bc BM.out 0 rfl; have hfM := blk_frozen BM.out 0) | ((with_reducible refine gate_store (t := 22) (p := 6) rfl ?_); refine store_event (t := 22) (p := 6) (v := ?vo_w9) (w1 := (w8.setCell ⟨bM, 0, none⟩ (.slice AM N.length cM))) ?hg ?ho ?hn ?hr ?_; (case ho => rfl); (case hg => rfl); (case hn => rfl); (case hr => first | (go_simp; done) | (go_simp; rfl)); intro w9 hw; have n1_ := am_ (show Kd.S (Kd.slice 3 (Kd.int .i64)) 26 w9 w6.heap.size (fun _ => True) (.slice AM N.length cM) (List.replicate N.length []) from (by rw [hw]; exact Kd.S_set HS.out BM.out (by decide) 0 _)); have n2_ := am_ (show w9.heap[bM]? = some (.cells #[.slice AM N.length cM] 22 (0, 0)) from (by rw [hw]; exact blk_put BM.out 0 _ rfl)); have n3_ := am_ (show Below w6.heap.size w6 w9 from (by rw [hw]; exact below_set HB.out GEM.out)); clear hw HS BM HB hcM hfM hcz_0; have HS := n1_; have BM := n2_; have HB := n3_; clear n1_ n2_ n3_; have hc8 := Sh.bc (blk_below B86.out HB.out) 0 rfl))
   go_loopg [29] k (fun kq v29 w' => ∃ (i : Int) (yM : List (List Int)), v29 = .int .i64 i ∧ Aside0 (impl_LevelsOf.m kq P i yM = some Mm) ∧ Aside0 (kq ≤ k) ∧ Aside0 (Kd.S (Kd.slice 3 (Kd.int .i64)) 26 w' w6.heap.size (fun _ => True) (.slice AM N.length cM) yM) ∧ Aside0 (w'.heap[bM]? = some (.cells #[.slice AM N.length cM] 22 (0, 0))) ∧ Aside0 (Below w6.heap.size w6 w'))
   case atStart => exact ⟨0, _, rfl, AM_, ⟨Nat.le_refl _⟩, HS, BM, HB⟩
   case round =>
    clear AM_ HS BM HB hc8
    obtain ⟨i, yM, rfl, HA, HK1, HS, BM, HB⟩ := hrel
    cases gk with
    | zero => exact absurd HA.out (by simp [impl_LevelsOf.m])
    | succ k1 =>
     have H := HA.out
     clear HA
     simp only [impl_LevelsOf.m] at H
     have hc8 := Sh.bc (blk_below B86.out HB.out) 0 rfl
     have hcM := Sh.bc BM.out 0 rfl
     by_cases c4 : i < (P.length : Int)
     ·rw [if_pos c4] at H
      by_cases c5 : 0 ≤ i ∧ 0 ≤ rd P i ∧ rd P i < (yM.length : Int)
      ·rw [if_pos c5] at H
       obtain ⟨p5, p6, q6⟩ := c5
       by_cases c7 : (rd_L1 yM (rd P i)).length < 17592186044416
       ·rw [if_pos c7] at H
        have LMc : Aside0 (((rd_L1 yM (rd P i)).length + 1) * 8 ≤ 140737488355328) := ⟨by omega⟩
        clear c7
        have c4b := decide_eq_true c4
        have c4t := eq_true c4
        have p5b := decide_eq_true p5
        have p5t := eq_true p5
        obtain ⟨adP, eP, hxi⟩ := Kd.at_int (Kd.R_reads' (Kd.R_below RP6.out HB.out)).2.2 i p5 c4
        subst eP
        obtain ⟨oo, hoo⟩ : ∃ oo, oo = rd P i := ⟨_, rfl⟩
        rw [← hoo] at hxi H p6 q6 LMc
        clear hoo
        have p6b := decide_eq_true p6
        have p6t := eq_true p6
        have q6b := decide_eq_true q6
        have q6t := eq_true q6
        have q6n : oo < (N.length : Int) := by have hyl := (Kd.S_reads' HS.out).1; omega
        have q6nb := decide_eq_true q6n
        have q6nt := eq_true q6n
        obtain ⟨go17, co17, eo17, gb17, gl17, cl17, HG17⟩ := Kd.S_form HS.out (by omega)
        injection eo17 with ea_ en_ ec_
        subst ea_ ec_
        clear en_
        have GB17 := am_ gb17
        clear gb17 gl17
        obtain ⟨ad148, A148, c148, e148, hx148, hl148, hi148⟩ := at_L1 (Kd.S_reads' HS.out).2.2 oo p6 q6
        cases e148
        simp only [add_plain] at hx148
        obtain ⟨oki17, ce17, hcl17, hM17, hcc17, _, _, hH17⟩ := Kd.S_elem HS.out [] oo p6 q6n
        obtain ⟨ve17_0, rfl, ge17_0⟩ := hM17
        have hv17 := hcc17 0 _ rfl
        (try simp only [add_plain] at hv17)
        (try simp only [Nat.add_zero] at hv17)
        (try rw [show ((Kd.slice 3 (Kd.int .i64))).sz = 1 from rfl, Nat.mul_one] at hv17)
        replace hv17 := Option.some.inj (hv17.symm.trans hx148)
        subst hv17
        clear hcc17 hcl17 hl148 hi148
        have UU17 := am_ (show Kd.R (Kd.int .i64) 3 _ w6.heap.size oki17 (.slice A148 (rd_L1 yM oo).length c148) (rd_L1 yM oo) from ge17_0)
        have HH17 := am_ hH17
        clear hH17 ge17_0 HG17 cl17
        obtain ⟨yR, hyR⟩ : ∃ y_, y_ = rd_L1 yM oo ++ [i] := ⟨_, rfl⟩
        rw [← hyR] at H
        have NyR := am_ hyR
        clear hyR
        have H' := am_ H
        clear H
        go_wp2
        have hne17 : bM ≠ go17 := fun e => Kd.S_ne HS.out BM.out (by decide) (by rw [e]; rfl)
        refine start_ (n := 11) (S := fun w' => w'.cell? ⟨bM, 0, none⟩ = some (.slice (some ⟨go17, 0, none⟩) N.length cM) ∧ w'.cell? ⟨go17, oo.toNat, none⟩ = some (.slice A148 (rd_L1 yM oo).length c148)) (ds := [10]) (Sh.nm 11 0) (by kernel_rfl) rfl rfl ⟨hcM, hx148⟩ (fun hHeld => ?_)
        refine with_tabW impl_LevelsOf.tab8 impl_LevelsOf.bits8 (fun HT_ HW_ => ?_)
        refine Sh.qA 1 ?_; refine Sh.qA 3 ?_; refine Sh.qT 0 hHeld ?_; refine Sh.qT 2 hHeld ?_
        refine Sh.qA 4 ?_ (v := .pointer (some ⟨go17, oo.toNat, none⟩)) (hy := by intro w'; go_simp; first | done | (intro h_; omega))
        refine Sh.qT 5 hHeld ?_; refine Sh.qA 6 ?_
        refine one_ (i := 7) (N := some 41) (Sh.nm 11 255) rfl rfl (one_of HT_.out (by kernel_rfl)) (by decide) fun K hK => ?_
        refine value_ (w1 := ?_) (v := ?_) (by rfl) rfl ?_ ?_
        rotate_left 2
        · go_simp
          constructor
          · rfl
          · rfl
        refine Sh.kN hK ⟨Sh.bc (blk_below BM.out TJ_bl) 0 rfl, Sh.cw hx148 TJ_bl⟩ fun hHeld => ?_
        clear hK K
        refine one_ (i := 8) (N := some 42) (Sh.nm 11 511) rfl rfl (one_of HT_.out (by kernel_rfl)) (by decide) (fun K hK => ?_)
        refine Kd.R_append_step (Kd.int .i64) (w0 := w6) (W := wr.drew) w6.heap.size ?hw (.tmp 39) (.tmp 41) 26 3 (.int .i64 0) 8 ?ho Try.underlying26 info3 rfl (by decide) (by decide) (.slice A148 (rd_L1 yM oo).length c148) (rd_L1 yM oo) i [.int .i64 i] (fun k_ => oki17 k_ ∨ True ∧ wr.heap.size ≤ k_) (fun _ => False) ?hs ?hx rfl (fun _ hk => hk.elim) (fun k_ hk => .inr ⟨trivial, hk⟩) ?hO ?hB ?hZ LMc.out ?_
        case hw => rfl
        case hs => rfl
        case hx => rfl
        case ho => rfl
        case hO => exact (Sh.rl (Kd.R_mono UU17.out (fun _ hk => .inl hk)))
        case hB => first | exact HB.out | exact below_drew1 HB.out
        case hZ => first | exact below_size HB.out | exact below_size (below_drew1 HB.out)
        intro v150 w18 ho hb hg hat
        rw [← NyR.out] at ho
        have n1_ := am_ (Kd.H_grown (Kd.H_widen (by repeat (first | exact HH17.out | refine Kd.H_alloc ?_ _ | refine Kd.H_drewN ?_ _ | refine Kd.H_drew ?_))) hg (fun k_ e_ => .inl (UU17.out.1 k_ e_)))
        have n3_ := am_ (blk_grown (blk_below BM.out TJ_bl) hg (Kd.R_ne UU17.out BM.out (by decide)))
        clear HB HH17 HS UU17 BM hHeld hcM hx148 hc8 hxi
        have HB := am_ hb
        have HH17 := n1_
        have BM := n3_
        have HO151 := am_ ho
        clear n1_ n3_ ho hb hg hat
        obtain ⟨Ao21, co21, eo21⟩ := Kd.R_slice HO151.out
        subst eo21
        obtain ⟨_, _, hraw19, _, _, hcc19, _⟩ := Kd.H_raw HH17.out p6 q6n
        obtain ⟨_, hfr19⟩ := Kd.H_at HH17.out p6 q6n
        have hx19_0 := hcc19 0 _ rfl
        have hf19_0 := hfr19 0
        (try simp only [Nat.add_zero] at hx19_0 hf19_0)
        (try rw [show ((Kd.slice 3 (Kd.int .i64))).sz = 1 from rfl, Nat.mul_one] at hx19_0)
        (try rw [show ((Kd.slice 3 (Kd.int .i64))).sz = 1 from rfl, Nat.mul_one] at hf19_0)
        have HP19 := Kd.S_seg0 HH17.out p6 q6n (seg := [.slice Ao21 yR.length co21]) (j := 0) (show 1 ≤ 1 from by decide) (x' := yR) (Kd.M_row HO151.out) (fun _ hk => hk)
        (try simp only [show ((Kd.slice 3 (Kd.int .i64))).sz = 1 from rfl, Nat.mul_one, Nat.add_zero] at HP19)
        clear hcc19 hfr19
        refine Sh.kN hK ⟨Sh.bc BM.out 0 rfl, hx19_0⟩ fun hHeld => ?_
        clear hK K
        refine Sh.qA 9 ?_ (v := .pointer (some ⟨go17, oo.toNat, none⟩)) (hy := by intro w'; go_simp; first | done | (intro h_; omega))
        refine last_ (i := 10) (N := none) (Sh.nm 11 2047) rfl rfl (one_of HT_.out (by kernel_rfl)) (by decide) (fun K hK => ?_)
        refine TJ_store (w1 := (w18.setCell ⟨go17, oo.toNat, none⟩ (.slice Ao21 yR.length co21))) (by rfl) rfl (by first | (go_simp; done) | (go_simp; rfl)) ?_
        intro w20 hw
        have n1_ := am_ (show Kd.S (Kd.slice 3 (Kd.int .i64)) 26 w20 w6.heap.size (fun _ => True) (.slice (some ⟨go17, 0, none⟩) N.length cM) (yM.set oo.toNat yR) from (by rw [hw]; exact HP19.1))
        have n2_ := am_ (show Below w6.heap.size w6 w20 from (by rw [hw]; exact below_set HB.out GB17.out))
        have n3_ := am_ (show w20.heap[bM]? = some (.cells #[.slice (some ⟨go17, 0, none⟩) N.length cM] 22 (0, 0)) from (by rw [hw, Below.heap_setCell w18 ⟨go17, _, none⟩ _ bM hne17]; exact BM.out))
        clear HP19 HB HH17 HO151 BM hw hraw19 hx19_0 hf19_0 hHeld
        have HS := n1_
        have HB := n2_
        have BM := n3_
        clear n1_ n2_ n3_
        refine hK.out _ _ ?_
        clear hK K
        refine done_ (done_of HT_.out (by kernel_rfl)) ?_
        clear HT_ HW_
        go_wp2
        go_roundg k1
        case measure => have := HK1.out; omega
        case rel => exact ⟨_, _, rfl, H', ⟨by have := HK1.out; omega⟩, HS, BM, HB⟩
       ·rw [if_neg c7] at H
        exact absurd H (by simp)
      ·rw [if_neg c5] at H
       exact absurd H (by simp)
     ·rw [if_neg c4] at H
      have c4b := decide_eq_false c4
      injection H with H
      subst H
      have hcM := Sh.bc BM.out 0 rfl
      clear c4 hc8
      go_wp2_with (first | ((with_reducible refine Sh.d 9 ?_); refine Sh.bx (N := 9) (cs := #[.nilFunc]) (t := 48) (h := ?_); intro bF hg w10 hbox hb; have GEF := am_ (show w6.heap.size ≤ bF from by rw [hg]; exact below_size (below_step HB.out (by (repeat (with_reducible first | apply below_alloc | apply pw_below_drewN | apply below_drew1)); exact Below.refl _ _))); replace HS := am_ (Kd.S_below (Kd.S_below HS.out TJ_bl) hb); replace BM := am_ (blk_below (blk_below BM.out TJ_bl) hb); replace HB := am_ (below_step (below_step HB.out TJ_bl) hb); have BF := am_ hbox; have NEF := am_ (show bM ≠ bF from fun e => by have h1_ := BM.out; rw [e, hbox] at h1_; injection h1_ with h1_; injection h1_ with _ h1_; exact absurd h1_ (by decide)); clear hg hb hbox hcM; have hcF := Sh.bc BF.out 0 rfl; have hfF := blk_frozen BF.out 0) | ((with_reducible refine gate_store (t := 48) (p := 9) rfl ?_); go_loud (refine store_event (t := 48) (p := 9) (v := ?vo_w11) (w1 := (w10.setCell ⟨bF, 0, none⟩ (.func (.func 33) #[] #[.pointer (some ⟨b9, 0, none⟩), .pointer (some ⟨bM, 0, none⟩), .pointer (some ⟨bG, 0, none⟩), .pointer (some ⟨b8, 0, none⟩), .pointer (some ⟨bF, 0, none⟩)]))) ?hg ?ho ?hn ?hr ?_; (case ho => rfl); (case hg => rfl); (case hn => rfl); (case hr => first | (go_simp; done) | (go_simp; rfl)); intro w11 hw); go_loud (have n1_ := am_ (show Kd.S (Kd.slice 3 (Kd.int .i64)) 26 w11 w6.heap.size (fun _ => True) (.slice AM N.length cM) yM from (by rw [hw]; exact Kd.S_set HS.out BF.out (by decide) 0 _))); go_loud (have n2_ := am_ (show w11.heap[bM]? = some (.cells #[.slice AM N.length cM] 22 (0, 0)) from (by rw [hw, Below.heap_setCell w10 ⟨bF, 0, none⟩ _ bM NEF.out]; exact BM.out))); go_loud (have n3_ := am_ (show Below w6.heap.size w6 w11 from (by rw [hw]; exact below_set HB.out GEF.out))); go_loud (have n4_ := am_ (show w11.heap[bF]? = some (.cells #[.func (.func 33) #[] #[.pointer (some ⟨b9, 0, none⟩), .pointer (some ⟨bM, 0, none⟩), .pointer (some ⟨bG, 0, none⟩), .pointer (some ⟨b8, 0, none⟩), .pointer (some ⟨bF, 0, none⟩)]] 48 (0, 0)) from (by rw [hw]; exact blk_put BF.out 0 _ rfl))); go_loud (clear hw HS BM HB BF hcF hfF; have HS := n1_; have BM := n2_; have HB := n3_; have BF := n4_; clear n1_ n2_ n3_ n4_; have hcz_0 := Sh.bc (blk_below BG6.out HB.out) 0 rfl)) | ((with_reducible refine Sh.d 46 ?_); refine Kd.R_lit (Kd.int .i64) _ 3 ?hg (N := 46) ?hd (xs := ([] : List Int)) (inner := []) (ok := fun _ => True) (okp := fun _ => True) ?hr ?hp (fun _ hk => hk) trivial (Below.refl _ _) (Nat.le_refl _) (by simp) ?_; (case hd => rfl); (case hg => rfl); (case hr => first | (go_simp; done) | (go_simp; rfl)); (case hp => exact (Reps.none _ _)); intro v12 w12 ho hb hg_ hnew_; clear hg_ hnew_; have HO := am_ (show Kd.R (Kd.int .i64) 3 w12 w11.heap.size (fun _ => True) v12 [] from Kd.R_lower ho (below_size (TJ_bl (W := w11)))); have HW := am_ (show Below w11.heap.size w11 w12 from below_step TJ_bl hb); clear ho hb hcz_0; have hcz_0 := Sh.bc (blk_below (blk_below BG6.out HB.out) HW.out) 0 rfl))
      by_cases hn : 0 < N.length
      ·skip
       obtain ⟨gK, eK, gK1, gK2, hL⟩ := Lev.mk_ HN.out WA.out HB6.out HB.out BG6.out B86.out B96.out RP6.out RK6.out hap HS.out BM.out GEM.out BF.out GEF.out hn
       subst eK
       have HL := am_ hL
       have RK := am_ (Kd.R_below (Kd.R_below RK6.out HB.out) HW.out)
       have HWW := am_ (show w11.grownBy w12 (some gK) from TJ_gb (World.grownBy.refl w11 (some gK)) HW.out)
       have B11 := am_ (show Below w.heap.size w w11 from ⟨HB.out.os.trans HB6.out.os, HB.out.tape.trans HB6.out.tape, HB.out.output.trans HB6.out.output, Nat.le_trans HB6.out.size HB.out.size, fun i hi => (HB.out.block i (Nat.lt_of_lt_of_le hi HB6.out.size)).trans (HB6.out.block i hi)⟩)
       have GK1 := am_ gK1
       have GK2 := am_ gK2
       clear hL gK1 gK2 HS BM GEM BF GEF HB BG6 B86 B96 RP6 RK6 hap HB6 HW hcz_0 hn NEF
       go_loopg [10, 50] k (fun kq v10 v50 w' => ∃ (i2 : Int) (vO : Value) (yK out : List Int), v10 = vO ∧ v50 = .int .i64 i2 ∧ Aside0 (impl_LevelsOf.v kq N yM P i2 yK out = some out0) ∧ Aside0 (kq ≤ k) ∧ Aside0 (Kd.R (Kd.int .i64) 3 w' w11.heap.size (fun _ => True) vO out) ∧ Aside0 (Kd.R (Kd.int .i64) 3 w' wA.heap.size (fun _ => True) (.slice (some ⟨gK, 0, none⟩) N.length cc) yK) ∧ Aside0 (w11.grownBy w' (some gK)))
       case atStart => exact ⟨_, _, _, _, rfl, rfl, AV_, ⟨Nat.le_refl _⟩, ⟨Sh.rl HO.out⟩, ⟨Sh.rl RK.out⟩, ⟨TJ_gb HWW.out⟩⟩
       case round =>
        clear AV_ HO RK HWW
        obtain ⟨i2, vO, yK, out, rfl, rfl, HA, HK2, HO, RK, HWW⟩ := hrel
        cases gk with
        | zero => exact absurd HA.out (by simp [impl_LevelsOf.v])
        | succ k2 =>
         have H := HA.out
         clear HA
         simp only [impl_LevelsOf.v] at H
         by_cases d1 : i2 < (N.length : Int)
         ·rw [if_pos d1] at H
          by_cases d2 : 0 ≤ i2 ∧ i2 < (P.length : Int)
          ·rw [if_pos d2] at H
           obtain ⟨p1, q1⟩ := d2
           obtain ⟨u, B_, H⟩ := Sh.ba H
           by_cases d3 : out.length < 17592186044416
           ·rw [if_pos d3] at H
            have LMd : Aside0 ((out.length + 1) * 8 ≤ 140737488355328) := ⟨by omega⟩
            clear d3
            have H' := am_ H
            clear H
            have d1b := decide_eq_true d1
            have p1b := decide_eq_true p1
            have p1t := eq_true p1
            have q1b := decide_eq_true q1
            have q1t := eq_true q1
            obtain ⟨adP, eP, hxp⟩ := Kd.at_int (HL.out.rP _ HWW.out) i2 p1 q1
            subst eP
            obtain ⟨qq, hqq⟩ : ∃ qq, qq = rd P i2 := ⟨_, rfl⟩
            rw [← hqq] at hxp B_
            have HQ := am_ hqq.symm
            clear hqq
            obtain ⟨AO, cO, eO⟩ := Kd.R_slice HO.out
            subst eO
            have hS : ∀ W : World, w11.grownBy W (some gK) → (fun w' => w'.cell? ⟨b8, 0, none⟩ = some (.slice (some adP) P.length ca) ∧ w'.cell? ⟨bF, 0, none⟩ = some (.func (.func 33) #[] #[.pointer (some ⟨b9, 0, none⟩), .pointer (some ⟨bM, 0, none⟩), .pointer (some ⟨bG, 0, none⟩), .pointer (some ⟨b8, 0, none⟩), .pointer (some ⟨bF, 0, none⟩)]) ∧ w'.cell? (adP.add i2.toNat) = some (.int .i64 qq)) W := fun W hW => by
             obtain ⟨_, _, _, z3, z4⟩ := HL.out.cells hW
             obtain ⟨ad5, e5, h5⟩ := Kd.at_int (HL.out.rP W hW) i2 p1 q1
             injection e5 with e5
             subst e5
             exact ⟨z3, z4, by rw [h5, HQ.out]⟩
            replace hS := am_ hS
            go_wp2
            refine start_ (n := 10) (S := fun w' => w'.cell? ⟨b8, 0, none⟩ = some (.slice (some adP) P.length ca) ∧ w'.cell? ⟨bF, 0, none⟩ = some (.func (.func 33) #[] #[.pointer (some ⟨b9, 0, none⟩), .pointer (some ⟨bM, 0, none⟩), .pointer (some ⟨bG, 0, none⟩), .pointer (some ⟨b8, 0, none⟩), .pointer (some ⟨bF, 0, none⟩)]) ∧ w'.cell? (adP.add i2.toNat) = some (.int .i64 qq)) (ds := []) (Sh.nm 10 0) (by kernel_rfl) rfl rfl (hS.out _ (TJ_gb HWW.out)) (fun hHeld => ?_)
            refine with_tabW impl_LevelsOf.tab16 impl_LevelsOf.bits16 (fun HT_ HW_ => ?_)
            refine Sh.qA 0 ?_; refine Sh.qT 1 hHeld ?_; refine Sh.qT 2 hHeld ?_; refine Sh.qA 3 ?_
            refine Sh.qA 4 ?_ (v := .pointer (some (adP.add i2.toNat))) (hy := by intro w'; go_simp; first | done | (intro h_; omega))
            refine Sh.qT 5 hHeld ?_
            refine one_ (i := 6) (N := some 59) (Sh.nm 10 127) rfl rfl (one_of HT_.out (by kernel_rfl)) (by decide) fun K hK => ?_
            refine call_ 33 #[.int .i64 qq, .pointer (some ⟨b9, 0, none⟩), .pointer (some ⟨bM, 0, none⟩), .pointer (some ⟨bG, 0, none⟩), .pointer (some ⟨b8, 0, none⟩), .pointer (some ⟨bF, 0, none⟩)] (by rfl) rfl ?hrun ?_
            case hrun =>
             have he := enters_ Try.func33 (by kernel_rfl) rfl #[.int .i64 qq, .pointer (some ⟨b9, 0, none⟩), .pointer (some ⟨bM, 0, none⟩), .pointer (some ⟨bG, 0, none⟩), .pointer (some ⟨b8, 0, none⟩), .pointer (some ⟨bF, 0, none⟩)] wr.drew
             first | (go_simp; done) | (go_simp; rfl)
            refine (impl_lev.calls2 k2 wA.heap.size qq u HL.out (TJ_gb HWW.out) (Sh.rl RK.out) B_.out).mono ?_
            rintro e w13 ⟨rfl, hg, hr⟩
            refine ⟨_, rfl, ?_⟩
            have n1_ := am_ hr
            have n2_ := am_ ((TJ_gb HWW.out).trans hg)
            have n3_ := am_ (Kd.R_mono (Kd.R_grown1 (Sh.rl HO.out) rfl hg (fun e_ => by have h1_ := Kd.R_base HO.out gK e_.symm; have h2_ := GK2.out; omega)) (ok' := fun _ => True) (fun _ _ => trivial))
            clear hg hr RK HWW HO hxp hHeld
            have RK := n1_
            have HWW := n2_
            have HO := n3_
            clear n1_ n2_ n3_
            refine hK.out _ _ (hS.out _ HWW.out) (fun hHeld => ?_)
            clear hK K
            refine norm_ (a' := ?_) ?_ ?_
            rotate_left
            · show Act.put _ (some 59) _ = _
              simp only [Act.put, List.setIfInBounds_toArray, List.set_cons_zero, List.set_cons_succ, i64_w, i32_w]
              rfl
            refine one_ (i := 7) (N := some 60) (Sh.nm 10 255) rfl rfl (one_of HT_.out (by kernel_rfl)) (by decide) fun K hK => ?_
            refine value_ (w1 := ?_) (v := ?_) (by rfl) rfl ?_ ?_
            rotate_left 2
            · go_simp
              constructor
              · rfl
              · rfl
            refine hK.out _ _ (hS.out _ (TJ_gb HWW.out)) (fun hHeld => ?_)
            clear hK K
            refine norm_ (a' := ?_) ?_ ?_
            rotate_left
            · show Act.put _ (some 60) _ = _
              simp only [Act.put, List.setIfInBounds_toArray, List.set_cons_zero, List.set_cons_succ, i64_w, i32_w]
              rfl
            refine one_ (i := 8) (N := some 61) (Sh.nm 10 511) rfl rfl (one_of HT_.out (by kernel_rfl)) (by decide) fun K hK => ?_
            refine Kd.R_append_step (Kd.int .i64) (w0 := w13) (W := w13) w11.heap.size ?hw (.tmp 53) (.tmp 60) 26 3 (.int .i64 0) 8 ?ho Try.underlying26 info3 rfl (by decide) (by decide) (.slice AO out.length cO) out u.1 [.int .i64 u.1] (fun _ => True) (fun _ => False) ?hs ?hx rfl (fun _ hk => hk.elim) (fun _ _ => trivial) ?hO ?hB ?hZ LMd.out ?_
            case hw => rfl
            case hs => rfl
            case hx => rfl
            case ho => rfl
            case hO => exact HO.out
            case hB => exact Below.refl _ _
            case hZ => exact HWW.out.size
            intro v14 w14 ho hb hg hat
            have n1_ := am_ (TJ_gg HWW.out hg (fun k hk => Kd.R_base HO.out k hk))
            have n2_ := am_ (Kd.R_mono (Kd.R_grown1 RK.out rfl hg (fun e_ => by have h1_ := Kd.R_base HO.out gK e_; have h2_ := GK2.out; omega)) (ok' := fun _ => True) (fun _ _ => trivial))
            clear RK HWW HO hHeld
            have HWW := n1_
            have RK := n2_
            have HO := am_ ho
            clear n1_ n2_ hb hg hat ho
            refine hK.out _ _ (hS.out _ HWW.out) (fun hHeld => ?_)
            clear hK K
            refine norm_ (a' := ?_) ?_ ?_
            rotate_left
            · show Act.put _ (some 61) _ = _
              simp only [Act.put, List.setIfInBounds_toArray, List.set_cons_zero, List.set_cons_succ, i64_w, i32_w]
              rfl
            refine Sh.qA 9 ?_
            refine done_ (done_of HT_.out (by kernel_rfl)) ?_
            clear hHeld HT_ HW_ hS
            go_wp2
            go_roundg k2
            case measure => have := HK2.out; omega
            case rel => exact ⟨_, _, _, _, rfl, rfl, H', ⟨by have := HK2.out; omega⟩, ⟨Sh.rl HO.out⟩, ⟨Sh.rl RK.out⟩, ⟨TJ_gb HWW.out⟩⟩
           ·rw [if_neg d3] at H
            exact absurd H (by simp)
          ·rw [if_neg d2] at H
           exact absurd H (by simp)
         ·rw [if_neg d1] at H
          have d1b := decide_eq_false d1
          injection H with H
          subst H
          go_wp2
          go_ret2
          exact ⟨_, Sh.eR, Kd.R_lower (Sh.rl HO.out) B11.out.size, TJ_gB B11.out (TJ_gb HWW.out) GK1.out⟩
      ·skip
       have B12 := am_ (show Below w.heap.size w w12 from ⟨HW.out.os.trans (HB.out.os.trans HB6.out.os), HW.out.tape.trans (HB.out.tape.trans HB6.out.tape), HW.out.output.trans (HB.out.output.trans HB6.out.output), Nat.le_trans HB6.out.size (Nat.le_trans HB.out.size HW.out.size), fun i hi => (HW.out.block i (Nat.lt_of_lt_of_le hi (Nat.le_trans HB6.out.size HB.out.size))).trans ((HB.out.block i (Nat.lt_of_lt_of_le hi HB6.out.size)).trans (HB6.out.block i hi))⟩)
       have h0 := AV_.out
       cases k with
       | zero => exact absurd h0 (by simp [impl_LevelsOf.v])
       | succ k0 =>
        simp only [impl_LevelsOf.v] at h0
        rw [if_neg (by omega)] at h0
        injection h0 with h0
        subst h0
        have hnb := decide_eq_false (show ¬ ((0 : Int) < (N.length : Int)) by omega)
        have hO2 := am_ (Kd.R_lower HO.out (Nat.le_trans HB6.out.size HB.out.size))
        go_loopg [10, 50] 0 (fun kq v10 v50 w' => v10 = v12 ∧ v50 = .int .i64 0 ∧ Aside0 (w' = w12))
        case atStart => exact ⟨rfl, rfl, ⟨rfl⟩⟩
        case round =>
         obtain ⟨rfl, rfl, hw⟩ := hrel
         replace hw := hw.out
         subst hw
         go_wp2
         go_ret2
         exact ⟨_, Sh.eR, hO2.out, B12.out⟩
  ·rw [if_neg c1] at h
   exact absurd h (by simp)
 ·replace c3 := Bool.eq_false_iff.mpr c3
  subst c3
  rw [if_neg (by simp)] at h
  simp only [Option.some.injEq, Prod.mk.injEq] at h
  obtain ⟨rfl, rfl⟩ := h
  go_enter Try.func17, Try.ntmps17
  go_wp2_with (first | ((with_reducible refine Sh.d 1 ?_); refine Sh.bz w (N := 1) (cs := #[.slice A0 N.length c0]) (t := 29) (h := ?_); clear HB; intro bG w5 BKG GEG HB; have hcz_0 := Sh.bc BKG.out 0 rfl; have hfz_0 := blk_frozen BKG.out 0) | ((with_reducible refine Sh.k 29 ?_); refine Sh.gB (some 13) Try.func29 #[.agg #[.slice A0 N.length c0]] (impl_GoodGraph.calls k _ _ N false _ (Sh.cB HN.out) HC.out A2.out) fun wA hb => ?_; have HBG := Sh.ab BKG hb; replace HB := Sh.hb hb; clear hb BKG hcz_0 hfz_0; have hcz_0 := Sh.bc HBG.out 0 rfl))
  go_ret2
  exact ⟨_, Sh.eR, Kd.R_nil _ _ _ _ _, Sh.bw⟩

theorem impl_lev.mono_l : ∀ k, (∀ y0 y1 y2 y3 y4 y5 y6 y7, LeO (impl_lev.l1 k y0 y1 y2 y3 y4 y5 y6 y7) (impl_lev.l1 (k + 1) y0 y1 y2 y3 y4 y5 y6 y7)) ∧ (∀ y0 y1 y2 y3 y4 y5 y6 y7, LeO (impl_lev.l0 k y0 y1 y2 y3 y4 y5 y6 y7) (impl_lev.l0 (k + 1) y0 y1 y2 y3 y4 y5 y6 y7)) ∧ (∀ y0 y1 y2 y3 y4, LeO (impl_lev.f k y0 y1 y2 y3 y4) (impl_lev.f (k + 1) y0 y1 y2 y3 y4))
 | 0 => ⟨fun _ _ _ _ _ _ _ _ r h => by simp [impl_lev.l1] at h, fun _ _ _ _ _ _ _ _ r h => by simp [impl_lev.l0] at h, fun _ _ _ _ _ r h => by simp [impl_lev.f] at h⟩
 | k + 1 => by
  obtain ⟨ih0, ih1, ih2⟩ := impl_lev.mono_l k
  and_intros <;> intros
  all_goals (first | unfold impl_lev.l1 | unfold impl_lev.l0 | unfold impl_lev.f)
  all_goals repeat' with_reducible first | apply ih0 | apply ih1 | apply ih2 | exact LeO.refl _ | exact LeO.none _ | apply LeO.ite | refine LeO.bind ?_ fun _ => ?_
theorem impl_LevelsOf.mono_m : ∀ k, (∀ y0 y1 y2, LeO (impl_LevelsOf.m k y0 y1 y2) (impl_LevelsOf.m (k + 1) y0 y1 y2))
 | 0 => fun _ _ _ r h => by simp [impl_LevelsOf.m] at h
 | k + 1 => by
  have ih0 := impl_LevelsOf.mono_m k
  intros
  unfold impl_LevelsOf.m
  repeat' with_reducible first | apply ih0 | exact LeO.refl _ | exact LeO.none _ | apply LeO.ite | refine LeO.bind ?_ fun _ => ?_
theorem impl_LevelsOf.mono_v : ∀ k, (∀ y0 y1 y2 y3 y4 y5, LeO (impl_LevelsOf.v k y0 y1 y2 y3 y4 y5) (impl_LevelsOf.v (k + 1) y0 y1 y2 y3 y4 y5))
 | 0 => fun _ _ _ _ _ _ r h => by simp [impl_LevelsOf.v] at h
 | k + 1 => by
  have ih0 := impl_LevelsOf.mono_v k
  have ih1 := (impl_lev.mono_l k).2.2
  intros
  unfold impl_LevelsOf.v
  repeat' with_reducible first | apply ih0 | apply ih1 | exact LeO.refl _ | exact LeO.none _ | apply LeO.ite | refine LeO.bind ?_ fun _ => ?_
theorem impl_LevelsOf.mono : ∀ a0 k, LeO (impl_LevelsOf.f k a0) (impl_LevelsOf.f (k + 1) a0) := by
  intro a0 k
  have ih0 := impl_LevelsOf.mono_m k
  have ih1 := impl_LevelsOf.mono_v k
  unfold impl_LevelsOf.f
  repeat' with_reducible first | apply ih0 | apply ih1 | apply impl_GoodGraph.mono | apply impl_parts.mono | exact LeO.refl _ | exact LeO.none _ | apply LeO.ite | refine LeO.bind ?_ fun _ => ?_
theorem impl_LevelsOf.calls (k : Nat) (A0_0 : Option Addr) (c0_0 : Nat) (l0_0 : List (List Int)) (r1 : List Int) (r2 : Bool) (w : World) (hr0_0 : Kd.C (Kd.slice 3 (Kd.int .i64)) w A0_0 l0_0.length l0_0) (hc0_0 : l0_0.length ≤ c0_0) (h : impl_LevelsOf.f k l0_0 = some (r1, r2)) :
  Calls Try.prog 17 #[.agg #[.slice A0_0 l0_0.length c0_0]] w fun e w' => ∃ v0_ : Value, e = .returned (.tuple #[v0_, .bool r2]) ∧ Kd.R (Kd.int .i64) 3 w' w.heap.size (fun _ => True) v0_ r1 ∧ Below w.heap.size w w' := by
  exact impl_LevelsOf.calls_ k A0_0 c0_0 l0_0 r1 r2 w hr0_0 hc0_0 h
open Go.Proofs.Ytnfpolhpanpeiaa.Lw
def laws_FnExactLevelsOf.Holds (k : Nat) (l0_0 : List (List Int)) : Prop :=
 ∃ s6 : Int, laws_szGraph.f k l0_0 1048576 = some s6 ∧ ((s6 < 0) ∨ (¬ (s6 < 0)) ∧ (∃ (y18 : List Int) (y19 : Bool) (m67 : Int) (y68 : List (List Int)) (m71 : Int) (y72 : List Int), laws_toGraph.f k l0_0 = some l0_0 ∧ spec_LevelsOf.f k l0_0 = some (y18, y19) ∧ impl_LevelsOf.f k l0_0 = some (y18, y19) ∧ laws_eqIntS.f k y18 y18 = some true ∧ laws_eqGraph.f k l0_0 l0_0 = some true ∧ laws_markGraph.f k l0_0 1 = some (m67, y68) ∧ laws_markIntS.f k y18 1 = some (m71, y72) ∧ laws_heldIntS.f k y72 1 = some m71 ∧ ¬ m67 < 0 ∧ ¬ m71 < 0))
theorem laws_FnExactLevelsOf.calls (k : Nat) (A0_0 : Option Addr) (c0_0 : Nat) (l0_0 : List (List Int)) (w : World) (hr0_0 : Kd.C (Kd.slice 3 (Kd.int .i64)) w A0_0 l0_0.length l0_0) (hc0_0 : l0_0.length ≤ c0_0) (h : laws_FnExactLevelsOf.Holds k l0_0) :
  Calls Try.prog 4 #[.agg #[.slice A0_0 l0_0.length c0_0]] w fun e w' => e = .returned (.bool true) ∧ Below w.heap.size w w' := by
 have hu24 := Try.underlying24
 have hu29 := Try.underlying29
 have HR0_0 := am_ hr0_0
 have HC0_0 := am_ hc0_0
 clear hr0_0 hc0_0
 have HB := am_ (Below.refl w.heap.size w)
 have NW : 0 ≤ w.heap.size := Nat.zero_le _
 obtain ⟨s6, ESs6, h⟩ := h
 replace ESs6 := am_ ESs6
 rcases h with c | ⟨c, h⟩
 ·have cb : decide (s6 < 0) = true := decide_eq_true c
  clear c
  go_enter Try.func4, Try.ntmps4
  go_wp2_with (first | ((with_reducible refine Sh.d 1 ?_); refine Sh.bx (N := 1) (cs := #[.slice A0_0 l0_0.length c0_0]) (t := 24) (h := ?_); intro g1 hg w3 hbox hb; have BK2 := box_new (w := w) (W := w) HB.out hg hbox; have oa4 := new_g (W := w) hg NW; replace HB := am_ (below_step HB.out hb); replace NW := Nat.le_trans NW hb.size; replace NW := BK2.lt; clear hb hbox hg; have hczq5_0 : w3.cell? ⟨g1, 0, none⟩ = some (.slice A0_0 l0_0.length c0_0) := (blk_cell BK2.b 0).trans rfl; have hfzq5_0 := blk_frozen BK2.b 0) | ((with_reducible refine Sh.k 7 ?_); refine Sh.gL (some 16) Try.func7 #[.agg #[.slice A0_0 l0_0.length c0_0], .int .i64 1048576] (h := ?_); (with_reducible refine (laws_szGraph.calls k _ _ l0_0 1048576 s6 _ (Kd.C_below HR0_0.out HB.out) HC0_0.out ESs6.out).mono ?_); rintro e w7 ⟨rfl, hb⟩; refine ⟨_, rfl, ?_⟩; replace BK2 := BK2.same hb; replace HB := am_ (below_step HB.out hb); replace NW := Nat.le_trans NW hb.size; clear hb; have hczq8_0 : w7.cell? ⟨g1, 0, none⟩ = some (.slice A0_0 l0_0.length c0_0) := (blk_cell BK2.b 0).trans rfl; have hfzq8_0 := blk_frozen BK2.b 0))
  go_ret
  exact ⟨rfl, HB.out⟩
 have cb0 : decide (s6 < 0) = false := decide_eq_false c
 clear c
 obtain ⟨y18, y19, m67, y68, m71, y72, E1, E2, E3, E4, E5, E6, E7, E8, cd0, cd1⟩ := h
 replace E1 := am_ E1
 replace E2 := am_ E2
 replace E3 := am_ E3
 replace E4 := am_ E4
 replace E5 := am_ E5
 replace E6 := am_ E6
 replace E7 := am_ E7
 replace E8 := am_ E8
 have ce0 : decide (m67 < 0) = false := decide_eq_false cd0
 clear cd0
 have ce1 : decide (m71 < 0) = false := decide_eq_false cd1
 clear cd1
 have cr0 : (y19 != y19) = false := bne_self_eq_false _
 go_enter Try.func4, Try.ntmps4
 go_upto_region 10 with (first | ((with_reducible refine Sh.d 1 ?_); refine Sh.bx (N := 1) (cs := #[.slice A0_0 l0_0.length c0_0]) (t := 24) (h := ?_); intro g1 hg w3 hbox hb; have BK2 := box_new (w := w) (W := w) HB.out hg hbox; have oa4 := new_g (W := w) hg NW; replace HB := am_ (below_step HB.out hb); replace NW := Nat.le_trans NW hb.size; replace NW := BK2.lt; clear hb hbox hg; have hczq5_0 : w3.cell? ⟨g1, 0, none⟩ = some (.slice A0_0 l0_0.length c0_0) := (blk_cell BK2.b 0).trans rfl; have hfzq5_0 := blk_frozen BK2.b 0) | ((with_reducible refine Sh.k 7 ?_); refine Sh.gL (some 16) Try.func7 #[.agg #[.slice A0_0 l0_0.length c0_0], .int .i64 1048576] (h := ?_); (with_reducible refine (laws_szGraph.calls k _ _ l0_0 1048576 s6 _ (Kd.C_below HR0_0.out HB.out) HC0_0.out ESs6.out).mono ?_); rintro e w7 ⟨rfl, hb⟩; refine ⟨_, rfl, ?_⟩; replace BK2 := BK2.same hb; replace HB := am_ (below_step HB.out hb); replace NW := Nat.le_trans NW hb.size; clear hb; have hczq8_0 : w7.cell? ⟨g1, 0, none⟩ = some (.slice A0_0 l0_0.length c0_0) := (blk_cell BK2.b 0).trans rfl; have hfzq8_0 := blk_frozen BK2.b 0) | ((with_reducible refine Sh.k 9 ?_); refine Sh.gL (some 21) Try.func9 #[.agg #[.slice A0_0 l0_0.length c0_0]] (h := ?_); (with_reducible refine (laws_toGraph.calls k _ _ l0_0 l0_0 _ (Kd.C_below HR0_0.out HB.out) HC0_0.out E1.out).mono ?_); rintro e w9 ⟨v0_, rfl, ho0, hb⟩; refine ⟨_, rfl, ?_⟩; obtain ⟨lo11, hi12, HO10, oa13, ob14, NW2⟩ := new1 (F := fun lo_ hi_ => HeldS (Kd.slice 3 (Kd.int .i64)) 26 w9 w.heap.size lo_ hi_ v0_ l0_0) (heldS_new ho0 hb HB.out) hb NW; replace BK2 := BK2.same hb; replace HB := am_ (below_step HB.out hb); replace NW := Nat.le_trans NW hb.size; replace NW := NW2; skip; obtain ⟨A15, c16, e17⟩ := HO10.slice; subst e17; clear hb ho0) | ((with_reducible refine Sh.k 16 ?_); refine Sh.gL (some 22) Try.func16 #[.agg #[.slice A15 l0_0.length c16]] (h := ?_); (with_reducible refine (spec_LevelsOf.calls k _ _ l0_0 y18 y19 _ HO10.C HO10.c E2.out).mono ?_); rintro e w20 ⟨v0_, rfl, ho0, hb⟩; refine ⟨_, rfl, ?_⟩; obtain ⟨lo22, hi23, HO21, oa24, ob25, NW2⟩ := new1 (F := fun lo_ hi_ => Held (Kd.int .i64) 3 w20 w.heap.size lo_ hi_ v0_ y18) (held_new ho0 hb HB.out) hb NW; replace BK2 := BK2.same hb; replace HO10 := HO10.same hb; replace HB := am_ (below_step HB.out hb); replace NW := Nat.le_trans NW hb.size; replace NW := NW2; skip; obtain ⟨A26, c27, e28⟩ := HO21.slice; subst e28; clear hb ho0; have hczq29_0 : w20.cell? ⟨g1, 0, none⟩ = some (.slice A0_0 l0_0.length c0_0) := (blk_cell BK2.b 0).trans rfl; have hfzq29_0 := blk_frozen BK2.b 0) | ((with_reducible refine Sh.k 9 ?_); refine Sh.gL (some 26) Try.func9 #[.agg #[.slice A0_0 l0_0.length c0_0]] (h := ?_); (with_reducible refine (laws_toGraph.calls k _ _ l0_0 l0_0 _ (Kd.C_below HR0_0.out HB.out) HC0_0.out E1.out).mono ?_); rintro e w30 ⟨v0_, rfl, ho0, hb⟩; refine ⟨_, rfl, ?_⟩; obtain ⟨lo32, hi33, HO31, oa34, ob35, NW2⟩ := new1 (F := fun lo_ hi_ => HeldS (Kd.slice 3 (Kd.int .i64)) 26 w30 w.heap.size lo_ hi_ v0_ l0_0) (heldS_new ho0 hb HB.out) hb NW; replace BK2 := BK2.same hb; replace HO10 := HO10.same hb; replace HO21 := HO21.same hb; replace HB := am_ (below_step HB.out hb); replace NW := Nat.le_trans NW hb.size; replace NW := NW2; skip; obtain ⟨A36, c37, e38⟩ := HO31.slice; subst e38; clear hb ho0) | ((with_reducible refine Sh.d 6 ?_); refine Sh.bx (N := 6) (cs := #[.slice none 0 0]) (t := 29) (h := ?_); intro g39 hg w41 hbox hb; have BK40 := box_new (w := w) (W := w30) HB.out hg hbox; have oa42 := new_g (W := w30) hg NW; replace BK2 := BK2.same hb; replace HO10 := HO10.same hb; replace HO21 := HO21.same hb; replace HO31 := HO31.same hb; replace HB := am_ (below_step HB.out hb); replace NW := Nat.le_trans NW hb.size; replace NW := BK40.lt; clear hb hbox hg) | ((with_reducible refine gate_ (.store 29 (.tmp 6) (.tmp 26)) rfl ?_); refine store_event 6 (.tmp 26) rfl rfl rfl BK40 rfl [.slice A36 l0_0.length c37] rfl rfl ?hs rfl ?h1 ?_; (case hs => kernel_rfl); (case h1 => (simp only [List.mem_cons, List.not_mem_nil, or_false]; intro q_ h_; (subst h_; rfl))); intro w43 hbx hb hk; replace BK2 := BK2.move hk (by omega); replace HO10 := HO10.move hk (by omega); replace HO21 := HO21.move hk (by omega); replace HO31 := HO31.move hk (by omega); replace BK40 := hbx; replace NW := Nat.le_trans NW hk.1; replace HB := am_ (HB.out.trans hb); clear hk hb; have hczq44_0 : w43.cell? ⟨g39, 0, none⟩ = some (.slice A36 l0_0.length c37) := (blk_cell BK40.b 0).trans rfl; have hfzq44_0 := blk_frozen BK40.b 0) | ((with_reducible refine Sh.k 17 ?_); refine Sh.gL (some 29) Try.func17 #[.agg #[.slice A36 l0_0.length c37]] (h := ?_); (with_reducible refine (impl_LevelsOf.calls k _ _ l0_0 y18 y19 _ HO31.C HO31.c E3.out).mono ?_); rintro e w45 ⟨v0_, rfl, ho0, hb⟩; refine ⟨_, rfl, ?_⟩; obtain ⟨lo47, hi48, HO46, oa49, ob50, NW2⟩ := new1 (F := fun lo_ hi_ => Held (Kd.int .i64) 3 w45 w.heap.size lo_ hi_ v0_ y18) (held_new ho0 hb HB.out) hb NW; replace BK2 := BK2.same hb; replace HO10 := HO10.same hb; replace HO21 := HO21.same hb; replace HO31 := HO31.same hb; replace BK40 := BK40.same hb; replace HB := am_ (below_step HB.out hb); replace NW := Nat.le_trans NW hb.size; replace NW := NW2; skip; obtain ⟨A51, c52, e53⟩ := HO46.slice; subst e53; clear hb ho0) | ((with_reducible refine Sh.k 11 ?_); refine Sh.gL (some 34) Try.func11 #[.slice A51 y18.length c52, .slice A26 y18.length c27] (h := ?_); (with_reducible refine (laws_eqIntS.calls k _ _ y18 _ _ y18 true _ HO46.C HO46.c HO21.C HO21.c E4.out).mono ?_); rintro e w54 ⟨rfl, hb⟩; refine ⟨_, rfl, ?_⟩; replace hb := hb.below; replace BK2 := BK2.same hb; replace HO10 := HO10.same hb; replace HO21 := HO21.same hb; replace HO31 := HO31.same hb; replace BK40 := BK40.same hb; replace HO46 := HO46.same hb; replace HB := am_ (below_step HB.out hb); replace NW := Nat.le_trans NW hb.size; clear hb))
 (try simp only [Act.put, List.setIfInBounds_toArray, List.set_cons_zero, List.set_cons_succ])
 try go_wp2
 have hb : Below w54.heap.size w54 w54.drew := below_drew (Below.refl _ _)
 replace BK2 := BK2.same hb
 replace HO10 := HO10.same hb
 replace HO21 := HO21.same hb
 replace HO31 := HO31.same hb
 replace BK40 := BK40.same hb
 replace HO46 := HO46.same hb
 replace HB := am_ (below_step HB.out hb)
 replace NW := Nat.le_trans NW hb.size
 clear hb
 have hL_ : 0 ≤ 0 := Nat.le_refl 0
 refine start_ (n := 5) (S := fun w' => w'.cell? ⟨g39, 0, none⟩ = some (.slice A36 l0_0.length c37) ∧ w'.cell? ⟨g1, 0, none⟩ = some (.slice A0_0 l0_0.length c0_0)) (ds := []) (Sh.nm 5 0) (by kernel_rfl) rfl rfl ⟨(blk_cell BK40.b 0).trans rfl, (blk_cell BK2.b 0).trans rfl⟩ (fun hHeld => ?_)
 generalize w54.drew = w55 at BK2 HO10 HO21 HO31 BK40 HO46 HB NW hHeld ⊢
 clear hL_
 refine Sh.tA 0 41 (Sh.nm 5 1) (by kernel_rfl) hHeld ?_ (hy := by rintro w' ⟨s0, s1⟩; go_simp; with_reducible rfl)
 refine Sh.tA 1 42 (Sh.nm 5 3) (by kernel_rfl) hHeld ?_ (hy := by rintro w' ⟨s0, s1⟩; go_simp; with_reducible rfl)
 refine one_ (i := 2) (N := some 43) (Sh.nm 5 7) rfl rfl (by kernel_rfl) (by decide) (fun K hK => ?_)
 refine goes_ Try.func9 (by kernel_rfl) rfl #[.agg #[.slice A0_0 l0_0.length c0_0]] (by rfl) rfl rfl (by (try simp only [List.map_toArray, List.map_cons, List.map_nil]); first | done | rfl | (simp only [List.length_drop, List.length_take]; rfl)) ?_
 with_reducible refine (laws_toGraph.calls k _ _ l0_0 l0_0 _ (Kd.C_below HR0_0.out HB.out) HC0_0.out E1.out).mono ?_
 rintro e w56 ⟨v0_, rfl, ho0, hb⟩
 refine ⟨_, rfl, ?_⟩
 obtain ⟨lo58, hi59, HO57, oa60, ob61, NW2⟩ := new1 (F := fun lo_ hi_ => HeldS (Kd.slice 3 (Kd.int .i64)) 26 w56 w.heap.size lo_ hi_ v0_ l0_0) (heldS_new ho0 hb HB.out) hb NW
 replace BK2 := BK2.same hb
 replace HO10 := HO10.same hb
 replace HO21 := HO21.same hb
 replace HO31 := HO31.same hb
 replace BK40 := BK40.same hb
 replace HO46 := HO46.same hb
 replace HB := am_ (below_step HB.out hb)
 replace NW := Nat.le_trans NW hb.size
 replace NW := NW2
 skip
 obtain ⟨A62, c63, e64⟩ := HO57.slice
 subst e64
 clear hb ho0
 refine Sh.kN hK ⟨(blk_cell BK40.b 0).trans rfl, (blk_cell BK2.b 0).trans rfl⟩ fun hHeld => ?_
 clear hK K
 refine one_ (i := 3) (N := some 44) (Sh.nm 5 15) rfl rfl (by kernel_rfl) (by decide) (fun K hK => ?_)
 refine goes_ Try.func12 (by kernel_rfl) rfl #[.agg #[.slice A36 l0_0.length c37], .agg #[.slice A62 l0_0.length c63]] (by rfl) rfl rfl (by (try simp only [List.map_toArray, List.map_cons, List.map_nil]); first | done | rfl | (simp only [List.length_drop, List.length_take]; rfl)) ?_
 with_reducible refine (laws_eqGraph.calls k _ _ l0_0 _ _ l0_0 true _ HO31.C HO31.c HO57.C HO57.c E5.out).mono ?_
 rintro e w65 ⟨rfl, hb⟩
 refine ⟨_, rfl, ?_⟩
 replace BK2 := BK2.same hb
 replace HO10 := HO10.same hb
 replace HO21 := HO21.same hb
 replace HO31 := HO31.same hb
 replace BK40 := BK40.same hb
 replace HO46 := HO46.same hb
 replace HO57 := HO57.same hb
 replace HB := am_ (below_step HB.out hb)
 replace NW := Nat.le_trans NW hb.size
 clear hb
 refine Sh.kN hK ⟨(blk_cell BK40.b 0).trans rfl, (blk_cell BK2.b 0).trans rfl⟩ fun hHeld => ?_
 clear hK K
 refine Sh.pA 4 45 (Sh.nm 5 31) (by kernel_rfl) ?_
 refine done_ (by kernel_rfl) ?_
 have hczq66_0 : w65.cell? ⟨g39, 0, none⟩ = some (.slice A36 l0_0.length c37) := (blk_cell BK40.b 0).trans rfl; have hfzq66_0 := blk_frozen BK40.b 0
 go_wp2_with (first | ((with_reducible refine Sh.k 13 ?_); refine Sh.gL (some 48) Try.func13 #[.agg #[.slice A36 l0_0.length c37], .int .i64 1] (h := ?_); (with_reducible refine (laws_markGraph.calls k (fun k_ => lo32 ≤ k_ ∧ k_ < hi33) _ l0_0 1 m67 y68 w _ HB.out HO31.r E6.out).mono ?_); rintro e w69 ⟨rfl, hm0, hb, hk⟩; refine ⟨_, rfl, ?_⟩; replace hk : Kept w65 w69 (fun k_ => lo32 ≤ k_ ∧ k_ < hi33) := hk; replace BK2 := BK2.move hk (by omega); replace HO10 := HO10.move hk (by omega); replace HO21 := HO21.move hk (by omega); replace BK40 := BK40.move hk (by omega); replace HO46 := HO46.move hk (by omega); replace HO57 := HO57.move hk (by omega); replace HO31 := HO31.marked hm0 hk; replace NW := Nat.le_trans NW hk.1; replace HB := am_ hb; clear hk hb hm0) | ((with_reducible refine Sh.k 11 ?_); (with_reducible refine Sh.d 54 ?_); (try simp only [ce0, ce1, cr0]); refine gate_guard (by rfl) ?_; dsimp only; refine Sh.gL (some 54) Try.func11 #[.slice A51 y18.length c52, .slice A26 y18.length c27] (h := ?_); (with_reducible refine (laws_eqIntS.calls k _ _ y18 _ _ y18 true _ HO46.C HO46.c HO21.C HO21.c E4.out).mono ?_); rintro e w70 ⟨rfl, hb⟩; refine ⟨_, rfl, ?_⟩; replace hb := hb.below; replace BK2 := BK2.same hb; replace HO10 := HO10.same hb; replace HO21 := HO21.same hb; replace HO31 := HO31.same hb; replace BK40 := BK40.same hb; replace HO46 := HO46.same hb; replace HO57 := HO57.same hb; replace HB := am_ (below_step HB.out hb); replace NW := Nat.le_trans NW hb.size; clear hb) | ((with_reducible refine Sh.k 14 ?_); refine Sh.gL (some 64) Try.func14 #[.slice A51 y18.length c52, .int .i64 1] (h := ?_); (with_reducible refine (laws_markIntS.calls k (fun k_ => lo47 ≤ k_ ∧ k_ < hi48) _ y18 1 m71 y72 w _ HB.out HO46.r E7.out).mono ?_); rintro e w73 ⟨rfl, hm0, hb, hk⟩; refine ⟨_, rfl, ?_⟩; replace hk : Kept w70 w73 (fun k_ => lo47 ≤ k_ ∧ k_ < hi48) := hk; replace BK2 := BK2.move hk (by omega); replace HO10 := HO10.move hk (by omega); replace HO21 := HO21.move hk (by omega); replace HO31 := HO31.move hk (by omega); replace BK40 := BK40.move hk (by omega); replace HO57 := HO57.move hk (by omega); replace HO46 := HO46.marked rfl hm0 hk; replace NW := Nat.le_trans NW hk.1; replace HB := am_ hb; clear hk hb hm0) | ((with_reducible refine Sh.k 15 ?_); refine Sh.gL (some 67) Try.func15 #[.slice A51 y18.length c52, .int .i64 1] (h := ?_); refine calls_of_args (args' := #[.slice A51 y72.length c52, .int .i64 1]) (by rw [← HO46.n]) ?_; (with_reducible refine (laws_heldIntS.calls k _ _ y72 1 m71 _ HO46.C HO46.c E8.out).mono ?_); rintro e w74 ⟨rfl, hb⟩; refine ⟨_, rfl, ?_⟩; replace hb := hb.below; replace BK2 := BK2.same hb; replace HO10 := HO10.same hb; replace HO21 := HO21.same hb; replace HO31 := HO31.same hb; replace BK40 := BK40.same hb; replace HO46 := HO46.same hb; replace HO57 := HO57.same hb; replace HB := am_ (below_step HB.out hb); replace NW := Nat.le_trans NW hb.size; clear hb; have hczq75_0 : w74.cell? ⟨g1, 0, none⟩ = some (.slice A0_0 l0_0.length c0_0) := (blk_cell BK2.b 0).trans rfl; have hfzq75_0 := blk_frozen BK2.b 0) | ((with_reducible refine Sh.k 9 ?_); refine Sh.gL (some 75) Try.func9 #[.agg #[.slice A0_0 l0_0.length c0_0]] (h := ?_); (with_reducible refine (laws_toGraph.calls k _ _ l0_0 l0_0 _ (Kd.C_below HR0_0.out HB.out) HC0_0.out E1.out).mono ?_); rintro e w76 ⟨v0_, rfl, ho0, hb⟩; refine ⟨_, rfl, ?_⟩; obtain ⟨lo78, hi79, HO77, oa80, ob81, NW2⟩ := new1 (F := fun lo_ hi_ => HeldS (Kd.slice 3 (Kd.int .i64)) 26 w76 w.heap.size lo_ hi_ v0_ l0_0) (heldS_new ho0 hb HB.out) hb NW; replace BK2 := BK2.same hb; replace HO10 := HO10.same hb; replace HO21 := HO21.same hb; replace HO31 := HO31.same hb; replace BK40 := BK40.same hb; replace HO46 := HO46.same hb; replace HO57 := HO57.same hb; replace HB := am_ (below_step HB.out hb); replace NW := Nat.le_trans NW hb.size; replace NW := NW2; skip; obtain ⟨A82, c83, e84⟩ := HO77.slice; subst e84; clear hb ho0) | ((with_reducible refine Sh.k 17 ?_); refine Sh.gL (some 76) Try.func17 #[.agg #[.slice A82 l0_0.length c83]] (h := ?_); (with_reducible refine (impl_LevelsOf.calls k _ _ l0_0 y18 y19 _ HO77.C HO77.c E3.out).mono ?_); rintro e w85 ⟨v0_, rfl, ho0, hb⟩; refine ⟨_, rfl, ?_⟩; obtain ⟨lo87, hi88, HO86, oa89, ob90, NW2⟩ := new1 (F := fun lo_ hi_ => Held (Kd.int .i64) 3 w85 w.heap.size lo_ hi_ v0_ y18) (held_new ho0 hb HB.out) hb NW; replace BK2 := BK2.same hb; replace HO10 := HO10.same hb; replace HO21 := HO21.same hb; replace HO31 := HO31.same hb; replace BK40 := BK40.same hb; replace HO46 := HO46.same hb; replace HO57 := HO57.same hb; replace HO77 := HO77.same hb; replace HB := am_ (below_step HB.out hb); replace NW := Nat.le_trans NW hb.size; replace NW := NW2; skip; obtain ⟨A91, c92, e93⟩ := HO86.slice; subst e93; clear hb ho0) | ((with_reducible refine Sh.k 11 ?_); refine Sh.gL (some 81) Try.func11 #[.slice A91 y18.length c92, .slice A26 y18.length c27] (h := ?_); (with_reducible refine (laws_eqIntS.calls k _ _ y18 _ _ y18 true _ HO86.C HO86.c HO21.C HO21.c E4.out).mono ?_); rintro e w94 ⟨rfl, hb⟩; refine ⟨_, rfl, ?_⟩; replace hb := hb.below; replace BK2 := BK2.same hb; replace HO10 := HO10.same hb; replace HO21 := HO21.same hb; replace HO31 := HO31.same hb; replace BK40 := BK40.same hb; replace HO46 := HO46.same hb; replace HO57 := HO57.same hb; replace HO77 := HO77.same hb; replace HO86 := HO86.same hb; replace HB := am_ (below_step HB.out hb); replace NW := Nat.le_trans NW hb.size; clear hb) | ((with_reducible refine Sh.k 15 ?_); refine Sh.gL (some 90) Try.func15 #[.slice A51 y18.length c52, .int .i64 1] (h := ?_); refine calls_of_args (args' := #[.slice A51 y72.length c52, .int .i64 1]) (by rw [← HO46.n]) ?_; (with_reducible refine (laws_heldIntS.calls k _ _ y72 1 m71 _ HO46.C HO46.c E8.out).mono ?_); rintro e w95 ⟨rfl, hb⟩; refine ⟨_, rfl, ?_⟩; replace hb := hb.below; replace BK2 := BK2.same hb; replace HO10 := HO10.same hb; replace HO21 := HO21.same hb; replace HO31 := HO31.same hb; replace BK40 := BK40.same hb; replace HO46 := HO46.same hb; replace HO57 := HO57.same hb; replace HO77 := HO77.same hb; replace HO86 := HO86.same hb; replace HB := am_ (below_step HB.out hb); replace NW := Nat.le_trans NW hb.size; clear hb))
 go_ret
 exact ⟨rfl, HB.out⟩
end Go.Proofs.Ytnfpolhpanpeiaa.P
