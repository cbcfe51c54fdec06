/- Go functions of this seat as Lean functions, and the proofs that the calls come to what these say; printed by a program of this session. No condition. -/
import Derived.Test.YtdbfcmoifpgnbaaGreatP0
import Derived.Test.YtdbfcmoifpgnbaaGreatMFnExactPathTo3
set_option linter.unusedVariables false
set_option linter.unusedSimpArgs false
set_option maxHeartbeats 40000000
set_option maxRecDepth 100000
namespace Go.Proofs.YtdbfcmoifpgnbaaGreat.P
open Go.RowKit Go.Proofs.YtdbfcmoifpgnbaaGreatW.PrintWords Go.Proofs.YtdbfcmoifpgnbaaGreatW.PrintLast Go.Proofs.YtdbfcmoifpgnbaaGreatW.PrintMore Go.Proofs.YtdbfcmoifpgnbaaGreat.Hof
attribute [local go_sem] max2_int min2_int max_two min_two max_three min_three max_four min_four
mutual
def Qaf.l0 : Nat → List (List Int) → List Int → List Int → List Int → Int → Int → Option (List Int)
 | 0, _, _, _, _, _, _ => none
 | k + 1, x0, x5, x6, af, ai, ae => if ae < ai then (if 0 ≤ ae then (if ae < (af.length : Int) then (if 0 ≤ (rd af ae) then (if (rd af ae) < (x5.length : Int) then (Qaf.l0 k x0 (x5.set ((rd af ae) : Int).toNat 0) x6 af ai (wrap64 (ae + 1))) else (none)) else (none)) else (none)) else (none)) else (Qaf.l1 k x0 x5 x6)
def Qaf.l1 : Nat → List (List Int) → List Int → List Int → Option (List Int)
 | 0, _, _, _ => none
 | k + 1, x0, x5, x6 => if (x6.length : Int) > 0 then (if 0 < (x6.length : Int) then (if 0 ≤ (rd x6 0) then (if (rd x6 0) < (x0.length : Int) then (Qaf.l2 k x0 x5 x6 (rd_L12 x0 (rd x6 0)) ((rd_L12 x0 (rd x6 0)).length : Int) 0) else (none)) else (none)) else (none)) else (some x5)
def Qaf.l2 : Nat → List (List Int) → List Int → List Int → List Int → Int → Int → Option (List Int)
 | 0, _, _, _, _, _, _ => none
 | k + 1, x0, x5, x6, ac, ah, aa => if aa < ah then (if 0 ≤ aa then (if aa < (ac.length : Int) then (if 0 ≤ (rd ac aa) then (if (rd ac aa) < (x5.length : Int) then (if (rd x5 (rd ac aa)) < 0 then (if 0 < (x6.length : Int) then (if 0 ≤ (rd x6 0) then (if (rd x6 0) < (x5.length : Int) then (if x6.length < 17592186044416 then (Qaf.l2 k x0 (x5.set ((rd ac aa) : Int).toNat (wrap64 ((rd x5 (rd x6 0)) + 1))) (x6 ++ [rd ac aa]) ac ah (wrap64 (aa + 1))) else (none)) else (none)) else (none)) else (none)) else (Qaf.l2 k x0 x5 x6 ac ah (wrap64 (aa + 1)))) else (none)) else (none)) else (none)) else (none)) else (if 1 ≤ (x6.length : Int) then (Qaf.l1 k x0 x5 (x6.drop (1 : Int).toNat)) else (none))
end
def Qaf.f (k : Nat) (l0 : List (List Int)) (l1 : List Int) : Option (List Int) := (Qbv.f (([(-1)] : List Int)) (l0.length : Int)).bind fun aa => ((QbD.f l1).bind fun ac => (Qaf.l0 k l0 aa ac l1 (l1.length : Int) 0))
theorem Qaf.mono_l : ∀ k, (∀ y0 y1 y2 y3 y4 y5, LeO (Qaf.l0 k y0 y1 y2 y3 y4 y5) (Qaf.l0 (k + 1) y0 y1 y2 y3 y4 y5)) ∧ (∀ y0 y1 y2, LeO (Qaf.l1 k y0 y1 y2) (Qaf.l1 (k + 1) y0 y1 y2)) ∧ (∀ y0 y1 y2 y3 y4 y5, LeO (Qaf.l2 k y0 y1 y2 y3 y4 y5) (Qaf.l2 (k + 1) y0 y1 y2 y3 y4 y5))
 | 0 => ⟨fun _ _ _ _ _ _ r h => by simp [Qaf.l0] at h, fun _ _ _ r h => by simp [Qaf.l1] at h, fun _ _ _ _ _ _ r h => by simp [Qaf.l2] at h⟩
 | k + 1 => by
  obtain ⟨aa, ac, ae⟩ := Qaf.mono_l k
  and_intros <;> intros
  all_goals (first | unfold Qaf.l0 | unfold Qaf.l1 | unfold Qaf.l2)
  all_goals repeat' with_reducible first | apply aa | apply ac | apply ae | exact LeO.refl _ | exact LeO.none _ | apply LeO.ite | refine LeO.bind ?_ fun _ => ?_
theorem Qaf.mono : ∀ a0 a1 k, LeO (Qaf.f k a0 a1) (Qaf.f (k + 1) a0 a1) := by
 intro a0 a1 k;obtain ⟨aa, ac, ae⟩ := Qaf.mono_l k;unfold Qaf.f;repeat' with_reducible first | apply aa | apply ac | apply ae | exact LeO.refl _ | exact LeO.none _ | apply LeO.ite | refine LeO.bind ?_ fun _ => ?_
theorem Qaf.calls (k : Nat) (A0 : Option Addr) (c0 : Nat) (l0 : List (List Int)) (A1 : Option Addr) (c1 : Nat) (l1 : List Int) (r : List Int) (w : World) (c9 : Kd.C (Kd.slice 3 (Kd.int .i64)) w A0 l0.length l0) (hc0 : l0.length ≤ c0) (hr1 : Kd.C (Kd.int .i64) w A1 l1.length l1) (da : l1.length ≤ c1) (h : Qaf.f k l0 l1 = some r) :
  Calls Tryz.prog 46 #[.slice A0 l0.length c0, .slice A1 l1.length c1] w fun e w' => ∃ db : Value, e = .returned (db) ∧ Kd.R (Kd.int .i64) 3 w' w.heap.size (fun _ => True) db r ∧ Below w.heap.size w w' := by
 have dl := am_ c9;have dN := am_ hc0;clear c9 hc0;have dc := am_ hr1;have dm := am_ da;clear hr1 da;have HB := am_ (Below.refl w.heap.size w);have H := h;clear h;unfold Qaf.f at H;obtain ⟨bm, au⟩ : ∃ y_ : List Int, y_ = (([(-1)] : List Int)) := ⟨_, rfl⟩;replace H : ((Qbv.f bm (l0.length : Int)).bind fun aX => ((QbD.f l1).bind fun az => (Qaf.l0 k l0 aX az l1 (l1.length : Int) 0))) = some r := by first | (rw [au]; with_reducible exact H) | (have ap := (Option.bind_some _ _).symm.trans H; rw [au]; with_reducible exact ap) | (have ap := (Option.bind_some _ _).symm.trans H; with_reducible exact ap) | with_reducible exact H | (rw [au]; exact H) | exact H
 have a8 := am_ au;clear au;obtain ⟨aX, A3, H⟩ := Sh.ba H;obtain ⟨az, A4, H⟩ := Sh.ba H;have H' := am_ H;clear H;go_enter Tryz.func46, Tryz.ntmps46;go_wp2_with (first | ((with_reducible refine Sh.d 11 ?_); refine Kd.R_lit (Kd.int .i64) _ 3 ?hg (N := 11) ?hd (xs := ([(-1)] : List Int)) (inner := [.int .i64 (-1)]) (ok := fun _ => True) (okp := fun _ => True) ?hr ?hp (fun _ hk => hk) trivial (Below.refl _ _) (Nat.le_refl _) (by simp) ?_; (case hd => rfl); (case hg => rfl); (case hr => first | (go_simp; done) | (go_simp; rfl)); (case hp => exact (Reps.one (show Kd.M (Kd.int .i64) _ _ _ (-1) [.int .i64 (-1)] from rfl) (Reps.none _ _))); intro dn w5 bR hb hg_ hnew_; clear hg_ hnew_; (first | rw [← a8.out] at bR | (simp only [Int.reduceToNat] at bR; rw [← a8.out] at bR)); have ak := am_ (Kd.R_lower bR (below_size Sh.bw)); replace HB := Sh.hb hb; clear hb bR; obtain ⟨dp, dq, dt⟩ := Kd.R_slice ak.out; subst dt) | ((with_reducible refine Sh.k 62 ?_); refine Sh.gL (some 14) Tryz.func62 #[.slice dp bm.length dq, .int .i64 (l0.length : Int)] (h := ?_); (with_reducible refine (Qbv.calls _ _ bm (l0.length : Int) aX _ (Sh.cR (Kd.R_reads' ak.out).2.2) (Kd.R_reads' ak.out).2.1 A3.out).mono ?_); rintro e w8 ⟨aA, rfl, bf, hb⟩; refine ⟨_, rfl, ?_⟩; have aI := am_ (Kd.R_lower (Kd.R_new' bf (Kd.R_lt (Sh.rl ak.out))) (below_size Sh.bw)); replace ak := am_ (Kd.R_elder' (Sh.rl ak.out) (Kd.R_base bf) hb); replace HB := Sh.hb hb; (try clear hb); (try clear hk); (try clear bf)) | ((with_reducible refine Sh.k 63 ?_); refine Sh.gL (some 16) Tryz.func63 #[.slice A1 l1.length c1] (h := ?_); (with_reducible refine (QbD.calls _ _ l1 az _ (Sh.cB dc.out) dm.out A4.out).mono ?_); rintro e w9 ⟨bn, rfl, bf, hb⟩; refine ⟨_, rfl, ?_⟩; have bS := am_ (Kd.R_lower (Kd.R_new' (Kd.R_new' bf (Kd.R_lt (Sh.rl ak.out))) (Kd.R_lt (Sh.rl aI.out))) (below_size Sh.bw)); replace ak := am_ (Kd.R_elder' (Sh.rl ak.out) (Kd.R_base bf) hb); replace aI := am_ (Kd.R_elder' (Sh.rl aI.out) (Kd.R_base bf) hb); replace HB := Sh.hb hb; (try clear hb); (try clear bf)));go_loopg [19] k (fun kq du w' => ∃ (ao : List Int) (ae : Int), du = .int .i64 ae ∧ Aside0 (Qaf.l0 kq l0 ao az l1 (l1.length : Int) ae = some r) ∧ Aside0 (kq ≤ k) ∧ Aside0 (Kd.R (Kd.int .i64) 3 w' w.heap.size (fun k_ => some k_ ≠ (bn : Value).ownBlock) aA ao) ∧ Aside0 (Kd.Q (Kd.int .i64) 3 w' w.heap.size (fun k_ => some k_ ≠ (aA : Value).ownBlock) bn az) ∧ Aside0 (Below w.heap.size w w'))
 case atStart => exact ⟨(aX), (0), (Sh.es), H', ⟨Nat.le_refl _⟩, ⟨Sh.rl (Kd.R_mono aI.out (fun _ hk => hk.2))⟩, ⟨Kd.Q_of_R (Sh.rl (Kd.R_mono bS.out (fun _ hk => hk.2)))⟩, ⟨Sh.bw⟩⟩
 case round =>
  clear H';obtain ⟨ao, ae, rfl, HA, bg, af, aj, HB⟩ := hrel;cases gk with
  | zero => exact absurd HA.out (by simp [Qaf.l0])
  | succ k1 =>
   have H := HA.out;clear HA;simp only [Qaf.l0] at H;by_cases bL : ae < (l1.length : Int)
   ·rw [if_pos bL] at H
    replace bL := decide_eq_true bL;by_cases cf : 0 ≤ ae
    ·rw [if_pos cf] at H
     replace cf := decide_eq_true cf;by_cases cg : ae < (l1.length : Int)
     ·rw [if_pos cg] at H
      replace cg := decide_eq_true cg;by_cases ch : 0 ≤ (rd l1 ae)
      ·rw [if_pos ch] at H
       replace ch := decide_eq_true ch;by_cases ci : (rd l1 ae) < (ao.length : Int)
       ·rw [if_pos ci] at H
        replace ci := decide_eq_true ci;obtain ⟨bo, av⟩ : ∃ y_ : List Int, y_ = (ao.set ((rd l1 ae) : Int).toNat 0) := ⟨_, rfl⟩;replace H : (Qaf.l0 k1 l0 bo az l1 (l1.length : Int) (wrap64 (ae + 1))) = some r := by first | (rw [av]; with_reducible exact H) | (have ap := (Option.bind_some _ _).symm.trans H; rw [av]; with_reducible exact ap) | (have ap := (Option.bind_some _ _).symm.trans H; with_reducible exact ap) | with_reducible exact H | (rw [av]; exact H) | exact H
        have bT := am_ av;clear av;have H' := am_ H;clear H;have bp : 0 ≤ (ae : Int) := Sh.od;have bq : ae < (l1.length : Int) := Sh.od;obtain ⟨dd, cx, am⟩ := Kd.at_int dc.out ae bp bq;cases cx;try replace am := Sh.cw am
        replace bp := eq_true bp;replace bq := eq_true bq;have cy : 0 ≤ ((rd l1 ae) : Int) := Sh.od;have cz : ((rd l1 ae) : Int) < ((ao.length : Int) : Int) := Sh.od;obtain ⟨aT, br, bU, bV, cA, dv, bW⟩ := Kd.R_form af.out (by omega);(first | cases bU | (injection bU with ea_ en_ ec_; (first | subst ea_ | (injection ea_ with ea_; subst ea_)); subst ec_; clear en_));have cC := am_ bV;have dw := am_ bW;clear bV cA bW;obtain ⟨aU, cD⟩ := Kd.R_celln 0 af.out ((rd l1 ae) : Int) cy cz;replace cy := eq_true cy;replace cz := eq_true cz;have bs := Kd.R_putg af.out ((rd l1 ae) : Int) 0;go_wp2_with (first | ((with_reducible refine gate_store (t := 3) (p := 25) rfl ?_); refine store_event (t := 3) (p := 25) (v := ?vo_w17) (w1 := (wr.setCell ⟨aT, ((rd l1 ae) : Int).toNat, none⟩ (.int .i64 0))) ?hg ?ho ?hn ?hr ?_; (case ho => rfl); (case hg => rfl); (case hn => rfl); (case hr => first | (go_simp; done) | (go_simp; rfl)); intro cE hw; have hg : wr.grownBy cE (some aT) := (by rw [hw]; exact bs.2); have hp_ : Kd.R (Kd.int .i64) 3 cE w.heap.size (fun k_ => some k_ ≠ (bn : Value).ownBlock) (.slice (some ⟨aT, 0, none⟩) ao.length br) bo := (by rw [hw, bT.out]; exact bs.1); clear bs; replace af := am_ hp_; replace aj := am_ (Kd.Q_after (v := (.slice (some ⟨aT, 0, none⟩) ao.length br)) (v1 := (.slice (some ⟨aT, 0, none⟩) ao.length br)) (ok := (fun _ => True)) (by (with_reducible repeat (first | apply Kd.Q_alloc | apply Kd.Q_drewN | apply Kd.Q_drew)); exact Kd.Q_mono aj.out (fun _ hk => ⟨trivial, hk⟩)) hg (.inl rfl)); replace HB := am_ ((by rw [hw]; exact below_set (HB.out) cC.out : Below w.heap.size w cE)); clear hg hw hp_));go_roundg k1
        case measure => have := bg.out; omega
        case rel => exact ⟨(bo), (wrap64 (ae + 1)), (Sh.es), H', ⟨by have := bg.out; omega⟩, ⟨Sh.rl af.out⟩, ⟨by (with_reducible repeat (first | apply Kd.Q_alloc | apply Kd.Q_drewN | apply Kd.Q_drew)); exact Kd.Q_mono aj.out (fun _ hk => hk.2)⟩, ⟨Sh.bw⟩⟩
       ·rw [if_neg ci] at H
        cases H
      ·rw [if_neg ch] at H
       cases H
     ·rw [if_neg cg] at H
      cases H
    ·rw [if_neg cf] at H
     cases H
   ·rw [if_neg bL] at H
    replace bL := decide_eq_false bL;have H' := am_ H;clear H;go_wp2;go_loopg [6] k1 (fun kq v6 w' => ∃ (aY : List Int) (ac : List Int), Aside0 (Qaf.l1 kq l0 aY ac = some r) ∧ Aside0 (kq ≤ k1) ∧ Aside0 (Kd.R (Kd.int .i64) 3 w' w.heap.size (fun k_ => some k_ ≠ (v6 : Value).ownBlock) aA aY) ∧ Aside0 (Kd.Q (Kd.int .i64) 3 w' w.heap.size (fun k_ => some k_ ≠ (aA : Value).ownBlock) v6 ac) ∧ Aside0 (Below w.heap.size w w'))
    case atStart => exact ⟨(ao), (az), H', ⟨Nat.le_refl _⟩, ⟨Sh.rl af.out⟩, ⟨by (with_reducible repeat (first | apply Kd.Q_alloc | apply Kd.Q_drewN | apply Kd.Q_drew)); exact aj.out⟩, ⟨Sh.bw⟩⟩
    case round =>
     clear H';try clear dx
     try clear dy
     try clear cF
     try clear cG
     try clear aU
     try clear am
     obtain ⟨aY, ac, HA, bM, af, aj, HB⟩ := hrel;cases gk with
     | zero => exact absurd HA.out (by simp [Qaf.l1])
     | succ k2 =>
      have H := HA.out;clear HA;simp only [Qaf.l1] at H;by_cases bN : (ac.length : Int) > 0
      ·rw [if_pos bN] at H
       have c18b0 : decide (0 < (ac.length : Int)) = true := decide_eq_true bN;have c18b1 : decide (0 < ac.length) = true := decide_eq_true (by omega);clear bN;by_cases cj : 0 < (ac.length : Int)
       ·rw [if_pos cj] at H
        have c19b0 := decide_eq_true cj;have c19b1 : decide (0 < ac.length) = true := decide_eq_true (by omega);clear cj;by_cases ck : 0 ≤ (rd ac 0)
        ·rw [if_pos ck] at H
         replace ck := decide_eq_true ck;by_cases cl : (rd ac 0) < (l0.length : Int)
         ·rw [if_pos cl] at H
          replace cl := decide_eq_true cl;have H' := am_ H;clear H;obtain ⟨dz, dA, cH, _⟩ := Kd.Q_slice aj.out;subst cH;have bu : 0 ≤ (0 : Int) := (by omega);have bv : 0 < (ac.length : Int) := Sh.od;obtain ⟨de, cI, aq⟩ := Kd.at_int (Kd.Q_reads' aj.out).2.2 0 bu bv;cases cI;have df : (0 < ac.length) = True := eq_true (by omega);(try rw [show ((0 : Int)).toNat = 0 from rfl] at aq);(try rw [Addr.add_zero'] at aq);replace bu := eq_true bu;replace bv := eq_true bv;have bA : 0 ≤ ((rd ac 0) : Int) := Sh.od;have bB : (rd ac 0) < (l0.length : Int) := Sh.od;obtain ⟨dg, cJ, cK, cL, ar, aJ, aK⟩ := at_L12 dl.out (rd ac 0) bA bB;cases cL;try replace ar := Sh.cw ar
          have aM := am_ aK;have cm := am_ aJ;clear aK aJ;replace bA := eq_true bA;replace bB := eq_true bB;go_wp2;go_loopg [6, 39] k2 (fun kq v6 dB w' => ∃ (ai : List Int) (ah : List Int) (aa : Int), dB = .int .i64 aa ∧ Aside0 (Qaf.l2 kq l0 ai ah (rd_L12 l0 (rd ac 0)) ((rd_L12 l0 (rd ac 0)).length : Int) aa = some r) ∧ Aside0 (kq ≤ k2) ∧ Aside0 (Kd.R (Kd.int .i64) 3 w' w.heap.size (fun k_ => some k_ ≠ (v6 : Value).ownBlock) aA ai) ∧ Aside0 (Kd.Q (Kd.int .i64) 3 w' w.heap.size (fun k_ => some k_ ≠ (aA : Value).ownBlock) v6 ah) ∧ Aside0 (Below w.heap.size w w'))
          case atStart => exact ⟨(aY), (ac), (0), (Sh.es), H', ⟨Nat.le_refl _⟩, ⟨Sh.rl af.out⟩, ⟨by (with_reducible repeat (first | apply Kd.Q_alloc | apply Kd.Q_drewN | apply Kd.Q_drew)); exact aj.out⟩, ⟨Sh.bw⟩⟩
          case round =>
           clear H';try clear dx
           try clear dy
           try clear dO
           try clear cF
           try clear cG
           try clear aU
           try clear am
           try clear aq
           try clear ar
           obtain ⟨ai, ah, aa, rfl, HA, bO, af, aj, HB⟩ := hrel;cases gk with
           | zero => exact absurd HA.out (by simp [Qaf.l2])
           | succ k3 =>
            have H := HA.out;clear HA;simp only [Qaf.l2] at H;by_cases bP : aa < ((rd_L12 l0 (rd ac 0)).length : Int)
            ·rw [if_pos bP] at H
             replace bP := decide_eq_true bP;by_cases cn : 0 ≤ aa
             ·rw [if_pos cn] at H
              replace cn := decide_eq_true cn;by_cases co : aa < ((rd_L12 l0 (rd ac 0)).length : Int)
              ·rw [if_pos co] at H
               replace co := decide_eq_true co;by_cases cp : 0 ≤ (rd (rd_L12 l0 (rd ac 0)) aa)
               ·rw [if_pos cp] at H
                replace cp := decide_eq_true cp;by_cases cq : (rd (rd_L12 l0 (rd ac 0)) aa) < (ai.length : Int)
                ·rw [if_pos cq] at H
                 replace cq := decide_eq_true cq;by_cases bQ : (rd ai (rd (rd_L12 l0 (rd ac 0)) aa)) < 0
                 ·rw [if_pos bQ] at H
                  replace bQ := decide_eq_true bQ;by_cases cr : 0 < (ah.length : Int)
                  ·rw [if_pos cr] at H
                   have c29b0 := decide_eq_true cr;have c29b1 : decide (0 < ah.length) = true := decide_eq_true (by omega);clear cr;by_cases ct : 0 ≤ (rd ah 0)
                   ·rw [if_pos ct] at H
                    replace ct := decide_eq_true ct;by_cases cu : (rd ah 0) < (ai.length : Int)
                    ·rw [if_pos cu] at H
                     replace cu := decide_eq_true cu;obtain ⟨aZ, aw⟩ : ∃ y_ : List Int, y_ = (ai.set ((rd (rd_L12 l0 (rd ac 0)) aa) : Int).toNat (wrap64 ((rd ai (rd ah 0)) + 1))) := ⟨_, rfl⟩;replace H : (if ah.length < 17592186044416 then (Qaf.l2 k3 l0 aZ (ah ++ [rd (rd_L12 l0 (rd ac 0)) aa]) (rd_L12 l0 (rd ac 0)) ((rd_L12 l0 (rd ac 0)).length : Int) (wrap64 (aa + 1))) else (none)) = some r := by first | (rw [aw]; with_reducible exact H) | (have ap := (Option.bind_some _ _).symm.trans H; rw [aw]; with_reducible exact ap) | (have ap := (Option.bind_some _ _).symm.trans H; with_reducible exact ap) | with_reducible exact H | (rw [aw]; exact H) | exact H
                     have bX := am_ aw;clear aw;by_cases cv : ah.length < 17592186044416
                     ·rw [if_pos cv] at H
                      have bY := am_ cv;clear cv;obtain ⟨bZ, ax⟩ : ∃ y_ : List Int, y_ = (ah ++ [rd (rd_L12 l0 (rd ac 0)) aa]) := ⟨_, rfl⟩;replace H : (Qaf.l2 k3 l0 aZ bZ (rd_L12 l0 (rd ac 0)) ((rd_L12 l0 (rd ac 0)).length : Int) (wrap64 (aa + 1))) = some r := by first | (rw [ax]; with_reducible exact H) | (have ap := (Option.bind_some _ _).symm.trans H; rw [ax]; with_reducible exact ap) | (have ap := (Option.bind_some _ _).symm.trans H; with_reducible exact ap) | with_reducible exact H | (rw [ax]; exact H) | exact H
                      have b0 := am_ ax;clear ax;have H' := am_ H;clear H;have aC : 0 ≤ (aa : Int) := Sh.od;have aD : aa < ((rd_L12 l0 (rd ac 0)).length : Int) := Sh.od;obtain ⟨b1, bC, al⟩ := Kd.at_int aM.out aa aC aD;cases bC;try replace al := Sh.cw al
                      replace aC := eq_true aC;replace aD := eq_true aD;obtain ⟨dC, a1, cM⟩ := Kd.R_slice af.out;subst cM;have aE : 0 ≤ ((rd (rd_L12 l0 (rd ac 0)) aa) : Int) := Sh.od;have aG : (rd (rd_L12 l0 (rd ac 0)) aa) < (ai.length : Int) := Sh.od;obtain ⟨bh, bD, aN⟩ := Kd.at_int (Kd.R_reads' af.out).2.2 (rd (rd_L12 l0 (rd ac 0)) aa) aE aG;cases bD;replace aE := eq_true aE;replace aG := eq_true aG;obtain ⟨dD, b6, cN, _⟩ := Kd.Q_slice aj.out;subst cN;have bE : 0 ≤ (0 : Int) := (by omega);have bF : 0 < (ah.length : Int) := Sh.od;obtain ⟨bi, cO, aQ⟩ := Kd.at_int (Kd.Q_reads' aj.out).2.2 0 bE bF;cases cO;have dh : (0 < ah.length) = True := eq_true (by omega);(try rw [show ((0 : Int)).toNat = 0 from rfl] at aQ);(try rw [Addr.add_zero'] at aQ);replace bE := eq_true bE;replace bF := eq_true bF;have bG : 0 ≤ ((rd ah 0) : Int) := Sh.od;have bH : (rd ah 0) < (ai.length : Int) := Sh.od;obtain ⟨b7, cP, a2⟩ := Kd.at_int (Kd.R_reads' af.out).2.2 (rd ah 0) bG bH;obtain rfl : bh = b7 := (by injection cP);replace bG := eq_true bG;replace bH := eq_true bH;have cQ : 0 ≤ ((rd (rd_L12 l0 (rd ac 0)) aa) : Int) := Sh.od;have cS : ((rd (rd_L12 l0 (rd ac 0)) aa) : Int) < ((ai.length : Int) : Int) := Sh.od;obtain ⟨aR, dE, b8, b9, cT, dF, ca⟩ := Kd.R_form af.out (by omega);(first | cases b8 | (injection b8 with ea_ en_ ec_; (first | subst ea_ | (injection ea_ with ea_; subst ea_)); subst ec_; clear en_));have cU := am_ b9;have dG := am_ ca;clear b9 cT ca;(first | simp only [add_plain] at aN | skip);(first | simp only [add_plain] at a2 | skip);obtain ⟨cV, cW⟩ := Kd.R_celln 0 af.out ((rd (rd_L12 l0 (rd ac 0)) aa) : Int) cQ cS;replace cQ := eq_true cQ;replace cS := eq_true cS;have bI := Kd.R_putg af.out ((rd (rd_L12 l0 (rd ac 0)) aa) : Int) (wrap64 ((rd ai (rd ah 0)) + 1));go_wp2_with (first | ((with_reducible refine gate_store (t := 3) (p := 57) rfl ?_); refine store_event (t := 3) (p := 57) (v := ?vo_w37) (w1 := (wr.setCell ⟨aR, ((rd (rd_L12 l0 (rd ac 0)) aa) : Int).toNat, none⟩ (.int .i64 (wrap64 ((rd ai (rd ah 0)) + 1))))) ?hg ?ho ?hn ?hr ?_; (case ho => rfl); (case hg => rfl); (case hn => rfl); (case hr => first | (go_simp; done) | (go_simp; rfl)); intro cX hw; have hg : wr.grownBy cX (some aR) := (by rw [hw]; exact bI.2); have hp_ : Kd.R (Kd.int .i64) 3 cX w.heap.size (fun k_ => some k_ ≠ (.slice (some bi) ah.length b6 : Value).ownBlock) (.slice (some ⟨aR, 0, none⟩) ai.length a1) aZ := (by rw [hw, bX.out]; exact bI.1); clear bI; replace af := am_ hp_; replace aj := am_ (Kd.Q_after (v := (.slice (some ⟨aR, 0, none⟩) ai.length a1)) (v1 := (.slice (some ⟨aR, 0, none⟩) ai.length a1)) (ok := (fun _ => True)) (by (with_reducible repeat (first | apply Kd.Q_alloc | apply Kd.Q_drewN | apply Kd.Q_drew)); exact Kd.Q_mono aj.out (fun _ hk => ⟨trivial, hk⟩)) hg (.inl rfl)); replace HB := am_ ((by rw [hw]; exact below_set (HB.out) cU.out : Below w.heap.size w cX)); clear hg hw hp_) | ((with_reducible refine gate_builtin (b := .append) (xs := #[.tmp 58, .tmp 60]) rfl ?_); at_builtin; refine Kd.Q_append (Kd.int .i64) (w0 := w) w.heap.size rfl (.tmp 58) (.tmp 60) 27 3 (.int .i64 0) 8 rfl Tryz.underlying27 info3 rfl (by decide) (by omega) (.slice (some bi) ah.length b6) ah (rd (rd_L12 l0 (rd ac 0)) aa) [.int .i64 (rd (rd_L12 l0 (rd ac 0)) aa)] (fun k_ => some k_ ≠ (.slice (some ⟨aR, 0, none⟩) ai.length a1 : Value).ownBlock) (fun _ => False) rfl rfl ?aP (fun _ hk => hk.elim) ?aF ?aO ?aB ?aS ?aL ?_; (case aP => exact rfl); (case aB => exact Sh.bw); (case aF => exact (fun k_ hk => Kd.fresh' (Kd.R_lt (Sh.rl af.out)) k_ hk)); (case aO => exact (by (with_reducible repeat (first | apply Kd.Q_alloc | apply Kd.Q_drewN | apply Kd.Q_drew)); exact Kd.Q_mono aj.out (fun _ hk => hk.2))); (case aS => exact (below_size Sh.bw)); (case aL => have := bY.out; omega); intro dH dP ho hb hg hat; rw [← b0.out] at ho; have di := am_ (Kd.R_after (ok := (fun _ => True)) (Sh.rl (Kd.R_mono af.out (fun _ hk => ⟨trivial, hk⟩))) hg hat); have dj := am_ hb; have dk := am_ ho; clear af; clear HB; clear aj; have af := di; have HB := dj; have cb := dk; clear di dj dk; clear ho hb hg hat));go_roundg k3
                      case measure => have := bg.out; have := bM.out; have := bO.out; omega
                      case rel => exact ⟨(aZ), (bZ), (wrap64 (aa + 1)), (Sh.es), H', ⟨by have := bg.out; have := bM.out; have := bO.out; omega⟩, ⟨Sh.rl (Kd.R_mono af.out (fun _ hk => hk.2))⟩, ⟨by (with_reducible repeat (first | apply Kd.Q_alloc | apply Kd.Q_drewN | apply Kd.Q_drew)); exact cb.out⟩, ⟨Sh.bw⟩⟩
                     ·rw [if_neg cv] at H
                      cases H
                    ·rw [if_neg cu] at H
                     cases H
                   ·rw [if_neg ct] at H
                    cases H
                  ·rw [if_neg cr] at H
                   cases H
                 ·rw [if_neg bQ] at H
                  replace bQ := decide_eq_false bQ;have H' := am_ H;clear H;have aC : 0 ≤ (aa : Int) := Sh.od;have aD : aa < ((rd_L12 l0 (rd ac 0)).length : Int) := Sh.od;obtain ⟨b1, bC, al⟩ := Kd.at_int aM.out aa aC aD;cases bC;try replace al := Sh.cw al
                  replace aC := eq_true aC;replace aD := eq_true aD;obtain ⟨dI, dJ, cY⟩ := Kd.R_slice af.out;subst cY;have aE : 0 ≤ ((rd (rd_L12 l0 (rd ac 0)) aa) : Int) := Sh.od;have aG : (rd (rd_L12 l0 (rd ac 0)) aa) < (ai.length : Int) := Sh.od;obtain ⟨bh, bD, aN⟩ := Kd.at_int (Kd.R_reads' af.out).2.2 (rd (rd_L12 l0 (rd ac 0)) aa) aE aG;cases bD;replace aE := eq_true aE;replace aG := eq_true aG;go_wp2;go_roundg k3
                  case measure => have := bg.out; have := bM.out; have := bO.out; omega
                  case rel => exact ⟨(ai), (ah), (wrap64 (aa + 1)), (Sh.es), H', ⟨by have := bg.out; have := bM.out; have := bO.out; omega⟩, ⟨Sh.rl af.out⟩, ⟨by (with_reducible repeat (first | apply Kd.Q_alloc | apply Kd.Q_drewN | apply Kd.Q_drew)); exact aj.out⟩, ⟨Sh.bw⟩⟩
                ·rw [if_neg cq] at H
                 cases H
               ·rw [if_neg cp] at H
                cases H
              ·rw [if_neg co] at H
               cases H
             ·rw [if_neg cn] at H
              cases H
            ·rw [if_neg bP] at H
             replace bP := decide_eq_false bP;by_cases cd : 1 ≤ (ah.length : Int)
             ·rw [if_pos cd] at H
              have c40b0 := eq_true cd;have c40b1 := decide_eq_true cd;clear cd;obtain ⟨aH, ay⟩ : ∃ y_ : List Int, y_ = (ah.drop (1 : Int).toNat) := ⟨_, rfl⟩;replace H : (Qaf.l1 k3 l0 ai aH) = some r := by first | (rw [ay]; with_reducible exact H) | (have ap := (Option.bind_some _ _).symm.trans H; rw [ay]; with_reducible exact ap) | (have ap := (Option.bind_some _ _).symm.trans H; with_reducible exact ap) | with_reducible exact H | (rw [ay]; exact H) | exact H
              have bj := am_ ay;clear ay;have H' := am_ H;clear H;obtain ⟨aV, a6, cZ, _⟩ := Kd.Q_slice aj.out;subst cZ;have c4 : (1 : Int) ≤ ((ah.length : Int) : Int) := Sh.od;obtain ⟨dK, bk, _, bl, _⟩ := info_parts info3;have hcut42 := cut_from (P := Tryz.prog) 27 3 .i64 Tryz.underlying27 bk 1 bl aV ah.length a6 1 (by omega) c4;have aW := Kd.Q_drop (k := (1 : Int).toNat) aj.out (by omega);obtain ⟨c5, a7⟩ : ∃ A1, A1 = (if a6 = (1 : Int).toNat then aV else (aV : Option Addr).map (·.add ((1 : Int).toNat * 1))) := ⟨_, rfl⟩;obtain ⟨c6, bJ⟩ : ∃ c1, c1 = a6 - (1 : Int).toNat := ⟨_, rfl⟩;have bK : aH.length = ah.length - (1 : Int).toNat := (by rw [bj.out, List.length_drop]);rw [← bj.out] at aW;rw [← bK, ← a7, ← bJ] at hcut42;replace aW : Kd.Q (Kd.int .i64) 3 wr w.heap.size (fun k_ => some k_ ≠ (aA : Value).ownBlock) (.slice c5 aH.length c6) aH := (by rw [a7, bJ, bK]; exact aW);have c7 : Aside0 ((Value.slice c5 aH.length c6).ownBlock = (.slice aV ah.length a6 : Value).ownBlock) := ⟨by rw [a7]; split <;> (cases (aV : Option Addr) <;> rfl)⟩
              clear bK bk bl aj a7 bJ;have ce := am_ aW;clear aW;replace c4 := eq_true c4;have n_ := am_ (Kd.R_mono (ok' := fun k_ => some k_ ≠ (.slice c5 aH.length c6 : Value).ownBlock) af.out (fun k_ hk => (by rw [c7.out]; exact hk)));clear af;have af := n_;clear n_;go_wp2;go_roundg k3
              case measure => have := bg.out; have := bM.out; have := bO.out; omega
              case rel => exact ⟨(ai), (aH), H', ⟨by have := bg.out; have := bM.out; have := bO.out; omega⟩, ⟨Sh.rl af.out⟩, ⟨by (with_reducible repeat (first | apply Kd.Q_alloc | apply Kd.Q_drewN | apply Kd.Q_drew)); exact ce.out⟩, ⟨Sh.bw⟩⟩
             ·rw [if_neg cd] at H
              cases H
         ·rw [if_neg cl] at H
          cases H
        ·rw [if_neg ck] at H
         cases H
       ·rw [if_neg cj] at H
        cases H
      ·rw [if_neg bN] at H
       have c18b0 : decide (0 < (ac.length : Int)) = false := decide_eq_false bN;have c18b1 : decide (0 < ac.length) = false := decide_eq_false (by omega);clear bN;obtain rfl := Option.some.inj H;obtain ⟨dL, dM, c8, _⟩ := Kd.Q_slice aj.out;subst c8;go_wp2;go_ret;exact ⟨_, Sh.eR, Sh.rl (Kd.R_mono af.out (fun _ hk => trivial)), Sh.bw⟩
mutual
def Qao.l0 : Nat → List (List Int) → List (List Int) → Int → Int → Option ((List (List Int)))
 | 0, _, _, _, _ => none
 | k + 1, x3, ae, ah, aa => if aa < ah then (if 0 ≤ aa then (if aa < (ae.length : Int) then (Qao.l1 k x3 aa ae ah aa (rd_L12 ae aa) ((rd_L12 ae aa).length : Int) 0) else (none)) else (none)) else (some x3)
def Qao.l1 : Nat → List (List Int) → Int → List (List Int) → Int → Int → List Int → Int → Int → Option ((List (List Int)))
 | 0, _, _, _, _, _, _, _, _ => none
 | k + 1, x3, x4, ae, ah, aa, af, ai, ac => if ac < ai then (if 0 ≤ ac then (if ac < (af.length : Int) then (if 0 ≤ (rd af ac) then (if (rd af ac) < (x3.length : Int) then (if (rd_L12 x3 (rd af ac)).length < 17592186044416 then (Qao.l1 k (x3.set ((rd af ac) : Int).toNat ((rd_L12 x3 (rd af ac)) ++ [x4])) x4 ae ah aa af ai (wrap64 (ac + 1))) else (none)) else (none)) else (none)) else (none)) else (none)) else (Qao.l0 k x3 ae ah (wrap64 (aa + 1)))
end
def Qao.f (k : Nat) (l0 : List (List Int)) : Option ((List (List Int))) := if 0 ≤ (l0.length : Int) then (if ((l0.length : Int) : Int).toNat ≤ 11728124029610 then (Qao.l0 k (List.replicate ((l0.length : Int) : Int).toNat []) l0 (l0.length : Int) 0) else (none)) else (none)
theorem Qao.mono_l : ∀ k, (∀ y0 y1 y2 y3, LeO (Qao.l0 k y0 y1 y2 y3) (Qao.l0 (k + 1) y0 y1 y2 y3)) ∧ (∀ y0 y1 y2 y3 y4 y5 y6 y7, LeO (Qao.l1 k y0 y1 y2 y3 y4 y5 y6 y7) (Qao.l1 (k + 1) y0 y1 y2 y3 y4 y5 y6 y7))
 | 0 => ⟨fun _ _ _ _ r h => by simp [Qao.l0] at h, fun _ _ _ _ _ _ _ _ r h => by simp [Qao.l1] at h⟩
 | k + 1 => by
  obtain ⟨aa, ac⟩ := Qao.mono_l k
  and_intros <;> intros
  all_goals (first | unfold Qao.l0 | unfold Qao.l1)
  all_goals repeat' with_reducible first | apply aa | apply ac | exact LeO.refl _ | exact LeO.none _ | apply LeO.ite | refine LeO.bind ?_ fun _ => ?_
theorem Qao.mono : ∀ a0 k, LeO (Qao.f k a0) (Qao.f (k + 1) a0) := by
 intro a0 k;obtain ⟨aa, ac⟩ := Qao.mono_l k;unfold Qao.f;repeat' with_reducible first | apply aa | apply ac | exact LeO.refl _ | exact LeO.none _ | apply LeO.ite | refine LeO.bind ?_ fun _ => ?_
theorem Qao.calls (k : Nat) (A0 : Option Addr) (c0 : Nat) (l0 : List (List Int)) (r : List (List Int)) (w : World) (b7 : Kd.C (Kd.slice 3 (Kd.int .i64)) w A0 l0.length l0) (hc0 : l0.length ≤ c0) (h : Qao.f k l0 = some r) :
  Calls Tryz.prog 47 #[.slice A0 l0.length c0] w fun e w' => ∃ b8 : Value, e = .returned (b8) ∧ Kd.S (Kd.slice 3 (Kd.int .i64)) 27 w' w.heap.size (fun _ => True) b8 r ∧ Below w.heap.size w w' := by
 have ci := am_ b7;have cr := am_ hc0;clear b7 hc0;have HB := am_ (Below.refl w.heap.size w);have H := h;clear h;unfold Qao.f at H;by_cases c2 : 0 ≤ (l0.length : Int)
 ·rw [if_pos c2] at H
  have c2b0 := eq_true c2;have c2b1 := decide_eq_true c2;clear c2;by_cases c3 : ((l0.length : Int) : Int).toNat ≤ 11728124029610
  ·rw [if_pos c3] at H
   have c3b0 := eq_true c3;have c3b1 := decide_eq_true c3;clear c3;obtain ⟨bk, al⟩ : ∃ y_ : List (List Int), y_ = (List.replicate ((l0.length : Int) : Int).toNat []) := ⟨_, rfl⟩;replace H : (Qao.l0 k bk l0 (l0.length : Int) 0) = some r := by first | (rw [al]; with_reducible exact H) | (have ax := (Option.bind_some _ _).symm.trans H; rw [al]; with_reducible exact ax) | (have ax := (Option.bind_some _ _).symm.trans H; with_reducible exact ax) | with_reducible exact H | (rw [al]; exact H) | exact H
   have aU := am_ al;clear al;have H' := am_ H;clear H;go_enter Tryz.func47, Tryz.ntmps47;go_wp2_with (first | ((with_reducible refine Sh.d 10 ?_); refine Kd.S_make (Kd.slice 3 (Kd.int .i64)) _ 27 rfl (N := 10) rfl 51 _ _ rfl (l0.length : Int) rfl rfl Tryz.underlying51 (.slice none 0 0) 24 info27 rfl (by decide) (by omega) [] (ok := fun _ => True) (okp := fun _ => True) ⟨_, rfl, Kd.R_nil _ _ _ _ _⟩ (fun _ hk => hk) trivial (of_decide_eq_true (by first | (with_reducible assumption) | assumption)) (Nat.le_trans (Nat.mul_le_mul_right _ (of_decide_eq_true (by first | (with_reducible assumption) | assumption) : (l0.length : Int).toNat ≤ 11728124029610)) (by omega)) (Below.refl _ _) (Nat.le_refl _) ?_; intro bl w4 bm hb hg_ hnew_; clear hg_ hnew_; (first | rw [← aU.out] at bm | (simp only [Int.reduceToNat] at bm; rw [← aU.out] at bm)); have bn := am_ (Kd.S_lower bm (below_size Sh.bw)); replace HB := Sh.hb hb; clear hb bm));go_loopg [13] k (fun kq cj w' => ∃ (aJ : List (List Int)) (aa : Int), cj = .int .i64 aa ∧ Aside0 (Qao.l0 kq aJ l0 (l0.length : Int) aa = some r) ∧ Aside0 (kq ≤ k) ∧ Aside0 (Kd.S (Kd.slice 3 (Kd.int .i64)) 27 w' w.heap.size (fun _ => True) bl aJ) ∧ Aside0 (Below w.heap.size w w'))
   case atStart => exact ⟨(bk), (0), (Sh.es), H', ⟨Nat.le_refl _⟩, ⟨by (with_reducible repeat (first | apply Kd.S_alloc | apply Kd.S_drewN | apply Kd.S_drew)); exact bn.out⟩, ⟨Sh.bw⟩⟩
   case round =>
    clear H';obtain ⟨aJ, aa, rfl, HA, bF, af, HB⟩ := hrel;cases gk with
    | zero => exact absurd HA.out (by simp [Qao.l0])
    | succ k1 =>
     have H := HA.out;clear HA;simp only [Qao.l0] at H;by_cases c6 : aa < (l0.length : Int)
     ·rw [if_pos c6] at H
      replace c6 := decide_eq_true c6;by_cases c7 : 0 ≤ aa
      ·rw [if_pos c7] at H
       replace c7 := decide_eq_true c7;by_cases c8 : aa < (l0.length : Int)
       ·rw [if_pos c8] at H
        replace c8 := decide_eq_true c8;have H' := am_ H;clear H;have aZ : 0 ≤ (aa : Int) := Sh.od;have a1 : aa < (l0.length : Int) := Sh.od;obtain ⟨b9, bQ, bR, bS, ai, aq, ar⟩ := at_L12 ci.out aa aZ a1;cases bS;try replace ai := Sh.cw ai
        have aK := am_ ar;have bG := am_ aq;clear ar aq;replace aZ := eq_true aZ;replace a1 := eq_true a1;go_wp2;go_loopg [20] k1 (fun kq ck w' => ∃ (ae : List (List Int)) (ac : Int), ck = .int .i64 ac ∧ Aside0 (Qao.l1 kq ae aa l0 (l0.length : Int) aa (rd_L12 l0 aa) ((rd_L12 l0 aa).length : Int) ac = some r) ∧ Aside0 (kq ≤ k1) ∧ Aside0 (Kd.S (Kd.slice 3 (Kd.int .i64)) 27 w' w.heap.size (fun _ => True) bl ae) ∧ Aside0 (Below w.heap.size w w'))
        case atStart => exact ⟨(aJ), (0), (Sh.es), H', ⟨Nat.le_refl _⟩, ⟨by (with_reducible repeat (first | apply Kd.S_alloc | apply Kd.S_drewN | apply Kd.S_drew)); exact af.out⟩, ⟨Sh.bw⟩⟩
        case round =>
         clear H';try clear ct
         try clear ai
         obtain ⟨ae, ac, rfl, HA, bH, af, HB⟩ := hrel;cases gk with
         | zero => exact absurd HA.out (by simp [Qao.l1])
         | succ k2 =>
          have H := HA.out;clear HA;simp only [Qao.l1] at H;by_cases c9 : ac < ((rd_L12 l0 aa).length : Int)
          ·rw [if_pos c9] at H
           replace c9 := decide_eq_true c9;by_cases bI : 0 ≤ ac
           ·rw [if_pos bI] at H
            replace bI := decide_eq_true bI;by_cases bJ : ac < ((rd_L12 l0 aa).length : Int)
            ·rw [if_pos bJ] at H
             replace bJ := decide_eq_true bJ;by_cases bK : 0 ≤ (rd (rd_L12 l0 aa) ac)
             ·rw [if_pos bK] at H
              replace bK := decide_eq_true bK;by_cases bL : (rd (rd_L12 l0 aa) ac) < (ae.length : Int)
              ·rw [if_pos bL] at H
               replace bL := decide_eq_true bL;by_cases bM : (rd_L12 ae (rd (rd_L12 l0 aa) ac)).length < 17592186044416
               ·rw [if_pos bM] at H
                have bo := am_ bM;clear bM;obtain ⟨ay, am⟩ : ∃ y_ : List Int, y_ = ((rd_L12 ae (rd (rd_L12 l0 aa) ac)) ++ [aa]) := ⟨_, rfl⟩;replace H : (Qao.l1 k2 (ae.set ((rd (rd_L12 l0 aa) ac) : Int).toNat ay) aa l0 (l0.length : Int) aa (rd_L12 l0 aa) ((rd_L12 l0 aa).length : Int) (wrap64 (ac + 1))) = some r := by first | (rw [am]; with_reducible exact H) | (have ax := (Option.bind_some _ _).symm.trans H; rw [am]; with_reducible exact ax) | (have ax := (Option.bind_some _ _).symm.trans H; with_reducible exact ax) | with_reducible exact H | (rw [am]; exact H) | exact H
                have bp := am_ am;clear am;obtain ⟨a2, ao⟩ : ∃ y_ : List (List Int), y_ = (ae.set ((rd (rd_L12 l0 aa) ac) : Int).toNat ay) := ⟨_, rfl⟩;replace H : (Qao.l1 k2 a2 aa l0 (l0.length : Int) aa (rd_L12 l0 aa) ((rd_L12 l0 aa).length : Int) (wrap64 (ac + 1))) = some r := by first | (rw [ao]; with_reducible exact H) | (have ax := (Option.bind_some _ _).symm.trans H; rw [ao]; with_reducible exact ax) | (have ax := (Option.bind_some _ _).symm.trans H; with_reducible exact ax) | with_reducible exact H | (rw [ao]; exact H) | exact H
                have bq := am_ ao;clear ao;have H' := am_ H;clear H;have a6 : 0 ≤ (ac : Int) := Sh.od;have a7 : ac < ((rd_L12 l0 aa).length : Int) := Sh.od;obtain ⟨ca, bT, au⟩ := Kd.at_int aK.out ac a6 a7;cases bT;try replace au := Sh.cw au
                replace a6 := eq_true a6;replace a7 := eq_true a7;obtain ⟨cl, bU, bV⟩ := Kd.S_slice af.out;subst bV;have aM : 0 ≤ ((rd (rd_L12 l0 aa) ac) : Int) := Sh.od;have aN : (rd (rd_L12 l0 aa) ac) < (ae.length : Int) := Sh.od;obtain ⟨cb, az, aA, bW, aj, av, aw⟩ := at_L12 (Kd.S_reads' af.out).2.2 (rd (rd_L12 l0 aa) ac) aM aN;cases bW;obtain ⟨cd, a8, bf, aC⟩ := Kd.S_get af.out [] (rd (rd_L12 l0 aa) ac) aM (by first | exact aN | exact of_decide_eq_true (by first | (with_reducible assumption) | assumption) | (have e_ := (Kd.S_reads' af.out).1; omega));obtain ⟨bN, rfl, ak⟩ := bf;have ah := aC 0 _ rfl;rw [Nat.add_zero, show ((Kd.slice 3 (Kd.int .i64))).sz = 1 from rfl, Nat.mul_one] at ah;replace ah := Option.some.inj (ah.symm.trans aj);rw [ah] at ak;have aQ := am_ (show Kd.R (Kd.int .i64) 3 _ _ _ _ (rd_L12 ae (rd (rd_L12 l0 aa) ac)) from ak);clear ah ak;have aR := am_ aj;clear aC a8;have bO := am_ aw;have bP := am_ av;clear aw av;replace aM := eq_true aM;replace aN := eq_true aN;obtain ⟨bg, cm, br, bs, bX, cn, bu⟩ := Kd.S_form af.out (by have h_ : ((rd (rd_L12 l0 aa) ac) : Int) < ((ae.length : Int) : Int) := Sh.od; have cu : 0 ≤ ((rd (rd_L12 l0 aa) ac) : Int) := (of_decide_eq_true (by first | (with_reducible assumption) | assumption)); omega);(first | cases br | (injection br with ea_ en_ ec_; (first | subst ea_ | (injection ea_ with ea_; subst ea_)); subst ec_; clear en_));have bY := am_ bs;have co := am_ bu;clear bs bX bu;(first | simp only [add_plain] at aj | skip);obtain ⟨aV, cp, bv, bZ, aW, _, _, bA⟩ := Kd.S_elem af.out [] ((rd (rd_L12 l0 aa) ac) : Int) (of_decide_eq_true (by first | (with_reducible assumption) | assumption)) (by have h_ : ((rd (rd_L12 l0 aa) ac) : Int) < ((ae.length : Int) : Int) := Sh.od; first | exact h_ | (have e_ := (Kd.S_reads' af.out).1; omega) | simpa using h_);obtain ⟨b0, rfl, aD⟩ := bZ;have aE := aW 0 _ rfl;have bh := aR.out;(try simp only [add_plain] at bh);(try simp only [Nat.add_zero] at aE);(try rw [show ((Kd.slice 3 (Kd.int .i64))).sz = 1 from rfl, Nat.mul_one] at aE);replace aE := Option.some.inj (aE.symm.trans bh);subst aE;clear bh aW bv;have bi := am_ (show Kd.R (Kd.int .i64) 3 _ w.heap.size aV (.slice az (rd_L12 ae (rd (rd_L12 l0 aa) ac)).length aA) (rd_L12 ae (rd (rd_L12 l0 aa) ac)) from aD);have ap := am_ bA;have bj := am_ (Kd.S_reads' af.out).1;clear bA aD;go_wp2_with (first | ((with_reducible refine gate_builtin (b := .append) (xs := #[.tmp 29, .tmp 31]) rfl ?_); at_builtin; refine Kd.R_append (Kd.int .i64) (w0 := w) w.heap.size rfl (.tmp 29) (.tmp 31) 27 3 (.int .i64 0) 8 rfl Tryz.underlying27 info3 rfl (by decide) (by omega) (.slice az (rd_L12 ae (rd (rd_L12 l0 aa) ac)).length aA) (rd_L12 ae (rd (rd_L12 l0 aa) ac)) aa [.int .i64 aa] (fun k_ => aV k_ ∨ ((fun _ => True)) k_ ∧ wr.heap.size ≤ k_) (fun _ => False) rfl rfl ?aP (fun _ hk => hk.elim) ?aF ?aO ?aB ?aS ?aL ?_; (case aP => exact rfl); (case aB => exact Sh.bw); (case aF => exact (fun k_ hk => .inr ⟨trivial, hk⟩)); (case aO => exact (Sh.rl (Kd.R_mono bi.out (fun _ hk => .inl hk)))); (case aS => exact (below_size Sh.bw)); (case aL => have := bo.out; omega); intro cq ce ho hb hg hat; rw [← bp.out] at ho; have bB := am_ hb; have bC := am_ (Kd.H_grown (Kd.H_widen (by repeat (first | exact ap.out | refine Kd.H_alloc ?_ _ | refine Kd.H_drewN ?_ _ | refine Kd.H_drew ?_))) hg (fun k_ e_ => .inl (bi.out.1 k_ e_))); have cf := am_ ho; clear HB; clear ap; clear af; clear bi; clear aQ; have HB := bB; have ap := bC; have aG := cf; clear bB bC cf; clear ho hb hg hat; have cg : 0 ≤ ((rd (rd_L12 l0 aa) ac) : Int) := Sh.od; have ch : ((rd (rd_L12 l0 aa) ac) : Int) < ((ae.length : Int) : Int) := Sh.od; replace cg := eq_true cg; replace ch := eq_true ch; obtain ⟨bD, bE, b1⟩ := Kd.R_slice aG.out; subst b1; obtain ⟨_, _, hraw19, _, _, aX, _⟩ := Kd.H_raw ap.out (of_decide_eq_true (by first | (with_reducible assumption) | assumption)) (by have h_ : ((rd (rd_L12 l0 aa) ac) : Int) < ((ae.length : Int) : Int) := Sh.od; first | exact h_ | (have e_ := (bj.out); omega) | simpa using h_); obtain ⟨_, aY⟩ := Kd.H_at ap.out (of_decide_eq_true (by first | (with_reducible assumption) | assumption)) (by have h_ : ((rd (rd_L12 l0 aa) ac) : Int) < ((ae.length : Int) : Int) := Sh.od; first | exact h_ | (have e_ := (bj.out); omega) | simpa using h_); have aH := aX 0 _ rfl; have aI := aY 0; (try simp only [Nat.add_zero] at aH aI); (try rw [show ((Kd.slice 3 (Kd.int .i64))).sz = 1 from rfl, Nat.mul_one] at aH); (try rw [show ((Kd.slice 3 (Kd.int .i64))).sz = 1 from rfl, Nat.mul_one] at aI); have aT := Kd.S_seg0 ap.out (of_decide_eq_true (by first | (with_reducible assumption) | assumption)) (by have h_ : ((rd (rd_L12 l0 aa) ac) : Int) < ((ae.length : Int) : Int) := Sh.od; first | exact h_ | (have e_ := (bj.out); omega) | simpa using h_) (seg := [.slice bD ay.length bE]) (j := 0) (show 1 ≤ 1 from by decide) (x' := ay) (Kd.M_row aG.out) (fun _ hk => hk); (try simp only [show ((Kd.slice 3 (Kd.int .i64))).sz = 1 from rfl, Nat.mul_one, Nat.add_zero] at aT); clear aX aY) | ((with_reducible refine gate_store (t := 27) (p := 33) rfl ?_); refine store_event (t := 27) (p := 33) (v := ?vo_w20) (w1 := (ce.setCell ⟨bg, ((rd (rd_L12 l0 aa) ac) : Int).toNat, none⟩ (.slice bD ay.length bE))) ?hg ?ho ?hn ?hr ?_; (case ho => rfl); (case hg => rfl); (case hn => rfl); (case hr => first | (go_simp; done) | (go_simp; rfl)); intro b6 hw; have hg : ce.grownBy b6 (some bg) := (by rw [hw]; exact aT.2); have hp_ : Kd.S (Kd.slice 3 (Kd.int .i64)) 27 b6 w.heap.size (fun _ => True) (.slice (some ⟨bg, 0, none⟩) ae.length bU) a2 := (by rw [hw, bq.out]; exact aT.1); clear aT; have bB := am_ ((by rw [hw]; exact below_set HB.out bY.out : Below w.heap.size w b6)); have bC := am_ hp_; clear HB; clear aG; clear ap; have HB := bB; have af := bC; clear bB bC; clear hg hw hp_ hraw19));go_roundg k2
                case measure => have := bF.out; have := bH.out; omega
                case rel => exact ⟨(a2), (wrap64 (ac + 1)), (Sh.es), H', ⟨by have := bF.out; have := bH.out; omega⟩, ⟨by (with_reducible repeat (first | apply Kd.S_alloc | apply Kd.S_drewN | apply Kd.S_drew)); exact af.out⟩, ⟨Sh.bw⟩⟩
               ·rw [if_neg bM] at H
                cases H
              ·rw [if_neg bL] at H
               cases H
             ·rw [if_neg bK] at H
              cases H
            ·rw [if_neg bJ] at H
             cases H
           ·rw [if_neg bI] at H
            cases H
          ·rw [if_neg c9] at H
           replace c9 := decide_eq_false c9;have H' := am_ H;clear H;go_wp2;go_roundg k2
           case measure => have := bF.out; have := bH.out; omega
           case rel => exact ⟨(ae), (wrap64 (aa + 1)), (Sh.es), H', ⟨by have := bF.out; have := bH.out; omega⟩, ⟨by (with_reducible repeat (first | apply Kd.S_alloc | apply Kd.S_drewN | apply Kd.S_drew)); exact af.out⟩, ⟨Sh.bw⟩⟩
       ·rw [if_neg c8] at H
        cases H
      ·rw [if_neg c7] at H
       cases H
     ·rw [if_neg c6] at H
      replace c6 := decide_eq_false c6;obtain rfl := Option.some.inj H;go_wp2;go_ret;exact ⟨_, Sh.eR, by (with_reducible repeat (first | apply Kd.S_alloc | apply Kd.S_drewN | apply Kd.S_drew)); exact af.out, Sh.bw⟩
  ·rw [if_neg c3] at H
   cases H
 ·rw [if_neg c2] at H
  cases H
def QbF.f (a0 : Int) (aa : List Int) (ac : Int) : Option (Bool) := if 0 ≤ a0 then (if a0 < (aa.length : Int) then (if 0 ≤ ac then (if ac < (aa.length : Int) then (some ((rd aa a0) == (wrap64 ((rd aa ac) - 1)))) else (none)) else (none)) else (none)) else (none)
theorem QbF.calls (a0 : Int) (aw : Nat) (aj : Option Addr) (ak : Nat) (aa : List Int) (ax : Nat) (ac : Int) (r : Bool) (w : World) (af : Kd.C (Kd.int .i64) w aj aa.length aa) (ah : aa.length ≤ ak) (hb1 : w.heap[aw]? = some (.cells #[.slice aj aa.length ak] 27 (0, 0))) (aG : w.heap[ax]? = some (.cells #[.int .i64 ac] 3 (0, 0))) (ae : aw ≠ ax) (h : QbF.f a0 aa ac = some r) :
  Calls Tryz.prog 49 #[.int .i64 a0, .pointer (some ⟨aw, 0, none⟩), .pointer (some ⟨ax, 0, none⟩)] w fun e w' => e = .returned (.bool r) ∧ Drawn0 w w' := by
 have ai := am_ af;have aH := am_ ah;clear af ah;have aI := am_ hb1;clear hb1;have aJ := am_ aG;clear aG;have aq := am_ ae;have ar := am_ ae.symm;clear ae;have H := h;clear h;unfold QbF.f at H;by_cases c4 : 0 ≤ a0
 ·rw [if_pos c4] at H
  replace c4 := decide_eq_true c4;by_cases c5 : a0 < (aa.length : Int)
  ·rw [if_pos c5] at H
   replace c5 := decide_eq_true c5;by_cases c6 : 0 ≤ ac
   ·rw [if_pos c6] at H
    replace c6 := decide_eq_true c6;by_cases c7 : ac < (aa.length : Int)
    ·rw [if_pos c7] at H
     replace c7 := decide_eq_true c7;obtain rfl := Option.some.inj H;have aK := aq.out;have aL := ar.out;have aC : w.cell? ⟨aw, 0, none⟩ = some (.slice aj aa.length ak) := (blk_cell aI.out 0).trans rfl;have aD := blk_frozen aI.out 0;have al : 0 ≤ (a0 : Int) := Sh.od;have am : a0 < (aa.length : Int) := Sh.od;obtain ⟨au, aE, ay⟩ := Kd.at_int ai.out a0 al am;cases aE;replace al := eq_true al;replace am := eq_true am;have az : w.cell? ⟨ax, 0, none⟩ = some (.int .i64 ac) := (blk_cell aJ.out 0).trans rfl;have aA := blk_frozen aJ.out 0;have ao : 0 ≤ (ac : Int) := Sh.od;have ap : ac < (aa.length : Int) := Sh.od;obtain ⟨av, aF, aB⟩ := Kd.at_int ai.out ac ao ap;obtain rfl : au = av := (by injection aF);replace ao := eq_true ao;replace ap := eq_true ap;go_enter Tryz.func49, Tryz.ntmps49;go_wp2;repeat (go_quiet (fail); try go_wp2)
     go_ret;exact ⟨Sh.es, Sh.dr⟩
    ·rw [if_neg c7] at H
     cases H
   ·rw [if_neg c6] at H
    cases H
  ·rw [if_neg c5] at H
   cases H
 ·rw [if_neg c4] at H
  cases H
def QbO.f (l0 : List Int) (aa : List Int) (ac : Int) : Option (Int) := idxO (fun x_ => QbF.f x_ aa ac) l0 0
theorem QbO.calls (A0 : Option Addr) (c0 : Nat) (l0 : List Int) (ae : Nat) (af : Option Addr) (ah : Nat) (aa : List Int) (ai : Nat) (ac : Int) (r : Int) (w : World) (ao : Kd.C (Kd.int .i64) w A0 l0.length l0) (hc0 : l0.length ≤ c0) (aj : Kd.C (Kd.int .i64) w af aa.length aa) (ak : aa.length ≤ ah) (hb1 : w.heap[ae]? = some (.cells #[.slice af aa.length ah] 27 (0, 0))) (am : w.heap[ai]? = some (.cells #[.int .i64 ac] 3 (0, 0))) (al : ae ≠ ai) (h : QbO.f l0 aa ac = some r) :
  Calls Tryz.prog 48 #[.slice A0 l0.length c0, .func (.func 49) #[] #[.pointer (some ⟨ae, 0, none⟩), .pointer (some ⟨ai, 0, none⟩)]] w fun e w' => e = .returned (.int .i64 r) ∧ Below w.heap.size w w' := by
 refine slices_IndexFunc_int_int.gen 49 #[.pointer (some ⟨ae, 0, none⟩), .pointer (some ⟨ai, 0, none⟩)] (enters_of Tryz.func49 (by kernel_rfl) rfl) _ A0 c0 l0 r w ao hc0 ?_ h;intro W x b hB_ hin_ hq_;refine (QbF.calls x ae _ _ aa ai ac b W (Kd.C_below aj hB_) ak ((hB_.block _ (blk_lt hb1)).trans hb1) ((hB_.block _ (blk_lt am)).trans am) al hq_).mono ?_;rintro e w' ⟨rfl, hd_⟩;exact ⟨rfl, hd_.below⟩
mutual
def Qah.l0 : Nat → List (List Int) → Int → List Int → Int → Int → List Int → Option (List Int)
 | 0, _, _, _, _, _, _ => none
 | k + 1, x0, x8, af, ai, ae, aa => if ae < ai then (if 0 ≤ ae then (if ae < (af.length : Int) then (if 0 ≤ (rd af ae) then (if (rd af ae) < (aa.length : Int) then (if (rd aa (rd af ae)) ≥ 0 then (if x8 < 0 then (Qah.l0 k x0 (rd af ae) af ai (wrap64 (ae + 1)) aa) else (if 0 ≤ x8 then (if x8 < (aa.length : Int) then (if (rd aa (rd af ae)) < (rd aa x8) then (Qah.l0 k x0 (rd af ae) af ai (wrap64 (ae + 1)) aa) else (Qah.l0 k x0 x8 af ai (wrap64 (ae + 1)) aa)) else (none)) else (none))) else (Qah.l0 k x0 x8 af ai (wrap64 (ae + 1)) aa)) else (none)) else (none)) else (none)) else (none)) else (if x8 < 0 then (some ([] : List Int)) else (Qah.l1 k x0 (([x8] : List Int)) aa x8))
def Qah.l1 : Nat → List (List Int) → List Int → List Int → Int → Option (List Int)
 | 0, _, _, _, _ => none
 | k + 1, x0, aj, aa, ac => if 0 ≤ ac then (if ac < (aa.length : Int) then (if (rd aa ac) > 0 then (if ac < (x0.length : Int) then ((QbO.f (rd_L12 x0 ac) aa ac).bind fun ah => (if 0 ≤ ah then (if ah < ((rd_L12 x0 ac).length : Int) then (if aj.length < 17592186044416 then (Qah.l1 k x0 (aj ++ [rd (rd_L12 x0 ac) ah]) aa (rd (rd_L12 x0 ac) ah)) else (none)) else (none)) else (none))) else (none)) else (some aj)) else (none)) else (none)
end
def Qah.f (k : Nat) (l0 : List (List Int)) (l1 : List Int) (l2 : List Int) : Option (List Int) := (Qao.f k l0).bind fun aa => ((Qaf.f k aa l2).bind fun ac => (Qah.l0 k l0 (-1) l1 (l1.length : Int) 0 ac))
theorem Qah.mono_l : ∀ k, (∀ y0 y1 y2 y3 y4 y5, LeO (Qah.l0 k y0 y1 y2 y3 y4 y5) (Qah.l0 (k + 1) y0 y1 y2 y3 y4 y5)) ∧ (∀ y0 y1 y2 y3, LeO (Qah.l1 k y0 y1 y2 y3) (Qah.l1 (k + 1) y0 y1 y2 y3))
 | 0 => ⟨fun _ _ _ _ _ _ r h => by simp [Qah.l0] at h, fun _ _ _ _ r h => by simp [Qah.l1] at h⟩
 | k + 1 => by
  obtain ⟨aa, ac⟩ := Qah.mono_l k
  and_intros <;> intros
  all_goals (first | unfold Qah.l0 | unfold Qah.l1)
  all_goals repeat' with_reducible first | apply aa | apply ac | apply Qaf.mono | apply Qao.mono | exact LeO.refl _ | exact LeO.none _ | apply LeO.ite | refine LeO.bind ?_ fun _ => ?_
theorem Qah.mono : ∀ a0 a1 a2 k, LeO (Qah.f k a0 a1 a2) (Qah.f (k + 1) a0 a1 a2) := by
 intro a0 a1 a2 k;obtain ⟨aa, ac⟩ := Qah.mono_l k;unfold Qah.f;repeat' with_reducible first | apply aa | apply ac | apply Qaf.mono | apply Qao.mono | exact LeO.refl _ | exact LeO.none _ | apply LeO.ite | refine LeO.bind ?_ fun _ => ?_
theorem Qah.calls2 (k : Nat) (A0 : Option Addr) (c0 : Nat) (l0 : List (List Int)) (A1 : Option Addr) (c1 : Nat) (l1 : List Int) (A2 : Option Addr) (c2 : Nat) (l2 : List Int) (r : List Int) (w : World) (dq : Kd.C (Kd.slice 3 (Kd.int .i64)) w A0 l0.length l0) (hc0 : l0.length ≤ c0) (hr1 : Kd.C (Kd.int .i64) w A1 l1.length l1) (dt : l1.length ≤ c1) (hr2 : Kd.C (Kd.int .i64) w A2 l2.length l2) (du : l2.length ≤ c2) (h : Qah.f k l0 l1 l2 = some r) :
  Calls Tryz.prog 22 #[.slice A0 l0.length c0, .slice A1 l1.length c1, .slice A2 l2.length c2] w fun e w' => ∃ dg : Value, e = .returned (dg) ∧ (r = [] → dg = .slice none 0 0) ∧ Kd.R (Kd.int .i64) 3 w' w.heap.size (fun _ => True) dg r ∧ Below w.heap.size w w' := by
 have cu := am_ dq;have dh := am_ hc0;clear dq hc0;have cQ := am_ hr1;have dL := am_ dt;clear hr1 dt;have di := am_ hr2;have dj := am_ du;clear hr2 du;have HB := am_ (Below.refl w.heap.size w);have H := h;clear h;unfold Qah.f at H;obtain ⟨bP, A4, H⟩ := Sh.ba H;obtain ⟨ak, A5, H⟩ := Sh.ba H;have H' := am_ H;clear H;go_enter Tryz.func22, Tryz.ntmps22;go_wp2_with (first | (go_at_call 47; (with_reducible refine (Qao.calls k _ _ l0 bP _ ?side1 ?side2 A4.out).mono ?_); (case side1 => repeat (first | exact cu.out | (with_reducible first | refine Kd.C_alloc ?_ _ | refine Kd.C_drewN ?_ _ | refine Kd.C_drew ?_))); (case side2 => exact dh.out); rintro e w6 ⟨cJ, rfl, bf, hb⟩; have ao := am_ (Kd.S_lower bf (below_size Sh.bw)); replace HB := Sh.hb hb; (try clear hb); (try clear dM); (try clear hk); (try clear bf); obtain ⟨dv, dw, cK⟩ := Kd.S_slice ao.out; subst cK) | (go_at_call 46; (with_reducible refine (Qaf.calls k _ _ bP _ _ l2 ak _ (Sh.cR (Kd.S_reads' ao.out).2.2) (Kd.S_reads' ao.out).2.1 (Sh.cB di.out) dj.out A5.out).mono ?_); rintro e w8 ⟨cL, rfl, bf, hb⟩; replace ao := am_ (Kd.S_elder' (by (with_reducible repeat (first | apply Kd.S_alloc | apply Kd.S_drewN | apply Kd.S_drew)); exact ao.out) (Kd.R_base bf) hb); have aG := am_ (Kd.R_lower bf (below_size Sh.bw)); replace HB := Sh.hb hb; (try clear hb); (try clear bf)) | ((with_reducible refine Sh.d 7 ?_); refine Sh.bx (N := 7) (cs := #[.slice none 0 0]) (t := 27) (h := ?_); intro aw hg w9 hbox hb; replace ao := am_ (Kd.S_below (Kd.S_elderB (by (with_reducible repeat (first | apply Kd.S_alloc | apply Kd.S_drewN | apply Kd.S_drew)); exact ao.out) aw (Nat.le_of_eq hg.symm)) hb); replace aG := am_ (Kd.R_below (Sh.rl aG.out) hb); have ac := am_ hbox; have cg := Sh.ag w hg; replace HB := Sh.hb hb; clear hb hbox hg; obtain ⟨bk, aH, bQ⟩ := Kd.R_slice aG.out; subst bQ; have aW := Sh.bc ac.out 0; have aX := blk_frozen ac.out 0));repeat (go_quiet (first | (go_at_call 47; (with_reducible refine (Qao.calls k _ _ l0 bP _ ?side1 ?side2 A4.out).mono ?_); (case side1 => repeat (first | exact cu.out | (with_reducible first | refine Kd.C_alloc ?_ _ | refine Kd.C_drewN ?_ _ | refine Kd.C_drew ?_))); (case side2 => exact dh.out); rintro e w6 ⟨cJ, rfl, bf, hb⟩; have ao := am_ (Kd.S_lower bf (below_size Sh.bw)); replace HB := Sh.hb hb; (try clear hb); (try clear bf); obtain ⟨dv, dw, cK⟩ := Kd.S_slice ao.out; subst cK) | (go_at_call 46; (with_reducible refine (Qaf.calls k _ _ bP _ _ l2 ak _ (Sh.cR (Kd.S_reads' ao.out).2.2) (Kd.S_reads' ao.out).2.1 (Sh.cB di.out) dj.out A5.out).mono ?_); rintro e w8 ⟨cL, rfl, bf, hb⟩; replace ao := am_ (Kd.S_elder' (by (with_reducible repeat (first | apply Kd.S_alloc | apply Kd.S_drewN | apply Kd.S_drew)); exact ao.out) (Kd.R_base bf) hb); have aG := am_ (Kd.R_lower bf (below_size Sh.bw)); replace HB := Sh.hb hb; (try clear hb); (try clear bf)) | ((with_reducible refine Sh.d 7 ?_); refine Sh.bx (N := 7) (cs := #[.slice none 0 0]) (t := 27) (h := ?_); intro aw hg w9 hbox hb; replace ao := am_ (Kd.S_below (Kd.S_elderB (by (with_reducible repeat (first | apply Kd.S_alloc | apply Kd.S_drewN | apply Kd.S_drew)); exact ao.out) aw (Nat.le_of_eq hg.symm)) hb); replace aG := am_ (Kd.R_below (Sh.rl aG.out) hb); have ac := am_ hbox; have cg := Sh.ag w hg; replace HB := Sh.hb hb; clear hb hbox hg; obtain ⟨bk, aH, bQ⟩ := Kd.R_slice aG.out; subst bQ; have aW := Sh.bc ac.out 0; have aX := blk_frozen ac.out 0)); try go_wp2_with (first | (go_at_call 47; (with_reducible refine (Qao.calls k _ _ l0 bP _ ?side1 ?side2 A4.out).mono ?_); (case side1 => repeat (first | exact cu.out | (with_reducible first | refine Kd.C_alloc ?_ _ | refine Kd.C_drewN ?_ _ | refine Kd.C_drew ?_))); (case side2 => exact dh.out); rintro e w6 ⟨cJ, rfl, bf, hb⟩; have ao := am_ (Kd.S_lower bf (below_size Sh.bw)); replace HB := Sh.hb hb; (try clear hb); (try clear bf); obtain ⟨dv, dw, cK⟩ := Kd.S_slice ao.out; subst cK) | (go_at_call 46; (with_reducible refine (Qaf.calls k _ _ bP _ _ l2 ak _ (Sh.cR (Kd.S_reads' ao.out).2.2) (Kd.S_reads' ao.out).2.1 (Sh.cB di.out) dj.out A5.out).mono ?_); rintro e w8 ⟨cL, rfl, bf, hb⟩; replace ao := am_ (Kd.S_elder' (by (with_reducible repeat (first | apply Kd.S_alloc | apply Kd.S_drewN | apply Kd.S_drew)); exact ao.out) (Kd.R_base bf) hb); have aG := am_ (Kd.R_lower bf (below_size Sh.bw)); replace HB := Sh.hb hb; (try clear hb); (try clear bf)) | ((with_reducible refine Sh.d 7 ?_); refine Sh.bx (N := 7) (cs := #[.slice none 0 0]) (t := 27) (h := ?_); intro aw hg w9 hbox hb; replace ao := am_ (Kd.S_below (Kd.S_elderB (by (with_reducible repeat (first | apply Kd.S_alloc | apply Kd.S_drewN | apply Kd.S_drew)); exact ao.out) aw (Nat.le_of_eq hg.symm)) hb); replace aG := am_ (Kd.R_below (Sh.rl aG.out) hb); have ac := am_ hbox; have cg := Sh.ag w hg; replace HB := Sh.hb hb; clear hb hbox hg; obtain ⟨bk, aH, bQ⟩ := Kd.R_slice aG.out; subst bQ; have aW := Sh.bc ac.out 0; have aX := blk_frozen ac.out 0)))
 go_loopg [8, 20] k (fun kq v8 dJ w' => ∃ (ae : Int) (ai : Int), v8 = .int .i64 ae ∧ dJ = .int .i64 ai ∧ Aside0 (Qah.l0 kq l0 ae l1 (l1.length : Int) ai ak = some r) ∧ Aside0 (kq ≤ k) ∧ Aside0 (Kd.R (Kd.int .i64) 3 w' w.heap.size (fun _ => True) (.slice bk ak.length aH) ak) ∧ Aside0 (w'.heap[aw]? = some (.cells #[(.slice bk ak.length aH)] 27 (0, 0))) ∧ Aside0 (Below w.heap.size w w'))
 case atStart => exact ⟨((-1)), (0), (Sh.es), (Sh.es), H', ⟨Nat.le_refl _⟩, ⟨Sh.rl (Kd.R_mono (Kd.R_far (p := ⟨aw, 0, none⟩) (Kd.R_types aG.out ac.out (by decide)) (fun _ hk => hk.2) (.slice bk ak.length aH)) (fun _ hk => trivial))⟩, ⟨by refine Sh.pl ?_; refine blk_put (cs := #[.slice none 0 0]) ?_ 0 _ rfl; refine Sh.pl ?_; exact ac.out⟩, ⟨Sh.bw⟩⟩
 case round =>
  clear H';try clear aW
  try clear aX
  obtain ⟨ae, ai, rfl, rfl, HA, b1, aa, ac, HB⟩ := hrel;cases gk with
  | zero => exact absurd HA.out (by simp [Qah.l0])
  | succ k1 =>
   have H := HA.out;clear HA;simp only [Qah.l0] at H;by_cases cD : ai < (l1.length : Int)
   ·rw [if_pos cD] at H
    replace cD := decide_eq_true cD;by_cases cS : 0 ≤ ai
    ·rw [if_pos cS] at H
     replace cS := decide_eq_true cS;by_cases cT : ai < (l1.length : Int)
     ·rw [if_pos cT] at H
      replace cT := decide_eq_true cT;by_cases cU : 0 ≤ (rd l1 ai)
      ·rw [if_pos cU] at H
       replace cU := decide_eq_true cU;by_cases cV : (rd l1 ai) < (ak.length : Int)
       ·rw [if_pos cV] at H
        replace cV := decide_eq_true cV;by_cases cE : (rd ak (rd l1 ai)) ≥ 0
        ·rw [if_pos cE] at H
         have c17b0 : decide (0 ≤ (rd ak (rd l1 ai))) = true := decide_eq_true cE;clear cE;by_cases cF : ae < 0
         ·rw [if_pos cF] at H
          replace cF := decide_eq_true cF;have H' := am_ H;clear H;have aJ : 0 ≤ (ai : Int) := Sh.od;have aK : ai < (l1.length : Int) := Sh.od;obtain ⟨bR, bp, ap⟩ := Kd.at_int cQ.out ai aJ aK;cases bp;try replace ap := Sh.cw ap
          replace aJ := eq_true aJ;replace aK := eq_true aK;have b6 := Sh.bc ac.out 0;have b7 := blk_frozen ac.out 0;have aM : 0 ≤ ((rd l1 ai) : Int) := Sh.od;have aN : (rd l1 ai) < (ak.length : Int) := Sh.od;obtain ⟨aZ, bq, aY⟩ := Kd.at_int (Kd.R_reads' aa.out).2.2 (rd l1 ai) aM aN;cases bq;replace aM := eq_true aM;replace aN := eq_true aN;go_wp2;repeat (go_quiet (fail); try go_wp2)
          go_roundg k1
          case measure => have := b1.out; omega
          case rel => exact ⟨(rd l1 ai), (wrap64 (ai + 1)), (Sh.es), (Sh.es), H', ⟨by have := b1.out; omega⟩, ⟨Sh.rl aa.out⟩, ⟨by refine Sh.pl ?_; exact ac.out⟩, ⟨Sh.bw⟩⟩
         ·rw [if_neg cF] at H
          replace cF := decide_eq_false cF;by_cases cW : 0 ≤ ae
          ·rw [if_pos cW] at H
           replace cW := decide_eq_true cW;by_cases cX : ae < (ak.length : Int)
           ·rw [if_pos cX] at H
            replace cX := decide_eq_true cX;by_cases cG : (rd ak (rd l1 ai)) < (rd ak ae)
            ·rw [if_pos cG] at H
             replace cG := decide_eq_true cG;have H' := am_ H;clear H;have aJ : 0 ≤ (ai : Int) := Sh.od;have aK : ai < (l1.length : Int) := Sh.od;obtain ⟨bR, bp, ap⟩ := Kd.at_int cQ.out ai aJ aK;cases bp;try replace ap := Sh.cw ap
             replace aJ := eq_true aJ;replace aK := eq_true aK;have b8 := Sh.bc ac.out 0;have b9 := blk_frozen ac.out 0;have aM : 0 ≤ ((rd l1 ai) : Int) := Sh.od;have aN : (rd l1 ai) < (ak.length : Int) := Sh.od;obtain ⟨aZ, bq, aY⟩ := Kd.at_int (Kd.R_reads' aa.out).2.2 (rd l1 ai) aM aN;cases bq;replace aM := eq_true aM;replace aN := eq_true aN;have br : 0 ≤ ((rd l1 ai) : Int) := Sh.od;have bs : (rd l1 ai) < (ak.length : Int) := Sh.od;obtain ⟨bS, cv, bC⟩ := Kd.at_int (Kd.R_reads' aa.out).2.2 (rd l1 ai) br bs;obtain rfl : aZ = bS := (by injection cv);replace br := eq_true br;replace bs := eq_true bs;have bu : 0 ≤ (ae : Int) := Sh.od;have bv : ae < (ak.length : Int) := Sh.od;obtain ⟨bT, cx, bD⟩ := Kd.at_int (Kd.R_reads' aa.out).2.2 ae bu bv;obtain rfl : aZ = bT := (by injection cx);replace bu := eq_true bu;replace bv := eq_true bv;go_wp2;repeat (go_quiet (fail); try go_wp2)
             go_roundg k1
             case measure => have := b1.out; omega
             case rel => exact ⟨(rd l1 ai), (wrap64 (ai + 1)), (Sh.es), (Sh.es), H', ⟨by have := b1.out; omega⟩, ⟨Sh.rl aa.out⟩, ⟨by refine Sh.pl ?_; exact ac.out⟩, ⟨Sh.bw⟩⟩
            ·rw [if_neg cG] at H
             replace cG := decide_eq_false cG;have H' := am_ H;clear H;have aJ : 0 ≤ (ai : Int) := Sh.od;have aK : ai < (l1.length : Int) := Sh.od;obtain ⟨bR, bp, ap⟩ := Kd.at_int cQ.out ai aJ aK;cases bp;try replace ap := Sh.cw ap
             replace aJ := eq_true aJ;replace aK := eq_true aK;have ca := Sh.bc ac.out 0;have cb := blk_frozen ac.out 0;have aM : 0 ≤ ((rd l1 ai) : Int) := Sh.od;have aN : (rd l1 ai) < (ak.length : Int) := Sh.od;obtain ⟨aZ, bq, aY⟩ := Kd.at_int (Kd.R_reads' aa.out).2.2 (rd l1 ai) aM aN;cases bq;replace aM := eq_true aM;replace aN := eq_true aN;have br : 0 ≤ ((rd l1 ai) : Int) := Sh.od;have bs : (rd l1 ai) < (ak.length : Int) := Sh.od;obtain ⟨bS, cv, bC⟩ := Kd.at_int (Kd.R_reads' aa.out).2.2 (rd l1 ai) br bs;obtain rfl : aZ = bS := (by injection cv);replace br := eq_true br;replace bs := eq_true bs;have bu : 0 ≤ (ae : Int) := Sh.od;have bv : ae < (ak.length : Int) := Sh.od;obtain ⟨bT, cx, bD⟩ := Kd.at_int (Kd.R_reads' aa.out).2.2 ae bu bv;obtain rfl : aZ = bT := (by injection cx);replace bu := eq_true bu;replace bv := eq_true bv;go_wp2;repeat (go_quiet (fail); try go_wp2)
             go_roundg k1
             case measure => have := b1.out; omega
             case rel => exact ⟨(ae), (wrap64 (ai + 1)), (Sh.es), (Sh.es), H', ⟨by have := b1.out; omega⟩, ⟨Sh.rl aa.out⟩, ⟨by refine Sh.pl ?_; exact ac.out⟩, ⟨Sh.bw⟩⟩
           ·rw [if_neg cX] at H
            cases H
          ·rw [if_neg cW] at H
           cases H
        ·rw [if_neg cE] at H
         have c17b0 : decide (0 ≤ (rd ak (rd l1 ai))) = false := decide_eq_false cE;clear cE;have H' := am_ H;clear H;have aJ : 0 ≤ (ai : Int) := Sh.od;have aK : ai < (l1.length : Int) := Sh.od;obtain ⟨bR, bp, ap⟩ := Kd.at_int cQ.out ai aJ aK;cases bp;try replace ap := Sh.cw ap
         replace aJ := eq_true aJ;replace aK := eq_true aK;have cd := Sh.bc ac.out 0;have ce := blk_frozen ac.out 0;have aM : 0 ≤ ((rd l1 ai) : Int) := Sh.od;have aN : (rd l1 ai) < (ak.length : Int) := Sh.od;obtain ⟨aZ, bq, aY⟩ := Kd.at_int (Kd.R_reads' aa.out).2.2 (rd l1 ai) aM aN;cases bq;replace aM := eq_true aM;replace aN := eq_true aN;go_wp2;repeat (go_quiet (fail); try go_wp2)
         go_roundg k1
         case measure => have := b1.out; omega
         case rel => exact ⟨(ae), (wrap64 (ai + 1)), (Sh.es), (Sh.es), H', ⟨by have := b1.out; omega⟩, ⟨Sh.rl aa.out⟩, ⟨by refine Sh.pl ?_; exact ac.out⟩, ⟨Sh.bw⟩⟩
       ·rw [if_neg cV] at H
        cases H
      ·rw [if_neg cU] at H
       cases H
     ·rw [if_neg cT] at H
      cases H
    ·rw [if_neg cS] at H
     cases H
   ·rw [if_neg cD] at H
    replace cD := decide_eq_false cD;by_cases cH : ae < 0
    ·rw [if_pos cH] at H
     replace cH := decide_eq_true cH;obtain rfl := Option.some.inj H;go_wp2;repeat (go_quiet (fail); try go_wp2)
     go_ret;exact ⟨_, Sh.eR, (by first | exact rfl | exact fun _ => rfl), by first | exact Kd.R_nil _ _ _ _ _ | exact Kd.N_nil _ _ _ _ _ | exact Kd.V_nil _ _ _ _ _ | exact Kd.Q_nil _ _ _ _ _ | exact Kd.S_nil _ _ _ _ _, Sh.bw⟩
    ·rw [if_neg cH] at H
     replace cH := decide_eq_false cH;obtain ⟨cM, bl⟩ : ∃ y_ : List Int, y_ = (([ae] : List Int)) := ⟨_, rfl⟩;replace H : (Qah.l1 k1 l0 cM ak ae) = some r := by first | (rw [bl]; with_reducible exact H) | (have cy := (Option.bind_some _ _).symm.trans H; rw [bl]; with_reducible exact cy) | (have cy := (Option.bind_some _ _).symm.trans H; with_reducible exact cy) | with_reducible exact H | (rw [bl]; exact H) | exact H
     have a1 := am_ bl;clear bl;have H' := am_ H;clear H;go_wp2_with (first | ((with_reducible refine Sh.d 49 ?_); refine Kd.R_lit (Kd.int .i64) _ 3 ?hg (N := 49) ?hd (xs := ([ae] : List Int)) (inner := [.int .i64 ae]) (ok := fun _ => True) (okp := fun _ => True) ?hr ?hp (fun _ hk => hk) trivial (Below.refl _ _) (Nat.le_refl _) (by simp) ?_; (case hd => rfl); (case hg => rfl); (case hr => first | (go_simp; done) | (go_simp; rfl)); (case hp => exact (Reps.one (show Kd.M (Kd.int .i64) _ _ _ ae [.int .i64 ae] from rfl) (Reps.none _ _))); intro cN dx aA hb hg_ hnew_; clear hg_ hnew_; (first | rw [← a1.out] at aA | (simp only [Int.reduceToNat] at aA; rw [← a1.out] at aA)); have aQ := am_ (Kd.R_lower (Kd.R_new' aA (Kd.R_lt (Sh.rl aa.out))) (below_size Sh.bw)); replace aa := am_ (Kd.R_elder' (Sh.rl aa.out) (Kd.R_base aA) hb); replace ac := Sh.ab ac hb; replace HB := Sh.hb hb; clear hb aA) | ((with_reducible refine Sh.d 12 ?_); refine Sh.bx (N := 12) (cs := #[.int .i64 0]) (t := 3) (h := ?_); intro ah hg dy hbox hb; replace aa := am_ (Kd.R_below (Kd.R_elderB (Sh.rl aa.out) ah (Nat.le_of_eq hg.symm)) hb); replace aQ := am_ (Kd.R_below (Kd.R_elderB (Sh.rl aQ.out) ah (Nat.le_of_eq hg.symm)) hb); have af := am_ hbox; have bm := Sh.ag w hg; replace HB := Sh.hb hb; have aj := am_ (Sh.nl hg ac.out); have am := am_ (Sh.ng hg ac.out); replace ac := Sh.ab ac hb; clear hb hbox hg; have ch := am.out; have ci := aj.out; have bg := Sh.bc af.out 0; have bh := blk_frozen af.out 0));repeat (go_quiet (first | ((with_reducible refine Sh.d 49 ?_); refine Kd.R_lit (Kd.int .i64) _ 3 ?hg (N := 49) ?hd (xs := ([ae] : List Int)) (inner := [.int .i64 ae]) (ok := fun _ => True) (okp := fun _ => True) ?hr ?hp (fun _ hk => hk) trivial (Below.refl _ _) (Nat.le_refl _) (by simp) ?_; (case hd => rfl); (case hg => rfl); (case hr => first | (go_simp; done) | (go_simp; rfl)); (case hp => exact (Reps.one (show Kd.M (Kd.int .i64) _ _ _ ae [.int .i64 ae] from rfl) (Reps.none _ _))); intro cN dx aA hb hg_ hnew_; clear hg_ hnew_; (first | rw [← a1.out] at aA | (simp only [Int.reduceToNat] at aA; rw [← a1.out] at aA)); have aQ := am_ (Kd.R_lower (Kd.R_new' aA (Kd.R_lt (Sh.rl aa.out))) (below_size Sh.bw)); replace aa := am_ (Kd.R_elder' (Sh.rl aa.out) (Kd.R_base aA) hb); replace ac := Sh.ab ac hb; replace HB := Sh.hb hb; clear hb aA) | ((with_reducible refine Sh.d 12 ?_); refine Sh.bx (N := 12) (cs := #[.int .i64 0]) (t := 3) (h := ?_); intro ah hg dy hbox hb; replace aa := am_ (Kd.R_below (Kd.R_elderB (Sh.rl aa.out) ah (Nat.le_of_eq hg.symm)) hb); replace aQ := am_ (Kd.R_below (Kd.R_elderB (Sh.rl aQ.out) ah (Nat.le_of_eq hg.symm)) hb); have af := am_ hbox; have bm := Sh.ag w hg; replace HB := Sh.hb hb; have aj := am_ (Sh.nl hg ac.out); have am := am_ (Sh.ng hg ac.out); replace ac := Sh.ab ac hb; clear hb hbox hg; have ch := am.out; have ci := aj.out; have bg := Sh.bc af.out 0; have bh := blk_frozen af.out 0)); try go_wp2_with (first | ((with_reducible refine Sh.d 49 ?_); refine Kd.R_lit (Kd.int .i64) _ 3 ?hg (N := 49) ?hd (xs := ([ae] : List Int)) (inner := [.int .i64 ae]) (ok := fun _ => True) (okp := fun _ => True) ?hr ?hp (fun _ hk => hk) trivial (Below.refl _ _) (Nat.le_refl _) (by simp) ?_; (case hd => rfl); (case hg => rfl); (case hr => first | (go_simp; done) | (go_simp; rfl)); (case hp => exact (Reps.one (show Kd.M (Kd.int .i64) _ _ _ ae [.int .i64 ae] from rfl) (Reps.none _ _))); intro cN dx aA hb hg_ hnew_; clear hg_ hnew_; (first | rw [← a1.out] at aA | (simp only [Int.reduceToNat] at aA; rw [← a1.out] at aA)); have aQ := am_ (Kd.R_lower (Kd.R_new' aA (Kd.R_lt (Sh.rl aa.out))) (below_size Sh.bw)); replace aa := am_ (Kd.R_elder' (Sh.rl aa.out) (Kd.R_base aA) hb); replace ac := Sh.ab ac hb; replace HB := Sh.hb hb; clear hb aA) | ((with_reducible refine Sh.d 12 ?_); refine Sh.bx (N := 12) (cs := #[.int .i64 0]) (t := 3) (h := ?_); intro ah hg dy hbox hb; replace aa := am_ (Kd.R_below (Kd.R_elderB (Sh.rl aa.out) ah (Nat.le_of_eq hg.symm)) hb); replace aQ := am_ (Kd.R_below (Kd.R_elderB (Sh.rl aQ.out) ah (Nat.le_of_eq hg.symm)) hb); have af := am_ hbox; have bm := Sh.ag w hg; replace HB := Sh.hb hb; have aj := am_ (Sh.nl hg ac.out); have am := am_ (Sh.ng hg ac.out); replace ac := Sh.ab ac hb; clear hb hbox hg; have ch := am.out; have ci := aj.out; have bg := Sh.bc af.out 0; have bh := blk_frozen af.out 0)))
     go_loopg [11, 12] k1 (fun kq dz dK w' => ∃ (ah : Nat) (ae : Int) (aR : List Int), dK = .pointer (some ⟨ah, 0, none⟩) ∧ Aside0 (Qah.l1 kq l0 aR ak ae = some r) ∧ Aside0 (kq ≤ k1) ∧ Aside0 (Kd.R (Kd.int .i64) 3 w' w.heap.size (fun k_ => some k_ ≠ ((.slice bk ak.length aH) : Value).ownBlock ∧ k_ ≠ ah) dz aR) ∧ Aside0 (Kd.R (Kd.int .i64) 3 w' w.heap.size (fun k_ => some k_ ≠ (dz : Value).ownBlock ∧ k_ ≠ ah) (.slice bk ak.length aH) ak) ∧ Aside0 (w'.heap[aw]? = some (.cells #[(.slice bk ak.length aH)] 27 (0, 0))) ∧ Aside0 (w'.heap[ah]? = some (.cells #[.int .i64 ae] 3 (0, 0))) ∧ Aside0 (Below w.heap.size w w') ∧ Aside0 (aw ≠ ah) ∧ Aside0 (ah ≠ aw) ∧ Aside0 (w.heap.size ≤ ah) ∧ Aside0 (0 < aR.length))
     case atStart => exact ⟨ah, ae, (cM), rfl, H', ⟨Nat.le_refl _⟩, ⟨Sh.rl (Kd.R_mono (Kd.R_far (p := ⟨ah, 0, none⟩) (Kd.R_mono aQ.out (fun k_ hk => (⟨hk, hk.2⟩ : _ ∧ k_ ≠ ah))) (fun _ hk => hk.2) (.int .i64 ae)) (fun _ h => ⟨h.1.1.2, h.1.2⟩))⟩, ⟨Sh.rl (Kd.R_mono (Kd.R_far (p := ⟨ah, 0, none⟩) (Kd.R_mono aa.out (fun k_ hk => (⟨hk, hk.2⟩ : _ ∧ k_ ≠ ah))) (fun _ hk => hk.2) (.int .i64 ae)) (fun _ h => ⟨h.1.1.2, h.1.2⟩))⟩, ⟨by refine Sh.pl ?_; refine blk_far ?_ aj.out _; refine Sh.pl ?_; exact ac.out⟩, ⟨by refine Sh.pl ?_; refine blk_put (cs := #[.int .i64 0]) ?_ 0 _ rfl; refine Sh.pl ?_; exact af.out⟩, ⟨Sh.bw⟩, aj, am, bm, ⟨by rw [a1.out]; exact Nat.succ_pos _⟩⟩
     case round =>
      clear H';try clear dN
      try clear aW
      try clear b6
      try clear b8
      try clear ca
      try clear cd
      try clear bg
      try clear aX
      try clear b7
      try clear b9
      try clear cb
      try clear ce
      try clear bh
      try clear ap
      try clear aY
      try clear bC
      try clear bD
      try clear aj
      try clear am
      try clear bm
      obtain ⟨ah, ae, aR, rfl, HA, dA, aq, aa, ac, af, HB, aj, am, bm, dk⟩ := hrel;cases gk with
      | zero => exact absurd HA.out (by simp [Qah.l1])
      | succ k2 =>
       have H := HA.out;clear HA;simp only [Qah.l1] at H;by_cases cY : 0 ≤ ae
       ·rw [if_pos cY] at H
        replace cY := decide_eq_true cY;by_cases cZ : ae < (ak.length : Int)
        ·rw [if_pos cZ] at H
         replace cZ := decide_eq_true cZ;by_cases cI : (rd ak ae) > 0
         ·rw [if_pos cI] at H
          have c34b0 : decide (0 < (rd ak ae)) = true := decide_eq_true cI;clear cI;by_cases c4 : ae < (l0.length : Int)
          ·rw [if_pos c4] at H
           replace c4 := decide_eq_true c4;obtain ⟨al, dl, H⟩ := Sh.ba H;by_cases c5 : 0 ≤ al
           ·rw [if_pos c5] at H
            replace c5 := decide_eq_true c5;by_cases c6 : al < ((rd_L12 l0 ae).length : Int)
            ·rw [if_pos c6] at H
             replace c6 := decide_eq_true c6;by_cases c7 : aR.length < 17592186044416
             ·rw [if_pos c7] at H
              have bU := am_ c7;clear c7;obtain ⟨cO, bn⟩ : ∃ y_ : List Int, y_ = (aR ++ [rd (rd_L12 l0 ae) al]) := ⟨_, rfl⟩;replace H : (Qah.l1 k2 l0 cO ak (rd (rd_L12 l0 ae) al)) = some r := by first | (rw [bn]; with_reducible exact H) | (have cy := (Option.bind_some _ _).symm.trans H; rw [bn]; with_reducible exact cy) | (have cy := (Option.bind_some _ _).symm.trans H; with_reducible exact cy) | with_reducible exact H | (rw [bn]; exact H) | exact H
              have bE := am_ bn;clear bn;have H' := am_ H;clear H;have dB := aj.out;have dC := am.out;have c8 := Sh.bc ac.out 0;have c9 := blk_frozen ac.out 0;have da := Sh.bc af.out 0;have db := blk_frozen af.out 0;have bA : 0 ≤ (ae : Int) := Sh.od;have bB : ae < (ak.length : Int) := Sh.od;obtain ⟨aI, cz, cf⟩ := Kd.at_int (Kd.R_reads' aa.out).2.2 ae bA bB;cases cz;replace bA := eq_true bA;replace bB := eq_true bB;have cA : 0 ≤ (ae : Int) := Sh.od;have cC : ae < (l0.length : Int) := Sh.od;obtain ⟨bV, dm, dn, dp, bF, bG, bH⟩ := at_L12 cu.out ae cA cC;cases dp;try replace bF := Sh.cw bF
              have bi := am_ bH;have bj := am_ bG;clear bH bG;replace cA := eq_true cA;replace cC := eq_true cC;go_wp2_with (first | (go_at_call 48; (with_reducible refine (QbO.calls _ _ (rd_L12 l0 ae) aw (some aI) aH ak ah ae al _ (Sh.cB bi.out) bj.out (Sh.cR (Kd.R_reads' aa.out).2.2) (Kd.R_reads' aa.out).2.1 ?side5 ?side6 ?side7 dl.out).mono ?_); (case side5 => refine Sh.pl ?_; exact ac.out); (case side6 => refine Sh.pl ?_; exact af.out); (case side7 => exact aj.out); rintro e dD ⟨rfl, hb⟩; replace aq := am_ (Kd.R_below (Sh.rl aq.out) hb); replace aa := am_ (Kd.R_below (Sh.rl aa.out) hb); replace ac := Sh.ab ac hb; replace af := Sh.ab af hb; replace HB := Sh.hb hb; (try clear hb); (try clear hk); have bI := Sh.bc af.out 0; have bJ := blk_frozen af.out 0; have a2 : 0 ≤ (ae : Int) := Sh.od; have a6 : ae < (l0.length : Int) := Sh.od; obtain ⟨bo, bW, bX, bY, ar, ay, az⟩ := at_L12 cu.out ae a2 a6; obtain rfl : bV = bo := (by injection bY); replace ar := (HB.out.cell (World.block_lt_of_cell? w _ ar)).trans ar; have aT := am_ az; have bK := am_ ay; clear az ay; replace a2 := eq_true a2; replace a6 := eq_true a6; have a7 : 0 ≤ (al : Int) := Sh.od; have a8 : al < ((rd_L12 l0 ae).length : Int) := Sh.od; obtain ⟨cj, bZ, au⟩ := Kd.at_int aT.out al a7 a8; cases bZ; replace au := (HB.out.cell (World.block_lt_of_cell? w _ au)).trans au; replace a7 := eq_true a7; replace a8 := eq_true a8) | ((with_reducible refine gate_builtin (b := .append) (xs := #[.tmp 69, .tmp 71]) rfl ?_); at_builtin; refine Kd.R_append (Kd.int .i64) (w0 := w) w.heap.size rfl (.tmp 69) (.tmp 71) 27 3 (.int .i64 0) 8 rfl Tryz.underlying27 info3 rfl (by decide) (by omega) u11 aR (rd (rd_L12 l0 ae) al) [.int .i64 (rd (rd_L12 l0 ae) al)] (fun k_ => some k_ ≠ (.slice (some aI) ak.length aH : Value).ownBlock ∧ k_ ≠ ah) (fun _ => False) rfl (by first | (go_simp; done) | (go_simp; rfl)) ?aP (fun _ hk => hk.elim) ?aF ?aO ?aB ?aS ?aL ?_; (case aP => exact rfl); (case aB => exact Sh.bw); (case aF => exact (fun k_ hk => ⟨Kd.fresh' (Kd.R_lt (Sh.rl (Kd.R_mono (Kd.R_far (p := ⟨ah, 0, none⟩) (Kd.R_mono aa.out (fun k_ hk => (⟨hk, hk.2⟩ : _ ∧ k_ ≠ ah))) (fun _ hk => hk.2) (.int .i64 (rd (rd_L12 l0 ae) al))) (fun _ h_ => h_.1)))) k_ hk, Kd.freshB (g := ah) (o := .cells #[.int .i64 (rd (rd_L12 l0 ae) al)] 3 (0, 0)) (by refine Sh.pl ?_; refine blk_put (cs := #[.int .i64 ae]) ?_ 0 _ rfl; refine Sh.pl ?_; exact af.out) k_ hk⟩)); (case aO => exact (Sh.rl (Kd.R_mono (Kd.R_far (p := ⟨ah, 0, none⟩) (Kd.R_mono aq.out (fun k_ hk => (⟨hk, hk.2⟩ : _ ∧ k_ ≠ ah))) (fun _ hk => hk.2) (.int .i64 (rd (rd_L12 l0 ae) al))) (fun _ h => ⟨h.1.1, h.1.2⟩)))); (case aS => exact (below_size Sh.bw)); (case aL => have := bU.out; omega); intro cP dE ho hb hg hat; rw [← bE.out] at ho; have ck := am_ (Kd.R_after (ok := (fun k_ => k_ ≠ ah)) (Sh.rl (Kd.R_mono (Kd.R_far (p := ⟨ah, 0, none⟩) (Kd.R_mono aa.out (fun k_ hk => (⟨hk, hk.2⟩ : _ ∧ k_ ≠ ah))) (fun _ hk => hk.2) (.int .i64 (rd (rd_L12 l0 ae) al))) (fun _ h => ⟨h.1.2, h.1.1⟩))) hg hat); have cl := am_ (blk_grown (g := aw) (o := .cells #[.slice (some aI) ak.length aH] 27 (0, 0)) (by refine Sh.pl ?_; refine blk_far ?_ aj.out _; refine Sh.pl ?_; exact ac.out) hg (Kd.R_ne aq.out ac.out (by decide))); have cm := am_ (blk_grown (g := ah) (o := .cells #[.int .i64 (rd (rd_L12 l0 ae) al)] 3 (0, 0)) (by refine Sh.pl ?_; refine blk_put (cs := #[.int .i64 ae]) ?_ 0 _ rfl; refine Sh.pl ?_; exact af.out) hg (Kd.R_away aq.out (fun _ hk => hk.2))); have cn := am_ hb; have co := am_ ho; clear aa; clear ac; clear af; clear HB; clear aq; have aa := ck; have ac := cl; have af := cm; have HB := cn; have aU := co; clear ck cl cm cn co; clear ho hb hg hat; have bL := Sh.bc af.out 0; have bM := blk_frozen af.out 0) | ((with_reducible refine Sh.d 12 ?_); refine Sh.bx (N := 12) (cs := #[.int .i64 0]) (t := 3) (h := ?_); intro aC hg dF hbox hb; replace aa := am_ (Kd.R_below (Kd.R_elderB (Sh.rl aa.out) aC (Nat.le_of_eq hg.symm)) hb); replace aU := am_ (Kd.R_below (Kd.R_elderB (Sh.rl aU.out) aC (Nat.le_of_eq hg.symm)) hb); have aV := am_ hbox; have b0 := Sh.ag w hg; replace HB := Sh.hb hb; have av := am_ (Sh.nl hg ac.out); have ax := am_ (Sh.ng hg ac.out); replace ac := Sh.ab ac hb; have aD := am_ (Sh.nl hg af.out); have aE := am_ (Sh.ng hg af.out); replace af := Sh.ab af hb; clear hb hbox hg; have cp := ax.out; have cq := av.out; have cr := aE.out; have ct := aD.out; have bN := Sh.bc aV.out 0; have bO := blk_frozen aV.out 0));repeat (go_quiet (first | (go_at_call 48; (with_reducible refine (QbO.calls _ _ (rd_L12 l0 ae) aw (some aI) aH ak ah ae al _ (Sh.cB bi.out) bj.out (Sh.cR (Kd.R_reads' aa.out).2.2) (Kd.R_reads' aa.out).2.1 ?side5 ?side6 ?side7 dl.out).mono ?_); (case side5 => refine Sh.pl ?_; exact ac.out); (case side6 => refine Sh.pl ?_; exact af.out); (case side7 => exact aj.out); rintro e dD ⟨rfl, hb⟩; replace aq := am_ (Kd.R_below (Sh.rl aq.out) hb); replace aa := am_ (Kd.R_below (Sh.rl aa.out) hb); replace ac := Sh.ab ac hb; replace af := Sh.ab af hb; replace HB := Sh.hb hb; (try clear hb); (try clear hk); have bI := Sh.bc af.out 0; have bJ := blk_frozen af.out 0; have a2 : 0 ≤ (ae : Int) := Sh.od; have a6 : ae < (l0.length : Int) := Sh.od; obtain ⟨bo, bW, bX, bY, ar, ay, az⟩ := at_L12 cu.out ae a2 a6; obtain rfl : bV = bo := (by injection bY); replace ar := (HB.out.cell (World.block_lt_of_cell? w _ ar)).trans ar; have aT := am_ az; have bK := am_ ay; clear az ay; replace a2 := eq_true a2; replace a6 := eq_true a6; have a7 : 0 ≤ (al : Int) := Sh.od; have a8 : al < ((rd_L12 l0 ae).length : Int) := Sh.od; obtain ⟨cj, bZ, au⟩ := Kd.at_int aT.out al a7 a8; cases bZ; replace au := (HB.out.cell (World.block_lt_of_cell? w _ au)).trans au; replace a7 := eq_true a7; replace a8 := eq_true a8) | ((with_reducible refine gate_builtin (b := .append) (xs := #[.tmp 69, .tmp 71]) rfl ?_); at_builtin; refine Kd.R_append (Kd.int .i64) (w0 := w) w.heap.size rfl (.tmp 69) (.tmp 71) 27 3 (.int .i64 0) 8 rfl Tryz.underlying27 info3 rfl (by decide) (by omega) u11 aR (rd (rd_L12 l0 ae) al) [.int .i64 (rd (rd_L12 l0 ae) al)] (fun k_ => some k_ ≠ (.slice (some aI) ak.length aH : Value).ownBlock ∧ k_ ≠ ah) (fun _ => False) rfl (by first | (go_simp; done) | (go_simp; rfl)) ?aP (fun _ hk => hk.elim) ?aF ?aO ?aB ?aS ?aL ?_; (case aP => exact rfl); (case aB => exact Sh.bw); (case aF => exact (fun k_ hk => ⟨Kd.fresh' (Kd.R_lt (Sh.rl (Kd.R_mono (Kd.R_far (p := ⟨ah, 0, none⟩) (Kd.R_mono aa.out (fun k_ hk => (⟨hk, hk.2⟩ : _ ∧ k_ ≠ ah))) (fun _ hk => hk.2) (.int .i64 (rd (rd_L12 l0 ae) al))) (fun _ h_ => h_.1)))) k_ hk, Kd.freshB (g := ah) (o := .cells #[.int .i64 (rd (rd_L12 l0 ae) al)] 3 (0, 0)) (by refine Sh.pl ?_; refine blk_put (cs := #[.int .i64 ae]) ?_ 0 _ rfl; refine Sh.pl ?_; exact af.out) k_ hk⟩)); (case aO => exact (Sh.rl (Kd.R_mono (Kd.R_far (p := ⟨ah, 0, none⟩) (Kd.R_mono aq.out (fun k_ hk => (⟨hk, hk.2⟩ : _ ∧ k_ ≠ ah))) (fun _ hk => hk.2) (.int .i64 (rd (rd_L12 l0 ae) al))) (fun _ h => ⟨h.1.1, h.1.2⟩)))); (case aS => exact (below_size Sh.bw)); (case aL => have := bU.out; omega); intro cP dE ho hb hg hat; rw [← bE.out] at ho; have ck := am_ (Kd.R_after (ok := (fun k_ => k_ ≠ ah)) (Sh.rl (Kd.R_mono (Kd.R_far (p := ⟨ah, 0, none⟩) (Kd.R_mono aa.out (fun k_ hk => (⟨hk, hk.2⟩ : _ ∧ k_ ≠ ah))) (fun _ hk => hk.2) (.int .i64 (rd (rd_L12 l0 ae) al))) (fun _ h => ⟨h.1.2, h.1.1⟩))) hg hat); have cl := am_ (blk_grown (g := aw) (o := .cells #[.slice (some aI) ak.length aH] 27 (0, 0)) (by refine Sh.pl ?_; refine blk_far ?_ aj.out _; refine Sh.pl ?_; exact ac.out) hg (Kd.R_ne aq.out ac.out (by decide))); have cm := am_ (blk_grown (g := ah) (o := .cells #[.int .i64 (rd (rd_L12 l0 ae) al)] 3 (0, 0)) (by refine Sh.pl ?_; refine blk_put (cs := #[.int .i64 ae]) ?_ 0 _ rfl; refine Sh.pl ?_; exact af.out) hg (Kd.R_away aq.out (fun _ hk => hk.2))); have cn := am_ hb; have co := am_ ho; clear aa; clear ac; clear af; clear HB; clear aq; have aa := ck; have ac := cl; have af := cm; have HB := cn; have aU := co; clear ck cl cm cn co; clear ho hb hg hat; have bL := Sh.bc af.out 0; have bM := blk_frozen af.out 0) | ((with_reducible refine Sh.d 12 ?_); refine Sh.bx (N := 12) (cs := #[.int .i64 0]) (t := 3) (h := ?_); intro aC hg dF hbox hb; replace aa := am_ (Kd.R_below (Kd.R_elderB (Sh.rl aa.out) aC (Nat.le_of_eq hg.symm)) hb); replace aU := am_ (Kd.R_below (Kd.R_elderB (Sh.rl aU.out) aC (Nat.le_of_eq hg.symm)) hb); have aV := am_ hbox; have b0 := Sh.ag w hg; replace HB := Sh.hb hb; have av := am_ (Sh.nl hg ac.out); have ax := am_ (Sh.ng hg ac.out); replace ac := Sh.ab ac hb; have aD := am_ (Sh.nl hg af.out); have aE := am_ (Sh.ng hg af.out); replace af := Sh.ab af hb; clear hb hbox hg; have cp := ax.out; have cq := av.out; have cr := aE.out; have ct := aD.out; have bN := Sh.bc aV.out 0; have bO := blk_frozen aV.out 0)); try go_wp2_with (first | (go_at_call 48; (with_reducible refine (QbO.calls _ _ (rd_L12 l0 ae) aw (some aI) aH ak ah ae al _ (Sh.cB bi.out) bj.out (Sh.cR (Kd.R_reads' aa.out).2.2) (Kd.R_reads' aa.out).2.1 ?side5 ?side6 ?side7 dl.out).mono ?_); (case side5 => refine Sh.pl ?_; exact ac.out); (case side6 => refine Sh.pl ?_; exact af.out); (case side7 => exact aj.out); rintro e dD ⟨rfl, hb⟩; replace aq := am_ (Kd.R_below (Sh.rl aq.out) hb); replace aa := am_ (Kd.R_below (Sh.rl aa.out) hb); replace ac := Sh.ab ac hb; replace af := Sh.ab af hb; replace HB := Sh.hb hb; (try clear hb); (try clear hk); have bI := Sh.bc af.out 0; have bJ := blk_frozen af.out 0; have a2 : 0 ≤ (ae : Int) := Sh.od; have a6 : ae < (l0.length : Int) := Sh.od; obtain ⟨bo, bW, bX, bY, ar, ay, az⟩ := at_L12 cu.out ae a2 a6; obtain rfl : bV = bo := (by injection bY); replace ar := (HB.out.cell (World.block_lt_of_cell? w _ ar)).trans ar; have aT := am_ az; have bK := am_ ay; clear az ay; replace a2 := eq_true a2; replace a6 := eq_true a6; have a7 : 0 ≤ (al : Int) := Sh.od; have a8 : al < ((rd_L12 l0 ae).length : Int) := Sh.od; obtain ⟨cj, bZ, au⟩ := Kd.at_int aT.out al a7 a8; cases bZ; replace au := (HB.out.cell (World.block_lt_of_cell? w _ au)).trans au; replace a7 := eq_true a7; replace a8 := eq_true a8) | ((with_reducible refine gate_builtin (b := .append) (xs := #[.tmp 69, .tmp 71]) rfl ?_); at_builtin; refine Kd.R_append (Kd.int .i64) (w0 := w) w.heap.size rfl (.tmp 69) (.tmp 71) 27 3 (.int .i64 0) 8 rfl Tryz.underlying27 info3 rfl (by decide) (by omega) u11 aR (rd (rd_L12 l0 ae) al) [.int .i64 (rd (rd_L12 l0 ae) al)] (fun k_ => some k_ ≠ (.slice (some aI) ak.length aH : Value).ownBlock ∧ k_ ≠ ah) (fun _ => False) rfl (by first | (go_simp; done) | (go_simp; rfl)) ?aP (fun _ hk => hk.elim) ?aF ?aO ?aB ?aS ?aL ?_; (case aP => exact rfl); (case aB => exact Sh.bw); (case aF => exact (fun k_ hk => ⟨Kd.fresh' (Kd.R_lt (Sh.rl (Kd.R_mono (Kd.R_far (p := ⟨ah, 0, none⟩) (Kd.R_mono aa.out (fun k_ hk => (⟨hk, hk.2⟩ : _ ∧ k_ ≠ ah))) (fun _ hk => hk.2) (.int .i64 (rd (rd_L12 l0 ae) al))) (fun _ h_ => h_.1)))) k_ hk, Kd.freshB (g := ah) (o := .cells #[.int .i64 (rd (rd_L12 l0 ae) al)] 3 (0, 0)) (by refine Sh.pl ?_; refine blk_put (cs := #[.int .i64 ae]) ?_ 0 _ rfl; refine Sh.pl ?_; exact af.out) k_ hk⟩)); (case aO => exact (Sh.rl (Kd.R_mono (Kd.R_far (p := ⟨ah, 0, none⟩) (Kd.R_mono aq.out (fun k_ hk => (⟨hk, hk.2⟩ : _ ∧ k_ ≠ ah))) (fun _ hk => hk.2) (.int .i64 (rd (rd_L12 l0 ae) al))) (fun _ h => ⟨h.1.1, h.1.2⟩)))); (case aS => exact (below_size Sh.bw)); (case aL => have := bU.out; omega); intro cP dE ho hb hg hat; rw [← bE.out] at ho; have ck := am_ (Kd.R_after (ok := (fun k_ => k_ ≠ ah)) (Sh.rl (Kd.R_mono (Kd.R_far (p := ⟨ah, 0, none⟩) (Kd.R_mono aa.out (fun k_ hk => (⟨hk, hk.2⟩ : _ ∧ k_ ≠ ah))) (fun _ hk => hk.2) (.int .i64 (rd (rd_L12 l0 ae) al))) (fun _ h => ⟨h.1.2, h.1.1⟩))) hg hat); have cl := am_ (blk_grown (g := aw) (o := .cells #[.slice (some aI) ak.length aH] 27 (0, 0)) (by refine Sh.pl ?_; refine blk_far ?_ aj.out _; refine Sh.pl ?_; exact ac.out) hg (Kd.R_ne aq.out ac.out (by decide))); have cm := am_ (blk_grown (g := ah) (o := .cells #[.int .i64 (rd (rd_L12 l0 ae) al)] 3 (0, 0)) (by refine Sh.pl ?_; refine blk_put (cs := #[.int .i64 ae]) ?_ 0 _ rfl; refine Sh.pl ?_; exact af.out) hg (Kd.R_away aq.out (fun _ hk => hk.2))); have cn := am_ hb; have co := am_ ho; clear aa; clear ac; clear af; clear HB; clear aq; have aa := ck; have ac := cl; have af := cm; have HB := cn; have aU := co; clear ck cl cm cn co; clear ho hb hg hat; have bL := Sh.bc af.out 0; have bM := blk_frozen af.out 0) | ((with_reducible refine Sh.d 12 ?_); refine Sh.bx (N := 12) (cs := #[.int .i64 0]) (t := 3) (h := ?_); intro aC hg dF hbox hb; replace aa := am_ (Kd.R_below (Kd.R_elderB (Sh.rl aa.out) aC (Nat.le_of_eq hg.symm)) hb); replace aU := am_ (Kd.R_below (Kd.R_elderB (Sh.rl aU.out) aC (Nat.le_of_eq hg.symm)) hb); have aV := am_ hbox; have b0 := Sh.ag w hg; replace HB := Sh.hb hb; have av := am_ (Sh.nl hg ac.out); have ax := am_ (Sh.ng hg ac.out); replace ac := Sh.ab ac hb; have aD := am_ (Sh.nl hg af.out); have aE := am_ (Sh.ng hg af.out); replace af := Sh.ab af hb; clear hb hbox hg; have cp := ax.out; have cq := av.out; have cr := aE.out; have ct := aD.out; have bN := Sh.bc aV.out 0; have bO := blk_frozen aV.out 0)))
              go_roundg k2
              case measure => have := b1.out; have := dA.out; omega
              case rel => exact ⟨aC, (rd (rd_L12 l0 ae) al), (cO), rfl, H', ⟨by have := b1.out; have := dA.out; omega⟩, ⟨Sh.rl (Kd.R_mono (Kd.R_far (p := ⟨aC, 0, none⟩) (Kd.R_mono aU.out (fun k_ hk => (⟨hk, hk.2⟩ : _ ∧ k_ ≠ aC))) (fun _ hk => hk.2) (.int .i64 (rd (rd_L12 l0 ae) al))) (fun _ h => ⟨h.1.1.1, h.2⟩))⟩, ⟨Sh.rl (Kd.R_mono (Kd.R_far (p := ⟨aC, 0, none⟩) (Kd.R_mono aa.out (fun k_ hk => (⟨hk, hk.2⟩ : _ ∧ k_ ≠ aC))) (fun _ hk => hk.2) (.int .i64 (rd (rd_L12 l0 ae) al))) (fun _ h => ⟨h.1.1.2, h.2⟩))⟩, ⟨by refine Sh.pl ?_; refine blk_far ?_ av.out _; refine Sh.pl ?_; exact ac.out⟩, ⟨by refine Sh.pl ?_; refine blk_put (cs := #[.int .i64 0]) ?_ 0 _ rfl; refine Sh.pl ?_; exact aV.out⟩, ⟨Sh.bw⟩, av, ax, b0, ⟨by rw [bE.out]; simp⟩⟩
             ·rw [if_neg c7] at H
              cases H
            ·rw [if_neg c6] at H
             cases H
           ·rw [if_neg c5] at H
            cases H
          ·rw [if_neg c4] at H
           cases H
         ·rw [if_neg cI] at H
          have c34b0 : decide (0 < (rd ak ae)) = false := decide_eq_false cI;clear cI;obtain rfl := Option.some.inj H;have dG := aj.out;have dH := am.out;have dc := Sh.bc ac.out 0;have dd := blk_frozen ac.out 0;have de := Sh.bc af.out 0;have df := blk_frozen af.out 0;have bA : 0 ≤ (ae : Int) := Sh.od;have bB : ae < (ak.length : Int) := Sh.od;obtain ⟨aI, cz, cf⟩ := Kd.at_int (Kd.R_reads' aa.out).2.2 ae bA bB;cases cz;replace bA := eq_true bA;replace bB := eq_true bB;go_wp2;repeat (go_quiet (fail); try go_wp2)
          go_ret;exact ⟨_, Sh.eR, fun h_ => by have dI := dk.out; rw [h_] at dI; exact absurd dI (by simp), Sh.rl (Kd.R_mono aq.out (fun _ hk => trivial)), Sh.bw⟩
        ·rw [if_neg cZ] at H
         cases H
       ·rw [if_neg cY] at H
        cases H

theorem Qah.calls (k : Nat) (A0 : Option Addr) (c0 : Nat) (l0 : List (List Int)) (A1 : Option Addr) (c1 : Nat) (l1 : List Int) (A2 : Option Addr) (c2 : Nat) (l2 : List Int) (r : List Int) (w : World) (ac : Kd.C (Kd.slice 3 (Kd.int .i64)) w A0 l0.length l0) (hc0 : l0.length ≤ c0) (hr1 : Kd.C (Kd.int .i64) w A1 l1.length l1) (ae : l1.length ≤ c1) (hr2 : Kd.C (Kd.int .i64) w A2 l2.length l2) (af : l2.length ≤ c2) (h : Qah.f k l0 l1 l2 = some r) :
  Calls Tryz.prog 22 #[.slice A0 l0.length c0, .slice A1 l1.length c1, .slice A2 l2.length c2] w fun e w' => ∃ aa : Value, e = .returned (aa) ∧ Kd.R (Kd.int .i64) 3 w' w.heap.size (fun _ => True) aa r ∧ Below w.heap.size w w' := by
 refine (Qah.calls2 k A0 c0 l0 A1 c1 l1 A2 c2 l2 r w ac hc0 hr1 ae hr2 af h).mono fun e w' h_ => ?_;obtain ⟨v, h1, _, h2⟩ := h_;exact ⟨v, h1, h2⟩
def QbA.f (a0 : Int) (a1 : Int) (a2 : Int) : Option (Bool) := (Qbp.f a0 a1).bind fun aa => (if aa = true then ((Qbp.f a0 a2).bind fun ac => (some ac)) else (some false))
theorem QbA.calls (a0 : Int) (a1 : Int) (a2 : Int) (r : Bool) (w : World) (h : QbA.f a0 a1 a2 = some r) :
  Calls Tryz.prog 127 #[.int .i64 a0, .int .u64 a1, .int .u64 a2] w fun e w' => e = .returned (.bool r) ∧ Drawn0 w w' := by
 have H := h;clear h;unfold QbA.f at H;obtain ⟨aa, A4, H⟩ := Sh.ba H;by_cases c5 : aa = true
 ·subst c5
  rw [if_pos rfl] at H;obtain ⟨ac, A6, H⟩ := Sh.ba H;obtain rfl := Option.some.inj H;go_enter Tryz.func127, Tryz.ntmps127;go_wp2_with (first | ((with_reducible refine Sh.k 135 ?_); refine Sh.gD (some 9) Tryz.func135 #[.int .i64 a0, .int .u64 a1] (Qbp.calls a0 a1 true _ A4.out) fun nd => ?_) | (go_at_call 135; (with_reducible refine (Qbp.calls a0 a2 ac _ A6.out).mono ?_); rintro e w' ⟨rfl, ⟨nd, rfl⟩⟩));go_ret;exact ⟨Sh.es, Sh.dr⟩
 ·replace c5 := Bool.eq_false_iff.mpr c5
  subst c5;rw [Sh.nf] at H;obtain rfl := Option.some.inj H;go_enter Tryz.func127, Tryz.ntmps127;go_wp2_with (first | ((with_reducible refine Sh.k 135 ?_); refine Sh.gD (some 9) Tryz.func135 #[.int .i64 a0, .int .u64 a1] (Qbp.calls a0 a1 false _ A4.out) fun nd => ?_));go_ret;exact ⟨Sh.es, Sh.dr⟩
def bits_Div64.f (a0 a1 a2 : Int) : Option (Int × Int) := if a0 = 0 ∧ 0 < a2 then some (IntKind.u64.wrap (Int.tdiv a1 a2), Int.tmod a1 a2) else none
theorem bits_Div64.calls (a0 : Int) (a1 : Int) (a2 : Int) (r1 : Int) (r2 : Int) (w : World) (h : bits_Div64.f a0 a1 a2 = some (r1, r2)) :
  Calls Tryz.prog 128 #[.int .u64 a0, .int .u64 a1, .int .u64 a2] w fun e w' => e = .returned (.tuple #[.int .u64 r1, .int .u64 r2]) ∧ Drawn0 w w' := by
 have hf : a0 = 0 ∧ 0 < a2 := by
  rcases Decidable.em (a0 = 0 ∧ 0 < a2) with h1 | h1
  ·exact h1
  ·rw [bits_Div64.f, if_neg h1] at h; cases h
 rw [bits_Div64.f, if_pos hf] at h;obtain ⟨rfl, h0⟩ := hf;simp only [Option.some.injEq, Prod.mk.injEq] at h;obtain ⟨rfl, rfl⟩ := h;have h1 : ¬ (a2 = 0) := by omega
 have h3 : (a2 == 0) = false := by simpa using h1
 have h2 : ¬ (a2 ≤ 0) := by omega
 go_enter Tryz.func128, Tryz.ntmps128;go_wp2;go_region
 all_goals go_wp2
 all_goals go_ret2
 all_goals exact ⟨Sh.e1, Sh.dr⟩
def Qbn.f (a0 : Int) (a1 : Int) (a2 : Int) : Option (Int × Int × Bool) := (QbA.f a0 a1 a2).bind fun ac => (if ac = true then (if a2 = 0 then ((Qas.f a0).bind fun ae => (some (ae, a1, true))) else ((bits_Div64.f 0 a1 a2).bind fun aa => (some (aa.1, aa.2, true)))) else (some (0, 0, false)))
theorem Qbn.calls (a0 : Int) (a1 : Int) (a2 : Int) (r1 : Int) (r2 : Int) (r3 : Bool) (w : World) (h : Qbn.f a0 a1 a2 = some (r1, r2, r3)) :
  Calls Tryz.prog 112 #[.int .i64 a0, .int .u64 a1, .int .u64 a2] w fun e w' => e = .returned (.tuple #[.int .u64 r1, .int .u64 r2, .bool r3]) ∧ Drawn0 w w' := by
 have H := h;clear h;unfold Qbn.f at H;obtain ⟨aa, A4, H⟩ := Sh.ba H;by_cases c5 : aa = true
 ·subst c5
  rw [if_pos rfl] at H;by_cases c6 : a2 = 0
  ·rw [if_pos c6] at H
   have c6b0 : (a2 == 0) = true := beq_iff_eq.mpr c6;have c6b1 : (a2 != 0) = false := bne_eq_false_iff_eq.mpr c6;clear c6;obtain ⟨ac, A7, H⟩ := Sh.ba H;simp only [Option.some.injEq, Prod.mk.injEq] at H;obtain ⟨rfl, rfl, rfl⟩ := H;go_enter Tryz.func112, Tryz.ntmps112;go_wp2_with (first | ((with_reducible refine Sh.k 127 ?_); refine Sh.gD (some 15) Tryz.func127 #[.int .i64 a0, .int .u64 a1, .int .u64 a2] (QbA.calls a0 a1 a2 true _ A4.out) fun nd => ?_) | ((with_reducible refine Sh.k 69 ?_); refine Sh.gD (some 21) Tryz.func69 #[.int .i64 a0] (Qas.calls a0 ac _ A7.out) fun nd => ?_));go_ret3;exact ⟨Sh.es, Sh.dr⟩
  ·rw [if_neg c6] at H
   have c6b0 : (a2 == 0) = false := beq_eq_false_iff_ne.mpr c6;have c6b1 : (a2 != 0) = true := bne_iff_ne.mpr c6;obtain ⟨⟨ae, af⟩, ah, H⟩ := Sh.bd H;have A8 := am_ ah;clear ah;simp only [Option.some.injEq, Prod.mk.injEq] at H;obtain ⟨rfl, rfl, rfl⟩ := H;go_enter Tryz.func112, Tryz.ntmps112;go_wp2_with (first | ((with_reducible refine Sh.k 127 ?_); refine Sh.gD (some 15) Tryz.func127 #[.int .i64 a0, .int .u64 a1, .int .u64 a2] (QbA.calls a0 a1 a2 true _ A4.out) fun nd => ?_) | ((with_reducible refine Sh.k 128 ?_); refine Sh.gD (some 26) Tryz.func128 #[.int .u64 0, .int .u64 a1, .int .u64 a2] (bits_Div64.calls 0 a1 a2 ae af _ A8.out) fun nd => ?_));go_ret3;exact ⟨Sh.es, Sh.dr⟩
 ·replace c5 := Bool.eq_false_iff.mpr c5
  subst c5;rw [Sh.nf] at H;simp only [Option.some.injEq, Prod.mk.injEq] at H;obtain ⟨rfl, rfl, rfl⟩ := H;go_enter Tryz.func112, Tryz.ntmps112;go_wp2_with (first | ((with_reducible refine Sh.k 127 ?_); refine Sh.gD (some 15) Tryz.func127 #[.int .i64 a0, .int .u64 a1, .int .u64 a2] (QbA.calls a0 a1 a2 false _ A4.out) fun nd => ?_));go_ret3;exact ⟨Sh.es, Sh.dr⟩
def Qbr.f (a0 : Int) (a1 : Int) (a2 : Int) (a3 : Bool) : Option (Int) := if a2 ≥ (IntKind.u64.wrap (a0)) then (some 0) else (if a3 = true then (if 0 ≤ a2 then ((Qas.f a0).bind fun aa => (some (Go.bits .and .u64 (shl .u64 a1 a2) aa))) else (none)) else (if 0 ≤ a2 then (some (shr .u64 a1 a2)) else (none)))
theorem Qbr.calls (a0 : Int) (a1 : Int) (a2 : Int) (a3 : Bool) (r : Int) (w : World) (h : Qbr.f a0 a1 a2 a3 = some r) :
  Calls Tryz.prog 113 #[.int .i64 a0, .int .u64 a1, .int .u64 a2, .bool a3] w fun e w' => e = .returned (.int .u64 r) ∧ Drawn0 w w' := by
 have H := h;clear h;unfold Qbr.f at H;by_cases c5 : a2 ≥ (IntKind.u64.wrap (a0))
 ·rw [if_pos c5] at H
  have c5b0 : decide ((IntKind.u64.wrap (a0)) ≤ a2) = true := decide_eq_true c5;clear c5;obtain rfl := Option.some.inj H;go_enter Tryz.func113, Tryz.ntmps113;go_wp2;go_ret;exact ⟨Sh.es, Sh.dr⟩
 ·rw [if_neg c5] at H
  have c5b0 : decide ((IntKind.u64.wrap (a0)) ≤ a2) = false := decide_eq_false c5;clear c5;by_cases c6 : a3 = true
  ·subst c6
   rw [if_pos rfl] at H;by_cases c7 : 0 ≤ a2
   ·rw [if_pos c7] at H
    have c7b0 := eq_true c7;have c7b1 := decide_eq_true c7;clear c7;obtain ⟨af, hj1⟩ : ∃ j_ : Int, (shl .u64 a1 a2) = j_ := ⟨_, rfl⟩;replace H : ((Qas.f a0).bind fun aa => (some (Go.bits .and .u64 (af) aa))) = some r := by first | (rw [hj1] at H; exact H) | (simp only [hj1] at H ⊢; exact H)
    have ai : (IntKind.u64.wrap (a1 * 2 ^ min a2.toNat 64)) = af := hj1;have hji8z : a2 ≤ 64 → (IntKind.u64.wrap (a1 * 2 ^ a2.toNat)) = af := shl_small hj1;obtain ⟨aa, A9, H⟩ := Sh.ba H;obtain rfl := Option.some.inj H;go_enter Tryz.func113, Tryz.ntmps113;go_wp2_with (first | ((with_reducible refine Sh.k 69 ?_); refine Sh.gD (some 20) Tryz.func69 #[.int .i64 a0] (Qas.calls a0 aa _ A9.out) fun nd => ?_));go_ret;exact ⟨by first | rfl | (simp; done) | (simp only [← hj1] <;> (first | rfl | simp)) | (simp [*]; done), Sh.dr⟩
   ·rw [if_neg c7] at H
    cases H
  ·replace c6 := Bool.eq_false_iff.mpr c6
   subst c6;rw [Sh.nf] at H;by_cases ae : 0 ≤ a2
   ·rw [if_pos ae] at H
    have c10b0 := eq_true ae;have c10b1 := decide_eq_true ae;clear ae;obtain ⟨ac, hj1⟩ : ∃ j_ : Int, (shr .u64 a1 a2) = j_ := ⟨_, rfl⟩;replace H : (some ac) = some r := by first | (rw [hj1] at H; exact H) | (simp only [hj1] at H ⊢; exact H)
    have ah : (a1 / 2 ^ min a2.toNat 64) = ac := hj1;have hji11z : a2 ≤ 64 → (a1 / 2 ^ a2.toNat) = ac := shr_small hj1;obtain rfl := Option.some.inj H;go_enter Tryz.func113, Tryz.ntmps113;go_wp2;go_ret;exact ⟨by first | rfl | (simp; done) | (simp only [← hj1] <;> (first | rfl | simp)) | (simp [*]; done), Sh.dr⟩
   ·rw [if_neg ae] at H
    cases H
def Qbe.f (a0 : Bool) : Option (Int) := if a0 = true then (some 1) else (some 0)
theorem Qbe.calls (a0 : Bool) (r : Int) (w : World) (h : Qbe.f a0 = some r) :
  Calls Tryz.prog 114 #[.bool a0] w fun e w' => e = .returned (.int .u64 r) ∧ Drawn0 w w' := by
 have H := h;clear h;unfold Qbe.f at H;by_cases c2 : a0 = true
 ·subst c2
  rw [if_pos rfl] at H;obtain rfl := Option.some.inj H;go_enter Tryz.func114, Tryz.ntmps114;go_wp2;go_ret;exact ⟨Sh.es, Sh.dr⟩
 ·replace c2 := Bool.eq_false_iff.mpr c2
  subst c2;rw [Sh.nf] at H;obtain rfl := Option.some.inj H;go_enter Tryz.func114, Tryz.ntmps114;go_wp2;go_ret;exact ⟨Sh.es, Sh.dr⟩
def QbC.f (a0 : Int) (a1 : Int) : Option (Int) := if 0 ≤ (wrap64 (64 - a0)) then (some (shr .i64 (wrap64 (shl .u64 a1 (wrap64 (64 - a0)))) (wrap64 (64 - a0)))) else (none)
theorem QbC.calls (a0 : Int) (a1 : Int) (r : Int) (w : World) (h : QbC.f a0 a1 = some r) :
  Calls Tryz.prog 115 #[.int .i64 a0, .int .u64 a1] w fun e w' => e = .returned (.int .i64 r) ∧ Drawn0 w w' := by
 have H := h;clear h;unfold QbC.f at H;obtain ⟨aa, hj1⟩ : ∃ j_ : Int, (wrap64 (64 - a0)) = j_ := ⟨_, rfl⟩;replace H : (if 0 ≤ (aa) then (some (shr .i64 (wrap64 (shl .u64 a1 (aa))) (aa))) else (none)) = some r := by first | (rw [hj1] at H; exact H) | (simp only [hj1] at H ⊢; exact H)
 have hji3w : (IntKind.i64.wrap (64 - a0)) = aa := (i64_w _).trans hj1;by_cases c4 : 0 ≤ (aa)
 ·rw [if_pos c4] at H
  have c4b0 := eq_true c4;have c4b1 := decide_eq_true c4;clear c4;obtain ⟨ac, hj2⟩ : ∃ j_ : Int, (shl .u64 a1 (aa)) = j_ := ⟨_, rfl⟩;replace H : (some (shr .i64 (wrap64 (ac)) (aa))) = some r := by first | (rw [hj2] at H; exact H) | (simp only [hj2] at H ⊢; exact H)
  have af : (IntKind.u64.wrap (a1 * 2 ^ min (aa).toNat 64)) = ac := hj2;have hji5z : (aa) ≤ 64 → (IntKind.u64.wrap (a1 * 2 ^ (aa).toNat)) = ac := shl_small hj2;have c6b0 := eq_true (of_decide_eq_true (by first | (with_reducible assumption) | assumption) : 0 ≤ (aa));obtain ⟨ae, hj3⟩ : ∃ j_ : Int, (shr .i64 (wrap64 (ac)) (aa)) = j_ := ⟨_, rfl⟩;replace H : (some ae) = some r := by first | (rw [hj3] at H; exact H) | (simp only [hj3] at H ⊢; exact H)
  have ah : ((wrap64 (ac)) / 2 ^ min (aa).toNat 64) = ae := hj3;have hji7z : (aa) ≤ 64 → ((wrap64 (ac)) / 2 ^ (aa).toNat) = ae := shr_small hj3;obtain rfl := Option.some.inj H;go_enter Tryz.func115, Tryz.ntmps115;go_wp2;go_ret;exact ⟨by first | rfl | (simp; done) | (simp only [← hj1, ← hj2, ← hj3] <;> (first | rfl | simp)) | (simp [*]; done), Sh.dr⟩
 ·rw [if_neg c4] at H
  cases H
mutual
def Qaa.j0 : Nat → Int → Int → Int → Int → Int → Int → Bool → Option (Int)
 | 0, _, _, _, _, _, _, _ => none
 | k + 1, x0, x1, x2, x3, x9, aa, av => if av = true then ((Qas.f x0).bind fun ac => (some (Go.bits .and .u64 (Go.bits .and .u64 x2 x3) ac))) else (if aa = 9 then (Qaa.j1 k x0 x1 x2 x3 x9 aa (aa == 9)) else (Qaa.j1 k x0 x1 x2 x3 x9 aa (aa == 18)))
def Qaa.j1 : Nat → Int → Int → Int → Int → Int → Int → Bool → Option (Int)
 | 0, _, _, _, _, _, _, _ => none
 | k + 1, x0, x1, x2, x3, x9, aa, aw => if aw = true then ((Qas.f x0).bind fun ae => (some (Go.bits .and .u64 (Go.bits .or .u64 x2 x3) ae))) else (if aa = 10 then ((Qas.f x0).bind fun af => (some (Go.bits .and .u64 (Go.bits .xor .u64 x2 x3) af))) else (if aa = 11 then (Qaa.j2 k x0 x1 x2 x3 x9 aa (aa == 11)) else (Qaa.j2 k x0 x1 x2 x3 x9 aa (aa == 12))))
def Qaa.j2 : Nat → Int → Int → Int → Int → Int → Int → Bool → Option (Int)
 | 0, _, _, _, _, _, _, _ => none
 | k + 1, x0, x1, x2, x3, x9, aa, ax => if ax = true then ((Qbr.f x0 x2 x3 (x1 == 11)).bind fun ah => ((Qas.f x0).bind fun ai => (some (Go.bits .and .u64 ah ai)))) else (if aa = 14 then ((Qbe.f (x2 == x3)).bind fun aj => ((Qas.f x0).bind fun ak => (some (Go.bits .and .u64 aj ak)))) else (if aa = 15 then ((Qbe.f (decide (x2 < x3))).bind fun al => ((Qas.f x0).bind fun am => (some (Go.bits .and .u64 al am)))) else (if aa = 16 then ((QbC.f x0 x2).bind fun ao => ((QbC.f x0 x3).bind fun ap => ((Qbe.f (decide (ao < ap))).bind fun aq => ((Qas.f x0).bind fun ar => (some (Go.bits .and .u64 aq ar)))))) else ((Qas.f x0).bind fun au => (some (Go.bits .and .u64 x9 au))))))
end
def Qaa.f (k : Nat) (a0 : Int) (a1 : Int) (a2 : Int) (a3 : Int) : Option (Int) := if a1 = 3 then ((Qas.f a0).bind fun ae => (some (Go.bits .and .u64 (IntKind.u64.wrap (a2 + a3)) ae))) else (if a1 = 4 then ((Qas.f a0).bind fun af => (some (Go.bits .and .u64 (IntKind.u64.wrap (a2 - a3)) af))) else (if a1 = 5 then ((Qas.f a0).bind fun ah => (some (Go.bits .and .u64 (IntKind.u64.wrap (a2 * a3)) ah))) else (if a1 = 6 then ((Qbn.f a0 a2 a3).bind fun aa => ((Qas.f a0).bind fun ai => (some (Go.bits .and .u64 aa.1 ai)))) else (if a1 = 7 then ((Qbn.f a0 a2 a3).bind fun ac => ((Qas.f a0).bind fun aj => (some (Go.bits .and .u64 ac.2.1 aj)))) else (if a1 = 8 then (Qaa.j0 k a0 a1 a2 a3 0 a1 (a1 == 8)) else (Qaa.j0 k a0 a1 a2 a3 0 a1 (a1 == 17)))))))
theorem Qaa.mono_l : ∀ k, (∀ y0 y1 y2 y3 y4 y5 y6, LeO (Qaa.j0 k y0 y1 y2 y3 y4 y5 y6) (Qaa.j0 (k + 1) y0 y1 y2 y3 y4 y5 y6)) ∧ (∀ y0 y1 y2 y3 y4 y5 y6, LeO (Qaa.j1 k y0 y1 y2 y3 y4 y5 y6) (Qaa.j1 (k + 1) y0 y1 y2 y3 y4 y5 y6)) ∧ (∀ y0 y1 y2 y3 y4 y5 y6, LeO (Qaa.j2 k y0 y1 y2 y3 y4 y5 y6) (Qaa.j2 (k + 1) y0 y1 y2 y3 y4 y5 y6))
 | 0 => ⟨fun _ _ _ _ _ _ _ r h => by simp [Qaa.j0] at h, fun _ _ _ _ _ _ _ r h => by simp [Qaa.j1] at h, fun _ _ _ _ _ _ _ r h => by simp [Qaa.j2] at h⟩
 | k + 1 => by
  obtain ⟨aa, ac, ae⟩ := Qaa.mono_l k
  and_intros <;> intros
  all_goals (first | unfold Qaa.j0 | unfold Qaa.j1 | unfold Qaa.j2)
  all_goals repeat' with_reducible first | apply aa | apply ac | apply ae | exact LeO.refl _ | exact LeO.none _ | apply LeO.ite | refine LeO.bind ?_ fun _ => ?_
theorem Qaa.mono : ∀ a0 a1 a2 a3 k, LeO (Qaa.f k a0 a1 a2 a3) (Qaa.f (k + 1) a0 a1 a2 a3) := by
 intro a0 a1 a2 a3 k;obtain ⟨aa, ac, ae⟩ := Qaa.mono_l k;unfold Qaa.f;repeat' with_reducible first | apply aa | apply ac | apply ae | exact LeO.refl _ | exact LeO.none _ | apply LeO.ite | refine LeO.bind ?_ fun _ => ?_
theorem Qaa.calls (k : Nat) (a0 : Int) (a1 : Int) (a2 : Int) (a3 : Int) (r : Int) (w : World) (h : Qaa.f k a0 a1 a2 a3 = some r) :
  Calls Tryz.prog 90 #[.int .i64 a0, .int .i64 a1, .int .u64 a2, .int .u64 a3] w fun e w' => e = .returned (.int .u64 r) ∧ Drawn0 w w' := by
 have H := h;clear h;unfold Qaa.f at H;by_cases c5 : a1 = 3
 ·rw [if_pos c5] at H
  have c5b0 : (a1 == 3) = true := beq_iff_eq.mpr c5;have c5b1 : (a1 != 3) = false := bne_eq_false_iff_eq.mpr c5;clear c5;obtain ⟨aE, A6, H⟩ := Sh.ba H;obtain rfl := Option.some.inj H;go_enter Tryz.func90, Tryz.ntmps90;go_wp2_with (first | ((with_reducible refine Sh.k 69 ?_); refine Sh.gD (some 96) Tryz.func69 #[.int .i64 a0] (Qas.calls a0 aE _ A6.out) fun nd => ?_));go_ret;exact ⟨Sh.es, Sh.dr⟩
 ·rw [if_neg c5] at H
  have c5b0 : (a1 == 3) = false := beq_eq_false_iff_ne.mpr c5;have c5b1 : (a1 != 3) = true := bne_iff_ne.mpr c5;by_cases c7 : a1 = 4
  ·rw [if_pos c7] at H
   have c7b0 : (a1 == 4) = true := beq_iff_eq.mpr c7;have c7b1 : (a1 != 4) = false := bne_eq_false_iff_eq.mpr c7;clear c7;obtain ⟨aF, A8, H⟩ := Sh.ba H;obtain rfl := Option.some.inj H;go_enter Tryz.func90, Tryz.ntmps90;go_wp2_with (first | ((with_reducible refine Sh.k 69 ?_); refine Sh.gD (some 96) Tryz.func69 #[.int .i64 a0] (Qas.calls a0 aF _ A8.out) fun nd => ?_));go_ret;exact ⟨Sh.es, Sh.dr⟩
  ·rw [if_neg c7] at H
   have c7b0 : (a1 == 4) = false := beq_eq_false_iff_ne.mpr c7;have c7b1 : (a1 != 4) = true := bne_iff_ne.mpr c7;by_cases c9 : a1 = 5
   ·rw [if_pos c9] at H
    have c9b0 : (a1 == 5) = true := beq_iff_eq.mpr c9;have c9b1 : (a1 != 5) = false := bne_eq_false_iff_eq.mpr c9;clear c9;obtain ⟨aG, bf, H⟩ := Sh.ba H;obtain rfl := Option.some.inj H;go_enter Tryz.func90, Tryz.ntmps90;go_wp2_with (first | ((with_reducible refine Sh.k 69 ?_); refine Sh.gD (some 96) Tryz.func69 #[.int .i64 a0] (Qas.calls a0 aG _ bf.out) fun nd => ?_));go_ret;exact ⟨Sh.es, Sh.dr⟩
   ·rw [if_neg c9] at H
    have c9b0 : (a1 == 5) = false := beq_eq_false_iff_ne.mpr c9;have c9b1 : (a1 != 5) = true := bne_iff_ne.mpr c9;by_cases ah : a1 = 6
    ·rw [if_pos ah] at H
     have c11b0 : (a1 == 6) = true := beq_iff_eq.mpr ah;have c11b1 : (a1 != 6) = false := bne_eq_false_iff_eq.mpr ah;clear ah;obtain ⟨⟨aH, aI, aJ⟩, ay, H⟩ := Sh.bd H;have bg := am_ ay;clear ay;obtain ⟨aK, bh, H⟩ := Sh.ba H;obtain rfl := Option.some.inj H;go_enter Tryz.func90, Tryz.ntmps90;go_wp2_with (first | ((with_reducible refine Sh.k 112 ?_); refine Sh.gD (some 32) Tryz.func112 #[.int .i64 a0, .int .u64 a2, .int .u64 a3] (Qbn.calls a0 a2 a3 aH aI aJ _ bg.out) fun nd => ?_) | ((with_reducible refine Sh.k 69 ?_); refine Sh.gD (some 96) Tryz.func69 #[.int .i64 a0] (Qas.calls a0 aK _ bh.out) fun nd => ?_));go_ret;exact ⟨Sh.es, Sh.dr⟩
    ·rw [if_neg ah] at H
     have c11b0 : (a1 == 6) = false := beq_eq_false_iff_ne.mpr ah;have c11b1 : (a1 != 6) = true := bne_iff_ne.mpr ah;by_cases ai : a1 = 7
     ·rw [if_pos ai] at H
      have c14b0 : (a1 == 7) = true := beq_iff_eq.mpr ai;have c14b1 : (a1 != 7) = false := bne_eq_false_iff_eq.mpr ai;clear ai;obtain ⟨⟨aL, aM, aN⟩, az, H⟩ := Sh.bd H;have bi := am_ az;clear az;obtain ⟨aO, bj, H⟩ := Sh.ba H;obtain rfl := Option.some.inj H;go_enter Tryz.func90, Tryz.ntmps90;go_wp2_with (first | ((with_reducible refine Sh.k 112 ?_); refine Sh.gD (some 42) Tryz.func112 #[.int .i64 a0, .int .u64 a2, .int .u64 a3] (Qbn.calls a0 a2 a3 aL aM aN _ bi.out) fun nd => ?_) | ((with_reducible refine Sh.k 69 ?_); refine Sh.gD (some 96) Tryz.func69 #[.int .i64 a0] (Qas.calls a0 aO _ bj.out) fun nd => ?_));go_ret;exact ⟨Sh.es, Sh.dr⟩
     ·rw [if_neg ai] at H
      have c14b0 : (a1 == 7) = false := beq_eq_false_iff_ne.mpr ai;have c14b1 : (a1 != 7) = true := bne_iff_ne.mpr ai;have aj := am_ H;clear H;go_enter Tryz.func90, Tryz.ntmps90;go_upto_if 46 with (fail)
      go_cut [46] (fun v46 wc => ∃ (kq : Nat) (aa : Bool), v46 = .bool aa ∧ Aside0 (Qaa.j0 kq a0 a1 a2 a3 0 a1 aa = some r) ∧ Aside0 (kq ≤ k) ∧ Drawn0 w wc)
      case first =>
       have H := aj.out;clear aj;by_cases ak : a1 = 8
       ·rw [if_pos ak] at H
        have c18b0 : (a1 == 8) = true := beq_iff_eq.mpr ak;have c18b1 : (a1 != 8) = false := bne_eq_false_iff_eq.mpr ak;clear ak;first | rw [c18b0] | (simp only [i64_w, i32_w]; rw [c18b0]) | skip
        have H' := am_ H;clear H;go_wp2;go_meet
        case rel => exact ⟨_, ((a1 == 8)), (Sh.es), H', ⟨Sh.om⟩, Sh.dr⟩
       ·rw [if_neg ak] at H
        have c18b0 : (a1 == 8) = false := beq_eq_false_iff_ne.mpr ak;have c18b1 : (a1 != 8) = true := bne_iff_ne.mpr ak;first | rw [c18b0] | (simp only [i64_w, i32_w]; rw [c18b0]) | skip
        have H' := am_ H;clear H;go_wp2;go_meet
        case rel => exact ⟨_, ((a1 == 17)), (Sh.es), H', ⟨Sh.om⟩, Sh.dr⟩
      case rest =>
       clear aj;obtain ⟨kq, aa, rfl, HA, af, ⟨bk, rfl⟩⟩ := hcut;cases kq with
       | zero => exact absurd HA.out (by simp [Qaa.j0])
       | succ aP =>
        have H := HA.out;clear HA;simp only [Qaa.j0] at H;by_cases aB : aa = true
        ·subst aB
         rw [if_pos rfl] at H;obtain ⟨aQ, bl, H⟩ := Sh.ba H;obtain rfl := Option.some.inj H;go_wp2_with (first | ((with_reducible refine Sh.k 69 ?_); refine Sh.gD (some 96) Tryz.func69 #[.int .i64 a0] (Qas.calls a0 aQ _ bl.out) fun nd => ?_));go_ret;exact ⟨Sh.es, Sh.dr⟩
        ·replace aB := Bool.eq_false_iff.mpr aB
         subst aB;rw [Sh.nf] at H;have al := am_ H;clear H;go_upto_if 52 with (fail)
         go_cut [52] (fun bm wc => ∃ (kq : Nat) (ac : Bool), bm = .bool ac ∧ Aside0 (Qaa.j1 kq a0 a1 a2 a3 0 a1 ac = some r) ∧ Aside0 (kq ≤ aP) ∧ Drawn0 w wc)
         case first =>
          have H := al.out;clear al;by_cases am : a1 = 9
          ·rw [if_pos am] at H
           have c22b0 : (a1 == 9) = true := beq_iff_eq.mpr am;have c22b1 : (a1 != 9) = false := bne_eq_false_iff_eq.mpr am;clear am;first | rw [c22b0] | (simp only [i64_w, i32_w]; rw [c22b0]) | skip
           have H' := am_ H;clear H;go_wp2;go_meet
           case rel => exact ⟨_, ((a1 == 9)), (Sh.es), H', ⟨by have := af.out; first | omega | exact Nat.le_refl _⟩, Sh.dr⟩
          ·rw [if_neg am] at H
           have c22b0 : (a1 == 9) = false := beq_eq_false_iff_ne.mpr am;have c22b1 : (a1 != 9) = true := bne_iff_ne.mpr am;first | rw [c22b0] | (simp only [i64_w, i32_w]; rw [c22b0]) | skip
           have H' := am_ H;clear H;go_wp2;go_meet
           case rel => exact ⟨_, ((a1 == 18)), (Sh.es), H', ⟨by have := af.out; first | omega | exact Nat.le_refl _⟩, Sh.dr⟩
         case rest =>
          clear al;obtain ⟨kq, ac, rfl, HA, aA, ⟨bn, rfl⟩⟩ := hcut;cases kq with
          | zero => exact absurd HA.out (by simp [Qaa.j1])
          | succ aR =>
           have H := HA.out;clear HA;simp only [Qaa.j1] at H;by_cases aC : ac = true
           ·subst aC
            rw [if_pos rfl] at H;obtain ⟨aS, bo, H⟩ := Sh.ba H;obtain rfl := Option.some.inj H;go_wp2_with (first | ((with_reducible refine Sh.k 69 ?_); refine Sh.gD (some 96) Tryz.func69 #[.int .i64 a0] (Qas.calls a0 aS _ bo.out) fun nd => ?_));go_ret;exact ⟨Sh.es, Sh.dr⟩
           ·replace aC := Bool.eq_false_iff.mpr aC
            subst aC;rw [Sh.nf] at H;by_cases ao : a1 = 10
            ·rw [if_pos ao] at H
             have c25b0 : (a1 == 10) = true := beq_iff_eq.mpr ao;have c25b1 : (a1 != 10) = false := bne_eq_false_iff_eq.mpr ao;clear ao;obtain ⟨aT, bp, H⟩ := Sh.ba H;obtain rfl := Option.some.inj H;go_wp2_with (first | ((with_reducible refine Sh.k 69 ?_); refine Sh.gD (some 96) Tryz.func69 #[.int .i64 a0] (Qas.calls a0 aT _ bp.out) fun nd => ?_));go_ret;exact ⟨Sh.es, Sh.dr⟩
            ·rw [if_neg ao] at H
             have c25b0 : (a1 == 10) = false := beq_eq_false_iff_ne.mpr ao;have c25b1 : (a1 != 10) = true := bne_iff_ne.mpr ao;have ap := am_ H;clear H;go_upto_if 63 with (fail)
             go_cut [63] (fun bq wc => ∃ (kq : Nat) (ae : Bool), bq = .bool ae ∧ Aside0 (Qaa.j2 kq a0 a1 a2 a3 0 a1 ae = some r) ∧ Aside0 (kq ≤ aR) ∧ Drawn0 w wc)
             case first =>
              have H := ap.out;clear ap;by_cases aq : a1 = 11
              ·rw [if_pos aq] at H
               have c28b0 : (a1 == 11) = true := beq_iff_eq.mpr aq;have c28b1 : (a1 != 11) = false := bne_eq_false_iff_eq.mpr aq;clear aq;first | rw [c28b0] | (simp only [i64_w, i32_w]; rw [c28b0]) | skip
               have H' := am_ H;clear H;go_wp2;go_meet
               case rel => exact ⟨_, ((a1 == 11)), (Sh.es), H', ⟨by have := af.out; have := aA.out; first | omega | exact Nat.le_refl _⟩, Sh.dr⟩
              ·rw [if_neg aq] at H
               have c28b0 : (a1 == 11) = false := beq_eq_false_iff_ne.mpr aq;have c28b1 : (a1 != 11) = true := bne_iff_ne.mpr aq;first | rw [c28b0] | (simp only [i64_w, i32_w]; rw [c28b0]) | skip
               have H' := am_ H;clear H;go_wp2;go_meet
               case rel => exact ⟨_, ((a1 == 12)), (Sh.es), H', ⟨by have := af.out; have := aA.out; first | omega | exact Nat.le_refl _⟩, Sh.dr⟩
             case rest =>
              clear ap;obtain ⟨kq, ae, rfl, HA, br, ⟨bs, rfl⟩⟩ := hcut;cases kq with
              | zero => exact absurd HA.out (by simp [Qaa.j2])
              | succ bu =>
               have H := HA.out;clear HA;simp only [Qaa.j2] at H;by_cases aD : ae = true
               ·subst aD
                rw [if_pos rfl] at H;obtain ⟨aU, bv, H⟩ := Sh.ba H;obtain ⟨aV, bA, H⟩ := Sh.ba H;obtain rfl := Option.some.inj H;go_wp2_with (first | ((with_reducible refine Sh.k 113 ?_); refine Sh.gD (some 71) Tryz.func113 #[.int .i64 a0, .int .u64 a2, .int .u64 a3, .bool (a1 == 11)] (Qbr.calls a0 a2 a3 (a1 == 11) aU _ bv.out) fun nd => ?_) | ((with_reducible refine Sh.k 69 ?_); refine Sh.gD (some 96) Tryz.func69 #[.int .i64 a0] (Qas.calls a0 aV _ bA.out) fun nd => ?_));go_ret;exact ⟨Sh.es, Sh.dr⟩
               ·replace aD := Bool.eq_false_iff.mpr aD
                subst aD;rw [Sh.nf] at H;by_cases ar : a1 = 14
                ·rw [if_pos ar] at H
                 have c32b0 : (a1 == 14) = true := beq_iff_eq.mpr ar;have c32b1 : (a1 != 14) = false := bne_eq_false_iff_eq.mpr ar;clear ar;obtain ⟨aW, bB, H⟩ := Sh.ba H;obtain ⟨aX, bC, H⟩ := Sh.ba H;obtain rfl := Option.some.inj H;go_wp2_with (first | ((with_reducible refine Sh.k 114 ?_); refine Sh.gD (some 77) Tryz.func114 #[.bool (a2 == a3)] (Qbe.calls (a2 == a3) aW _ bB.out) fun nd => ?_) | ((with_reducible refine Sh.k 69 ?_); refine Sh.gD (some 96) Tryz.func69 #[.int .i64 a0] (Qas.calls a0 aX _ bC.out) fun nd => ?_));go_ret;exact ⟨Sh.es, Sh.dr⟩
                ·rw [if_neg ar] at H
                 have c32b0 : (a1 == 14) = false := beq_eq_false_iff_ne.mpr ar;have c32b1 : (a1 != 14) = true := bne_iff_ne.mpr ar;by_cases au : a1 = 15
                 ·rw [if_pos au] at H
                  have c35b0 : (a1 == 15) = true := beq_iff_eq.mpr au;have c35b1 : (a1 != 15) = false := bne_eq_false_iff_eq.mpr au;clear au;obtain ⟨aY, bD, H⟩ := Sh.ba H;obtain ⟨aZ, bE, H⟩ := Sh.ba H;obtain rfl := Option.some.inj H;go_wp2_with (first | ((with_reducible refine Sh.k 114 ?_); refine Sh.gD (some 83) Tryz.func114 #[.bool (decide (a2 < a3))] (Qbe.calls (decide (a2 < a3)) aY _ bD.out) fun nd => ?_) | ((with_reducible refine Sh.k 69 ?_); refine Sh.gD (some 96) Tryz.func69 #[.int .i64 a0] (Qas.calls a0 aZ _ bE.out) fun nd => ?_));go_ret;exact ⟨Sh.es, Sh.dr⟩
                 ·rw [if_neg au] at H
                  have c35b0 : (a1 == 15) = false := beq_eq_false_iff_ne.mpr au;have c35b1 : (a1 != 15) = true := bne_iff_ne.mpr au;by_cases av : a1 = 16
                  ·rw [if_pos av] at H
                   have c38b0 : (a1 == 16) = true := beq_iff_eq.mpr av;have c38b1 : (a1 != 16) = false := bne_eq_false_iff_eq.mpr av;clear av;obtain ⟨aw, bF, H⟩ := Sh.ba H;obtain ⟨ax, bG, H⟩ := Sh.ba H;obtain ⟨a6, bH, H⟩ := Sh.ba H;obtain ⟨a7, bI, H⟩ := Sh.ba H;obtain rfl := Option.some.inj H;go_wp2_with (first | ((with_reducible refine Sh.k 115 ?_); refine Sh.gD (some 88) Tryz.func115 #[.int .i64 a0, .int .u64 a2] (QbC.calls a0 a2 aw _ bF.out) fun nd => ?_) | ((with_reducible refine Sh.k 115 ?_); refine Sh.gD (some 91) Tryz.func115 #[.int .i64 a0, .int .u64 a3] (QbC.calls a0 a3 ax _ bG.out) fun nd => ?_) | ((with_reducible refine Sh.k 114 ?_); refine Sh.gD (some 93) Tryz.func114 #[.bool (decide (aw < ax))] (Qbe.calls (decide (aw < ax)) a6 _ bH.out) fun nd => ?_) | ((with_reducible refine Sh.k 69 ?_); refine Sh.gD (some 96) Tryz.func69 #[.int .i64 a0] (Qas.calls a0 a7 _ bI.out) fun nd => ?_));go_ret;exact ⟨Sh.es, Sh.dr⟩
                  ·rw [if_neg av] at H
                   have c38b0 : (a1 == 16) = false := beq_eq_false_iff_ne.mpr av;have c38b1 : (a1 != 16) = true := bne_iff_ne.mpr av;obtain ⟨a8, bJ, H⟩ := Sh.ba H;obtain rfl := Option.some.inj H;go_wp2_with (first | ((with_reducible refine Sh.k 69 ?_); refine Sh.gD (some 96) Tryz.func69 #[.int .i64 a0] (Qas.calls a0 a8 _ bJ.out) fun nd => ?_));go_ret;exact ⟨Sh.es, Sh.dr⟩
mutual
def Qab.l0 : Nat → Int → List Int → List Int → List (S77) → Int → Int → Option (Int)
 | 0, _, _, _, _, _, _ => none
 | k + 1, x0, x2, x7, ae, ah, ac => if ac < ah then (if 0 ≤ ac then (if ac < (ae.length : Int) then (if ((rd_T77 ae ac).f0) = 1 then (Qab.j1 k x0 x2 x7 (wrap64 ((x7.length : Int) - 1)) ae ah ac ((rd_T77 ae ac).f0) (((rd_T77 ae ac).f0) == 1) ((rd_T77 ae ac).f0) ((rd_T77 ae ac).f1)) else (Qab.j1 k x0 x2 x7 (wrap64 ((x7.length : Int) - 1)) ae ah ac ((rd_T77 ae ac).f0) (((rd_T77 ae ac).f0) == 20) ((rd_T77 ae ac).f0) ((rd_T77 ae ac).f1))) else (none)) else (none)) else (if 0 < (x7.length : Int) then (some (rd x7 0)) else (none))
def Qab.j1 : Nat → Int → List Int → List Int → Int → List (S77) → Int → Int → Int → Bool → Int → Int → Option (Int)
 | 0, _, _, _, _, _, _, _, _, _, _, _ => none
 | k + 1, x0, x2, x7, af, ae, ah, ac, ak, ao, ai, aa => if ao = true then (if x7.length < 17592186044416 then (Qab.l0 k x0 x2 (x7 ++ [aa]) ae ah (wrap64 (ac + 1))) else (none)) else (if ak = 2 then (if 0 ≤ aa then (if aa < (x2.length : Int) then (if x7.length < 17592186044416 then (Qab.l0 k x0 x2 (x7 ++ [rd x2 aa]) ae ah (wrap64 (ac + 1))) else (none)) else (none)) else (none)) else (if ak = 13 then (if 0 ≤ af then (if af < (x7.length : Int) then ((Qas.f x0).bind fun al => (Qab.l0 k x0 x2 (x7.set (af : Int).toNat (Go.bits .and .u64 (Go.bits .xor .u64 18446744073709551615 (rd x7 af)) al)) ae ah (wrap64 (ac + 1)))) else (none)) else (none)) else (if ak = 19 then (if 0 ≤ af then (if af < (x7.length : Int) then (Qab.l0 k x0 x2 (x7.set (af : Int).toNat (IntKind.u64.wrap (1 - (rd x7 af)))) ae ah (wrap64 (ac + 1))) else (none)) else (none)) else (if 0 ≤ (wrap64 (af - 1)) then (if (wrap64 (af - 1)) < (x7.length : Int) then (if 0 ≤ af then (if af < (x7.length : Int) then (if (wrap64 (af - 1)) ≤ (x7.length : Int) then ((some (x7.take ((wrap64 (af - 1)) : Int).toNat : List Int)).bind fun aj => ((Qaa.f k x0 ai (rd x7 (wrap64 (af - 1))) (rd x7 af)).bind fun am => (if aj.length < 17592186044416 then (Qab.l0 k x0 x2 (aj ++ [am]) ae ah (wrap64 (ac + 1))) else (none)))) else (none)) else (none)) else (none)) else (none)) else (none)))))
end
def Qab.f (k : Nat) (a0 : Int) (l1 : List (S77)) (l2 : List Int) : Option (Int) := Qab.l0 k a0 l2 (([] : List Int)) l1 (l1.length : Int) 0
theorem Qab.mono_l : ∀ k, (∀ y0 y1 y2 y3 y4 y5, LeO (Qab.l0 k y0 y1 y2 y3 y4 y5) (Qab.l0 (k + 1) y0 y1 y2 y3 y4 y5)) ∧ (∀ y0 y1 y2 y3 y4 y5 y6 y7 y8 y9 aa, LeO (Qab.j1 k y0 y1 y2 y3 y4 y5 y6 y7 y8 y9 aa) (Qab.j1 (k + 1) y0 y1 y2 y3 y4 y5 y6 y7 y8 y9 aa))
 | 0 => ⟨fun _ _ _ _ _ _ r h => by simp [Qab.l0] at h, fun _ _ _ _ _ _ _ _ _ _ _ r h => by simp [Qab.j1] at h⟩
 | k + 1 => by
  obtain ⟨ac, ae⟩ := Qab.mono_l k
  and_intros <;> intros
  all_goals (first | unfold Qab.l0 | unfold Qab.j1)
  all_goals repeat' with_reducible first | apply ac | apply ae | apply Qaa.mono | exact LeO.refl _ | exact LeO.none _ | apply LeO.ite | refine LeO.bind ?_ fun _ => ?_
theorem Qab.mono : ∀ a0 a1 a2 k, LeO (Qab.f k a0 a1 a2) (Qab.f (k + 1) a0 a1 a2) := by
 intro a0 a1 a2 k;obtain ⟨aa, ac⟩ := Qab.mono_l k;unfold Qab.f;repeat' with_reducible first | apply aa | apply ac | apply Qaa.mono | exact LeO.refl _ | exact LeO.none _ | apply LeO.ite | refine LeO.bind ?_ fun _ => ?_
def Qab.T7 : Bool × List (List Nat × List Nat) := (true, [([], []), ([], []), ([1], [1]), ([0, 2], [0, 2]), ([], []), ([], []), ([5], [5]), ([], []), ([], []), ([8], [8]), ([7, 9], [7, 9]), ([10], [10]), ([], []), ([], []), ([12, 13], [12, 13]), ([14], [14]), ([4, 6, 11, 15], [4, 6, 11, 15]), ([16], [16]), ([3, 17, 16], [3, 17]), ([18, 18, 0, 1, 2, 3, 4, 5, 6, 7, 8, 9, 10, 11, 12, 13, 14, 15, 16, 17, 18], [0, 7, 12, 18])])
def Qab.B7 : List Nat := [0, 0, 2, 7, 0, 0, 32, 0, 0, 256, 896, 1920, 0, 0, 12288, 28672, 65520, 131056, 262143, 524287]
theorem Qab.tab7 : rtab .any (opsOf Tryz.f68 7) = Qab.T7 := by kernel_rfl
theorem Qab.bits7 : waitsOk Qab.T7.2 Qab.B7 = true := by kernel_rfl
def Qab.T14 : Bool × List (List Nat × List Nat) := (true, [([], []), ([], []), ([], []), ([], []), ([2, 3], [2, 3]), ([4], [4]), ([5], [5]), ([], []), ([7], [7]), ([6, 8], [6, 8]), ([0, 1, 0, 1, 2, 3, 4, 5, 6, 7, 8, 9], [0, 1]), ([10, 9, 8, 0, 1, 2, 3, 4, 5, 6, 7, 8, 9], [9, 10])])
def Qab.B14 : List Nat := [0, 0, 0, 0, 12, 28, 60, 0, 128, 508, 1023, 2047]
theorem Qab.tab14 : rtab .any (opsOf Tryz.f68 14) = Qab.T14 := by kernel_rfl
theorem Qab.bits14 : waitsOk Qab.T14.2 Qab.B14 = true := by kernel_rfl
theorem Qab.calls (k : Nat) (a0 : Int) (A1 : Option Addr) (c1 : Nat) (l1 : List (S77)) (A2 : Option Addr) (c2 : Nat) (l2 : List Int) (r : Int) (w : World) (hr1 : Kd.C k77 w A1 l1.length l1) (dc : l1.length ≤ c1) (hr2 : Kd.C (Kd.int .u64) w A2 l2.length l2) (dd : l2.length ≤ c2) (h : Qab.f k a0 l1 l2 = some r) :
  Calls Tryz.prog 68 #[.int .i64 a0, .slice A1 l1.length c1, .slice A2 l2.length c2] w fun e w' => e = .returned (.int .u64 r) ∧ Below w.heap.size w w' := by
 have dk := Tryz.underlying77;have dl := am_ hr1;have dJ := am_ dc;clear hr1 dc;have dm := am_ hr2;have dK := am_ dd;clear hr2 dd;have HB := am_ (Below.refl w.heap.size w);have H := h;clear h;unfold Qab.f at H;obtain ⟨bI, aw⟩ : ∃ y_ : List Int, y_ = (([] : List Int)) := ⟨_, rfl⟩;replace H : (Qab.l0 k a0 l2 bI l1 (l1.length : Int) 0) = some r := by first | (rw [aw]; with_reducible exact H) | (have am := (Option.bind_some _ _).symm.trans H; rw [aw]; with_reducible exact am) | (have am := (Option.bind_some _ _).symm.trans H; with_reducible exact am) | with_reducible exact H | (rw [aw]; exact H) | exact H
 have a1 := am_ aw;clear aw;have H' := am_ H;clear H;go_enter Tryz.func68, Tryz.ntmps68;go_wp2_with (first | ((with_reducible refine Sh.d 11 ?_); refine Kd.R_lit (Kd.int .u64) _ 75 ?hg (N := 11) ?hd (xs := ([] : List Int)) (inner := []) (ok := fun _ => True) (okp := fun _ => True) ?hr ?hp (fun _ hk => hk) trivial (Below.refl _ _) (Nat.le_refl _) (by simp) ?_; (case hd => rfl); (case hg => rfl); (case hr => first | (go_simp; done) | (go_simp; rfl)); (case hp => exact (Reps.none _ _)); intro dn w4 bJ hb hg_ hnew_; clear hg_ hnew_; (first | rw [← a1.out] at bJ | (simp only [Int.reduceToNat] at bJ; rw [← a1.out] at bJ)); have bK := am_ (Kd.R_lower bJ (below_size Sh.bw)); replace HB := Sh.hb hb; clear hb bJ));go_loopg [7, 14] k (fun kq v7 dp w' => ∃ (ac : List Int) (aa : Int), dp = .int .i64 aa ∧ Aside0 (Qab.l0 kq a0 l2 ac l1 (l1.length : Int) aa = some r) ∧ Aside0 (kq ≤ k) ∧ Aside0 (Kd.R (Kd.int .u64) 75 w' w.heap.size (fun _ => True) v7 ac) ∧ Aside0 (Below w.heap.size w w'))
 case atStart => exact ⟨(bI), (0), (Sh.es), H', ⟨Nat.le_refl _⟩, ⟨Sh.rl bK.out⟩, ⟨Sh.bw⟩⟩
 case round =>
  clear H';obtain ⟨ac, aa, rfl, HA, aQ, af, HB⟩ := hrel;cases gk with
  | zero => exact absurd HA.out (by simp [Qab.l0])
  | succ k1 =>
   have H := HA.out;clear HA;simp only [Qab.l0] at H;by_cases c6 : aa < (l1.length : Int)
   ·rw [if_pos c6] at H
    replace c6 := decide_eq_true c6;by_cases c7 : 0 ≤ aa
    ·rw [if_pos c7] at H
     replace c7 := decide_eq_true c7;by_cases c8 : aa < (l1.length : Int)
     ·rw [if_pos c8] at H
      replace c8 := decide_eq_true c8;have cG := am_ H;clear H;have bg : 0 ≤ (aa : Int) := Sh.od;have bh : aa < (l1.length : Int) := Sh.od;obtain ⟨de, cH, aq, ar⟩ := at_T77 dl.out aa bg bh;cases cH;try replace aq := Sh.cw aq
      try replace ar := Sh.cw ar
      replace bg := eq_true bg;replace bh := eq_true bh;go_upto_if 42 with (first | ((with_reducible refine Sh.d 9 ?_); refine Sh.bx (N := 9) (cs := #[.int .i64 0, .int .u64 0]) (t := 77) (h := ?_); intro ak hg dL hbox hb; replace af := am_ (Kd.R_below (Sh.rl af.out) hb); have ae := am_ hbox; have df := Sh.ag w hg; replace HB := Sh.hb hb; clear hb hbox hg; obtain ⟨aU, aV, aW, aX⟩ := Sh.b2 ae.out; obtain ⟨bi, aN, cI⟩ := Kd.R_slice af.out; subst cI))
      (try simp only [Act.put, List.setIfInBounds_toArray, List.set_cons_zero, List.set_cons_succ]);go_cut [42] (fun dq wc => ∃ (kq : Nat) (aG : Bool), dq = .bool aG ∧ Aside0 (Qab.j1 kq a0 l2 ac (wrap64 ((ac.length : Int) - 1)) l1 (l1.length : Int) aa ((rd_T77 l1 aa).f0) aG ((rd_T77 l1 aa).f0) ((rd_T77 l1 aa).f1) = some r) ∧ Aside0 (kq ≤ k1) ∧ Aside0 (Kd.R (Kd.int .u64) 75 wc w.heap.size (fun _ => True) (.slice bi ac.length aN) ac) ∧ Aside0 (wc.heap[ak]? = some (.cells #[.int .i64 ((rd_T77 l1 aa).f0), .int .u64 ((rd_T77 l1 aa).f1)] 77 (0, 0))) ∧ Aside0 (Below w.heap.size w wc))
      case first =>
       have H := cG.out;clear cG;by_cases bj : ((rd_T77 l1 aa).f0) = 1
       ·rw [if_pos bj] at H
        have c13b0 : (((rd_T77 l1 aa).f0) == 1) = true := beq_iff_eq.mpr bj;have c13b1 : (((rd_T77 l1 aa).f0) != 1) = false := bne_eq_false_iff_eq.mpr bj;clear bj;first | rw [c13b0] | (simp only [i64_w, i32_w]; rw [c13b0]) | skip
        have H' := am_ H;clear H;go_wp2;go_meet
        case rel => exact ⟨_, ((((rd_T77 l1 aa).f0) == 1)), (Sh.es), H', ⟨by have := aQ.out; first | omega | exact Nat.le_refl _⟩, ⟨Sh.rl (Kd.R_mono (Kd.R_far (p := ⟨ak, 1, none⟩) (Kd.R_far (p := ⟨ak, 0, none⟩) (Kd.R_types af.out ae.out (by decide)) (fun _ hk => hk.2) (.int .i64 ((rd_T77 l1 aa).f0))) (fun _ hk => hk.2) (.int .u64 ((rd_T77 l1 aa).f1))) (fun _ hk => trivial))⟩, ⟨by refine Sh.pl ?_; refine blk_put (cs := #[.int .i64 ((rd_T77 l1 aa).f0), .int .u64 0]) ?_ 1 _ rfl; refine Sh.pl ?_; refine blk_put (cs := #[.int .i64 0, .int .u64 0]) ?_ 0 _ rfl; refine Sh.pl ?_; exact ae.out⟩, ⟨Sh.bw⟩⟩
       ·rw [if_neg bj] at H
        have c13b0 : (((rd_T77 l1 aa).f0) == 1) = false := beq_eq_false_iff_ne.mpr bj;have c13b1 : (((rd_T77 l1 aa).f0) != 1) = true := bne_iff_ne.mpr bj;first | rw [c13b0] | (simp only [i64_w, i32_w]; rw [c13b0]) | skip
        have H' := am_ H;clear H;go_wp2;go_meet
        case rel => exact ⟨_, ((((rd_T77 l1 aa).f0) == 20)), (Sh.es), H', ⟨by have := aQ.out; first | omega | exact Nat.le_refl _⟩, ⟨Sh.rl (Kd.R_mono (Kd.R_far (p := ⟨ak, 1, none⟩) (Kd.R_far (p := ⟨ak, 0, none⟩) (Kd.R_types af.out ae.out (by decide)) (fun _ hk => hk.2) (.int .i64 ((rd_T77 l1 aa).f0))) (fun _ hk => hk.2) (.int .u64 ((rd_T77 l1 aa).f1))) (fun _ hk => trivial))⟩, ⟨by refine Sh.pl ?_; refine blk_put (cs := #[.int .i64 ((rd_T77 l1 aa).f0), .int .u64 0]) ?_ 1 _ rfl; refine Sh.pl ?_; refine blk_put (cs := #[.int .i64 0, .int .u64 0]) ?_ 0 _ rfl; refine Sh.pl ?_; exact ae.out⟩, ⟨Sh.bw⟩⟩
      case rest =>
       clear cG;try clear dM
       try clear aU
       try clear aV
       try clear aW
       try clear aX
       try clear aq
       try clear ar
       obtain ⟨kq, aG, rfl, HA, aT, af, ae, HB⟩ := hcut;cases kq with
       | zero => exact absurd HA.out (by simp [Qab.j1])
       | succ au =>
        have H := HA.out;clear HA;simp only [Qab.j1] at H;by_cases cg : aG = true
        ·subst cg
         rw [if_pos rfl] at H;by_cases ch : ac.length < 17592186044416
         ·rw [if_pos ch] at H
          have bL := am_ ch;clear ch;obtain ⟨bM, ax⟩ : ∃ y_ : List Int, y_ = (ac ++ [((rd_T77 l1 aa).f1)]) := ⟨_, rfl⟩;replace H : (Qab.l0 au a0 l2 bM l1 (l1.length : Int) (wrap64 (aa + 1))) = some r := by first | (rw [ax]; with_reducible exact H) | (have am := (Option.bind_some _ _).symm.trans H; rw [ax]; with_reducible exact am) | (have am := (Option.bind_some _ _).symm.trans H; with_reducible exact am) | with_reducible exact H | (rw [ax]; exact H) | exact H
          have bN := am_ ax;clear ax;have H' := am_ H;clear H;have ci := Sh.bc ae.out 0;have cj := Sh.bc ae.out 1;have ck := blk_frozen ae.out 0;have cl := blk_frozen ae.out 1;go_wp2_with (first | ((with_reducible refine gate_builtin (b := .append) (xs := #[.tmp 45, .tmp 48]) rfl ?_); at_builtin; refine Kd.R_append (Kd.int .u64) (w0 := w) w.heap.size rfl (.tmp 45) (.tmp 48) 69 75 (.int .u64 0) 8 rfl Tryz.underlying69 info75 rfl (by decide) (by omega) (.slice bi ac.length aN) ac ((rd_T77 l1 aa).f1) [.int .u64 ((rd_T77 l1 aa).f1)] (fun _ => True) (fun _ => False) rfl rfl ?aP (fun _ hk => hk.elim) ?aF ?aO ?aB ?aS ?aL ?_; (case aP => exact rfl); (case aB => exact Sh.bw); (case aF => exact (fun _ _ => trivial)); (case aO => exact (Sh.rl af.out)); (case aS => exact (below_size Sh.bw)); (case aL => have := bL.out; omega); intro dt dN ho hb hg hat; rw [← bN.out] at ho; have a2 := am_ (blk_grown (g := ak) (o := .cells #[.int .i64 ((rd_T77 l1 aa).f0), .int .u64 ((rd_T77 l1 aa).f1)] 77 (0, 0)) (Sh.pl ae.out) hg (Kd.R_ne af.out ae.out (by decide))); have a6 := am_ hb; have a7 := am_ ho; clear ae; clear HB; clear af; have ae := a2; have HB := a6; have bO := a7; clear a2 a6 a7; clear ho hb hg hat));go_roundg au
          case measure => have := aQ.out; have := aT.out; omega
          case rel => exact ⟨(bM), (wrap64 (aa + 1)), (Sh.es), H', ⟨by have := aQ.out; have := aT.out; omega⟩, ⟨Sh.rl bO.out⟩, ⟨Sh.bw⟩⟩
         ·rw [if_neg ch] at H
          cases H
        ·replace cg := Bool.eq_false_iff.mpr cg
         subst cg;rw [Sh.nf] at H;by_cases bk : ((rd_T77 l1 aa).f0) = 2
         ·rw [if_pos bk] at H
          have c18b0 : (((rd_T77 l1 aa).f0) == 2) = true := beq_iff_eq.mpr bk;have c18b1 : (((rd_T77 l1 aa).f0) != 2) = false := bne_eq_false_iff_eq.mpr bk;clear bk;by_cases cm : 0 ≤ ((rd_T77 l1 aa).f1)
          ·rw [if_pos cm] at H
           replace cm := decide_eq_true cm;by_cases cn : ((rd_T77 l1 aa).f1) < (l2.length : Int)
           ·rw [if_pos cn] at H
            replace cn := decide_eq_true cn;by_cases co : ac.length < 17592186044416
            ·rw [if_pos co] at H
             have bP := am_ co;clear co;obtain ⟨bQ, ay⟩ : ∃ y_ : List Int, y_ = (ac ++ [rd l2 ((rd_T77 l1 aa).f1)]) := ⟨_, rfl⟩;replace H : (Qab.l0 au a0 l2 bQ l1 (l1.length : Int) (wrap64 (aa + 1))) = some r := by first | (rw [ay]; with_reducible exact H) | (have am := (Option.bind_some _ _).symm.trans H; rw [ay]; with_reducible exact am) | (have am := (Option.bind_some _ _).symm.trans H; with_reducible exact am) | with_reducible exact H | (rw [ay]; exact H) | exact H
             have bR := am_ ay;clear ay;have H' := am_ H;clear H;have cp := Sh.bc ae.out 0;have cq := Sh.bc ae.out 1;have cr := blk_frozen ae.out 0;have ct := blk_frozen ae.out 1;have bl : 0 ≤ (((rd_T77 l1 aa).f1) : Int) := Sh.od;have bm : ((rd_T77 l1 aa).f1) < (l2.length : Int) := Sh.od;obtain ⟨dg, cJ, aH⟩ := Kd.at_int dm.out ((rd_T77 l1 aa).f1) bl bm;cases cJ;try replace aH := Sh.cw aH
             replace bl := eq_true bl;replace bm := eq_true bm;go_wp2_with (first | ((with_reducible refine gate_builtin (b := .append) (xs := #[.tmp 52, .tmp 58]) rfl ?_); at_builtin; refine Kd.R_append (Kd.int .u64) (w0 := w) w.heap.size rfl (.tmp 52) (.tmp 58) 69 75 (.int .u64 0) 8 rfl Tryz.underlying69 info75 rfl (by decide) (by omega) (.slice bi ac.length aN) ac (rd l2 ((rd_T77 l1 aa).f1)) [.int .u64 (rd l2 ((rd_T77 l1 aa).f1))] (fun _ => True) (fun _ => False) rfl rfl ?aP (fun _ hk => hk.elim) ?aF ?aO ?aB ?aS ?aL ?_; (case aP => exact rfl); (case aB => exact Sh.bw); (case aF => exact (fun _ _ => trivial)); (case aO => exact (Sh.rl af.out)); (case aS => exact (below_size Sh.bw)); (case aL => have := bP.out; omega); intro du dO ho hb hg hat; rw [← bR.out] at ho; have a2 := am_ (blk_grown (g := ak) (o := .cells #[.int .i64 ((rd_T77 l1 aa).f0), .int .u64 ((rd_T77 l1 aa).f1)] 77 (0, 0)) (Sh.pl ae.out) hg (Kd.R_ne af.out ae.out (by decide))); have a6 := am_ hb; have a7 := am_ ho; clear ae; clear HB; clear af; have ae := a2; have HB := a6; have bS := a7; clear a2 a6 a7; clear ho hb hg hat));go_roundg au
             case measure => have := aQ.out; have := aT.out; omega
             case rel => exact ⟨(bQ), (wrap64 (aa + 1)), (Sh.es), H', ⟨by have := aQ.out; have := aT.out; omega⟩, ⟨Sh.rl bS.out⟩, ⟨Sh.bw⟩⟩
            ·rw [if_neg co] at H
             cases H
           ·rw [if_neg cn] at H
            cases H
          ·rw [if_neg cm] at H
           cases H
         ·rw [if_neg bk] at H
          have c18b0 : (((rd_T77 l1 aa).f0) == 2) = false := beq_eq_false_iff_ne.mpr bk;have c18b1 : (((rd_T77 l1 aa).f0) != 2) = true := bne_iff_ne.mpr bk;by_cases bn : ((rd_T77 l1 aa).f0) = 13
          ·rw [if_pos bn] at H
           have c24b0 : (((rd_T77 l1 aa).f0) == 13) = true := beq_iff_eq.mpr bn;have c24b1 : (((rd_T77 l1 aa).f0) != 13) = false := bne_eq_false_iff_eq.mpr bn;clear bn;obtain ⟨ai, hj1⟩ : ∃ j_ : Int, (wrap64 ((ac.length : Int) - 1)) = j_ := ⟨_, rfl⟩;replace H : (if 0 ≤ (ai) then (if (ai) < (ac.length : Int) then ((Qas.f a0).bind fun aR => (Qab.l0 au a0 l2 (ac.set ((ai) : Int).toNat (Go.bits .and .u64 (Go.bits .xor .u64 18446744073709551615 (rd ac (ai))) aR)) l1 (l1.length : Int) (wrap64 (aa + 1)))) else (none)) else (none)) = some r := by first | (rw [hj1] at H; exact H) | (simp only [hj1] at H ⊢; exact H)
           have hji25w : (IntKind.i64.wrap ((ac.length : Int) - 1)) = ai := (i64_w _).trans hj1;by_cases cu : 0 ≤ (ai)
           ·rw [if_pos cu] at H
            replace cu := decide_eq_true cu;by_cases cv : (ai) < (ac.length : Int)
            ·rw [if_pos cv] at H
             replace cv := decide_eq_true cv;obtain ⟨aR, dv, H⟩ := Sh.ba H;obtain ⟨bT, az⟩ : ∃ y_ : List Int, y_ = (ac.set ((ai) : Int).toNat (Go.bits .and .u64 (Go.bits .xor .u64 18446744073709551615 (rd ac (ai))) aR)) := ⟨_, rfl⟩;replace H : (Qab.l0 au a0 l2 bT l1 (l1.length : Int) (wrap64 (aa + 1))) = some r := by first | (rw [az]; with_reducible exact H) | (have am := (Option.bind_some _ _).symm.trans H; rw [az]; with_reducible exact am) | (have am := (Option.bind_some _ _).symm.trans H; with_reducible exact am) | with_reducible exact H | (rw [az]; exact H) | exact H
             have bU := am_ az;clear az;have H' := am_ H;clear H;try go_wp2
             replace af := am_ (Kd.R_drew af.out);replace ae := am_ (blk_drew ae.out);replace HB := am_ (below_drew1 HB.out);have bo : 0 ≤ ((ai) : Int) := Sh.od;have bp : (ai) < (ac.length : Int) := Sh.od;obtain ⟨bV, cK, av⟩ := Kd.at_int (Kd.R_reads' af.out).2.2 (ai) bo bp;cases cK;replace bo := eq_true bo;replace bp := eq_true bp;refine start_ (n := 12) (S := fun w' => w'.cell? (bV.add ((ai)).toNat) = some (.int .u64 (rd ac (ai)))) (ds := [11]) (Sh.nm 12 0) (by kernel_rfl) rfl rfl (av) (fun hHeld => ?_); refine with_tabW Qab.tab14 Qab.bits14 (fun HT_ HW_ => ?_);generalize wc.drew = dP at af ae HB av hHeld ⊢;refine Sh.qA 0 ?_; refine Sh.qA 1 ?_; refine Sh.qA 2 ?_; refine Sh.qA 3 ?_; refine Sh.qA 4 ?_; refine Sh.qA 7 ?_; refine Sh.qT 5 hHeld ?_; refine Sh.qA 6 ?_;refine Sh.oC 8 Tryz.func69 #[.int .i64 a0] fun K hK => ?_;with_reducible refine (Qas.calls a0 aR _ dv.out).mono ?_
             rintro e w' ⟨rfl, ⟨nd, rfl⟩⟩;refine ⟨_, rfl, ?_⟩;have cL : 0 ≤ ((ai) : Int) := Sh.od;have cM : ((ai) : Int) < ((ac.length : Int) : Int) := Sh.od;obtain ⟨dw, dx, bW, bX, cN, dy, bY⟩ := Kd.R_form af.out (by omega);(first | cases bW | (injection bW with ea_ en_ ec_; (first | subst ea_ | (injection ea_ with ea_; subst ea_)); subst ec_; clear en_));have dz := am_ bX;have dA := am_ bY;clear bX cN bY;(first | simp only [add_plain] at av | skip);obtain ⟨cO, cP⟩ := Kd.R_celln 0 af.out ((ai) : Int) cL cM;replace cL := eq_true cL;replace cM := eq_true cM;have bq := Kd.R_putn af.out ((ai) : Int) (Go.bits .and .u64 (Go.bits .xor .u64 18446744073709551615 (rd ac (ai))) aR);rw [← bU.out] at bq;have cQ := am_ bq;clear bq;refine hK.out _ _ (hHeld) (fun hHeld => ?_);clear hK K;refine norm_ (a' := ?_) ?_ ?_;rotate_left
             ·show Act.put _ (some 70) _ = _
              simp only [Act.put, List.setIfInBounds_toArray, List.set_cons_zero, List.set_cons_succ, i64_w, i32_w, hj1];rfl
             refine Sh.qA 9 ?_; refine Sh.qA 10 ?_;refine last_ (i := 11) (N := none) (Sh.nm 12 4095) rfl rfl (one_of HT_.out (by kernel_rfl)) (by decide) (fun K hK => ?_);refine skip_ (w1 := ?_) (by rfl) rfl ?_ ?_;rotate_left
             ·go_simp
              rfl
             refine hK.out _ _ ?_;clear hK K;refine done_ (done_of HT_.out (by kernel_rfl)) ?_;try go_wp2
             go_roundg au
             case measure => have := aQ.out; have := aT.out; omega
             case rel => exact ⟨(bT), (wrap64 (aa + 1)), (Sh.es), H', ⟨by have := aQ.out; have := aT.out; omega⟩, ⟨by (with_reducible repeat (first | apply Kd.R_alloc | apply Kd.R_drewN | apply Kd.R_drew)); exact cQ.out⟩, ⟨Sh.bw⟩⟩
            ·rw [if_neg cv] at H
             cases H
           ·rw [if_neg cu] at H
            cases H
          ·rw [if_neg bn] at H
           have c24b0 : (((rd_T77 l1 aa).f0) == 13) = false := beq_eq_false_iff_ne.mpr bn;have c24b1 : (((rd_T77 l1 aa).f0) != 13) = true := bne_iff_ne.mpr bn;by_cases br : ((rd_T77 l1 aa).f0) = 19
           ·rw [if_pos br] at H
            have c32b0 : (((rd_T77 l1 aa).f0) == 19) = true := beq_iff_eq.mpr br;have c32b1 : (((rd_T77 l1 aa).f0) != 19) = false := bne_eq_false_iff_eq.mpr br;clear br;obtain ⟨aj, hj2⟩ : ∃ j_ : Int, (wrap64 ((ac.length : Int) - 1)) = j_ := ⟨_, rfl⟩;replace H : (if 0 ≤ (aj) then (if (aj) < (ac.length : Int) then (Qab.l0 au a0 l2 (ac.set ((aj) : Int).toNat (IntKind.u64.wrap (1 - (rd ac (aj))))) l1 (l1.length : Int) (wrap64 (aa + 1))) else (none)) else (none)) = some r := by first | (rw [hj2] at H; exact H) | (simp only [hj2] at H ⊢; exact H)
            have hji33w : (IntKind.i64.wrap ((ac.length : Int) - 1)) = aj := (i64_w _).trans hj2;by_cases cx : 0 ≤ (aj)
            ·rw [if_pos cx] at H
             replace cx := decide_eq_true cx;by_cases cy : (aj) < (ac.length : Int)
             ·rw [if_pos cy] at H
              replace cy := decide_eq_true cy;obtain ⟨bs, aA⟩ : ∃ y_ : List Int, y_ = (ac.set ((aj) : Int).toNat (IntKind.u64.wrap (1 - (rd ac (aj))))) := ⟨_, rfl⟩;replace H : (Qab.l0 au a0 l2 bs l1 (l1.length : Int) (wrap64 (aa + 1))) = some r := by first | (rw [aA]; with_reducible exact H) | (have am := (Option.bind_some _ _).symm.trans H; rw [aA]; with_reducible exact am) | (have am := (Option.bind_some _ _).symm.trans H; with_reducible exact am) | with_reducible exact H | (rw [aA]; exact H) | exact H
              have bZ := am_ aA;clear aA;have H' := am_ H;clear H;have bu : 0 ≤ ((aj) : Int) := Sh.od;have bv : (aj) < (ac.length : Int) := Sh.od;obtain ⟨dh, cS, aY⟩ := Kd.at_int (Kd.R_reads' af.out).2.2 (aj) bu bv;cases cS;replace bu := eq_true bu;replace bv := eq_true bv;have cT : 0 ≤ ((aj) : Int) := Sh.od;have cU : ((aj) : Int) < ((ac.length : Int) : Int) := Sh.od;obtain ⟨bA, dB, b0, b1, cV, dC, b6⟩ := Kd.R_form af.out (by omega);(first | cases b0 | (injection b0 with ea_ en_ ec_; (first | subst ea_ | (injection ea_ with ea_; subst ea_)); subst ec_; clear en_));have cW := am_ b1;have dD := am_ b6;clear b1 cV b6;(first | simp only [add_plain] at aY | skip);obtain ⟨cX, cY⟩ := Kd.R_celln 0 af.out ((aj) : Int) cT cU;replace cT := eq_true cT;replace cU := eq_true cU;have bB := Kd.R_putg af.out ((aj) : Int) (IntKind.u64.wrap (1 - (rd ac (aj))));go_wp2_with (first | ((with_reducible refine gate_store (t := 75) (p := 82) rfl ?_); refine store_event (t := 75) (p := 82) (v := ?vo_w38) (w1 := (wc.setCell ⟨bA, ((aj) : Int).toNat, none⟩ (.int .u64 (IntKind.u64.wrap (1 - (rd ac (aj))))))) ?hg ?ho ?hn ?hr ?_; (case ho => rfl); (case hg => rfl); (case hn => rfl); (case hr => first | (go_simp; done) | (go_simp; rfl)); intro cZ hw; have hg : wc.grownBy cZ (some bA) := (by rw [hw]; exact bB.2); have hp_ : Kd.R (Kd.int .u64) 75 cZ w.heap.size (fun _ => True) (.slice (some ⟨bA, 0, none⟩) ac.length aN) bs := (by rw [hw, bZ.out]; exact bB.1); clear bB; replace ae := am_ (blk_grown (g := ak) (o := .cells #[.int .i64 ((rd_T77 l1 aa).f0), .int .u64 ((rd_T77 l1 aa).f1)] 77 (0, 0)) (Sh.pl ae.out) hg (Kd.R_ne af.out ae.out (by decide))); replace af := am_ hp_; replace HB := am_ ((by rw [hw]; exact below_set (HB.out) cW.out : Below w.heap.size w cZ)); clear hg hw hp_));go_roundg au
              case measure => have := aQ.out; have := aT.out; omega
              case rel => exact ⟨(bs), (wrap64 (aa + 1)), (Sh.es), H', ⟨by have := aQ.out; have := aT.out; omega⟩, ⟨Sh.rl af.out⟩, ⟨Sh.bw⟩⟩
             ·rw [if_neg cy] at H
              cases H
            ·rw [if_neg cx] at H
             cases H
           ·rw [if_neg br] at H
            have c32b0 : (((rd_T77 l1 aa).f0) == 19) = false := beq_eq_false_iff_ne.mpr br;have c32b1 : (((rd_T77 l1 aa).f0) != 19) = true := bne_iff_ne.mpr br;obtain ⟨ah, hj3⟩ : ∃ j_ : Int, (wrap64 ((wrap64 ((ac.length : Int) - 1)) - 1)) = j_ := ⟨_, rfl⟩;replace H : (if 0 ≤ (ah) then (if (ah) < (ac.length : Int) then (if 0 ≤ (wrap64 ((ac.length : Int) - 1)) then (if (wrap64 ((ac.length : Int) - 1)) < (ac.length : Int) then (if (ah) ≤ (ac.length : Int) then ((some (ac.take ((ah) : Int).toNat : List Int)).bind fun ao => ((Qaa.f au a0 ((rd_T77 l1 aa).f0) (rd ac (ah)) (rd ac (wrap64 ((ac.length : Int) - 1)))).bind fun ap => (if ao.length < 17592186044416 then (Qab.l0 au a0 l2 (ao ++ [ap]) l1 (l1.length : Int) (wrap64 (aa + 1))) else (none)))) else (none)) else (none)) else (none)) else (none)) else (none)) = some r := by first | (rw [hj3] at H; exact H) | (simp only [hj3] at H ⊢; exact H)
            have hji39w : (IntKind.i64.wrap ((wrap64 ((ac.length : Int) - 1)) - 1)) = ah := (i64_w _).trans hj3;by_cases cz : 0 ≤ (ah)
            ·rw [if_pos cz] at H
             replace cz := decide_eq_true cz;by_cases cA : (ah) < (ac.length : Int)
             ·rw [if_pos cA] at H
              replace cA := decide_eq_true cA;obtain ⟨al, hj4⟩ : ∃ j_ : Int, (wrap64 ((ac.length : Int) - 1)) = j_ := ⟨_, rfl⟩;have hj5 := hj3; (try rw [hj4] at hj5);replace H : (if 0 ≤ (al) then (if (al) < (ac.length : Int) then (if (ah) ≤ (ac.length : Int) then ((some (ac.take ((ah) : Int).toNat : List Int)).bind fun ao => ((Qaa.f au a0 ((rd_T77 l1 aa).f0) (rd ac (ah)) (rd ac (al))).bind fun ap => (if ao.length < 17592186044416 then (Qab.l0 au a0 l2 (ao ++ [ap]) l1 (l1.length : Int) (wrap64 (aa + 1))) else (none)))) else (none)) else (none)) else (none)) = some r := by first | (rw [hj4] at H; exact H) | (simp only [hj4] at H ⊢; exact H)
              have hji42w : (IntKind.i64.wrap ((ac.length : Int) - 1)) = al := (i64_w _).trans hj4;by_cases cC : 0 ≤ (al)
              ·rw [if_pos cC] at H
               replace cC := decide_eq_true cC;by_cases cD : (al) < (ac.length : Int)
               ·rw [if_pos cD] at H
                replace cD := decide_eq_true cD;by_cases b7 : (ah) ≤ (ac.length : Int)
                ·rw [if_pos b7] at H
                 have c45b0 := eq_true b7;have c45b1 := decide_eq_true b7;clear b7;obtain ⟨ao, aC⟩ : ∃ y_ : List Int, y_ = (ac.take ((ah) : Int).toNat) := ⟨_, rfl⟩;replace H : ((Qaa.f au a0 ((rd_T77 l1 aa).f0) (rd ac (ah)) (rd ac (al))).bind fun ap => (if ao.length < 17592186044416 then (Qab.l0 au a0 l2 (ao ++ [ap]) l1 (l1.length : Int) (wrap64 (aa + 1))) else (none))) = some r := by first | (rw [aC]; with_reducible exact H) | (have am := (Option.bind_some _ _).symm.trans H; rw [aC]; with_reducible exact am) | (have am := (Option.bind_some _ _).symm.trans H; with_reducible exact am) | with_reducible exact H | (rw [aC]; exact H) | exact H
                 have a8 := am_ aC;clear aC;obtain ⟨ap, dE, H⟩ := Sh.ba H;by_cases cE : ao.length < 17592186044416
                 ·rw [if_pos cE] at H
                  have b8 := am_ cE;clear cE;obtain ⟨b9, aD⟩ : ∃ y_ : List Int, y_ = (ao ++ [ap]) := ⟨_, rfl⟩;replace H : (Qab.l0 au a0 l2 b9 l1 (l1.length : Int) (wrap64 (aa + 1))) = some r := by first | (rw [aD]; with_reducible exact H) | (have am := (Option.bind_some _ _).symm.trans H; rw [aD]; with_reducible exact am) | (have am := (Option.bind_some _ _).symm.trans H; with_reducible exact am) | with_reducible exact H | (rw [aD]; exact H) | exact H
                  have ca := am_ aD;clear aD;have H' := am_ H;clear H;try go_wp2
                  replace af := am_ (Kd.R_drew af.out);replace ae := am_ (blk_drew ae.out);replace HB := am_ (below_drew1 HB.out);have bC : 0 ≤ ((ah) : Int) := Sh.od;have bD : (ah) < (ac.length : Int) := Sh.od;obtain ⟨aE, c4, aI⟩ := Kd.at_int (Kd.R_reads' af.out).2.2 (ah) bC bD;cases c4;replace bC := eq_true bC;replace bD := eq_true bD;have bE : 0 ≤ ((al) : Int) := Sh.od;have bF : (al) < (ac.length : Int) := Sh.od;obtain ⟨cb, c5, aJ⟩ := Kd.at_int (Kd.R_reads' af.out).2.2 (al) bE bF;obtain rfl : aE = cb := (by injection c5);replace bE := eq_true bE;replace bF := eq_true bF;have c9 : ((ah) : Int) ≤ ((ac.length : Int) : Int) := Sh.od;obtain ⟨dF, bf, _, cd, _⟩ := info_parts info75;have hcut49 := cut_to (P := Tryz.prog) 69 75 .i64 Tryz.underlying69 bf (some aE) ac.length aN (ah) (of_decide_eq_true (by first | (with_reducible assumption) | assumption)) c9 (Kd.R_reads' af.out).2.1;have aZ := Kd.R_take (m := ((ah) : Int).toNat) af.out (by omega);have ce : ao.length = ((ah) : Int).toNat := (by rw [a8.out, List.length_take]; omega);rw [← a8.out] at aZ;rw [← ce] at aZ hcut49;clear ce bf cd af;have aK := am_ aZ;clear aZ;replace c9 := eq_true c9;refine start_ (n := 20) (S := fun w' => w'.cell? ⟨ak, 0, none⟩ = some (.int .i64 ((rd_T77 l1 aa).f0)) ∧ w'.cell? ⟨ak, 1, none⟩ = some (.int .u64 ((rd_T77 l1 aa).f1)) ∧ w'.cell? (aE.add ((ah)).toNat) = some (.int .u64 (rd ac (ah))) ∧ w'.cell? (aE.add ((al)).toNat) = some (.int .u64 (rd ac (al)))) (ds := [17, 18]) (Sh.nm 20 0) (by kernel_rfl) rfl rfl ⟨(blk_cell ae.out 0).trans rfl, (blk_cell ae.out 1).trans rfl, aI, aJ⟩ (fun hHeld => ?_); refine with_tabW Qab.tab7 Qab.bits7 (fun HT_ HW_ => ?_);generalize wc.drew = dQ at af ae HB aK aI aJ hHeld ⊢;refine Sh.qA 0 ?_; refine Sh.qA 1 ?_; refine Sh.qA 2 ?_; refine Sh.qA 3 ?_; refine Sh.qA 4 ?_; refine Sh.qA 5 ?_; refine Sh.qA 7 ?_; refine Sh.qA 8 ?_; refine Sh.qA 9 ?_; refine Sh.qA 10 ?_; refine Sh.qA 12 ?_; refine Sh.qA 13 ?_; refine Sh.qA 14 ?_; refine Sh.qT 6 hHeld ?_; refine Sh.qT 11 hHeld ?_; refine Sh.qT 15 hHeld ?_;refine one_ (i := 16) (N := some 39) (Sh.nm 20 131071) rfl rfl (one_of HT_.out (by kernel_rfl)) (by decide) (fun K hK => ?_);refine goes_ Tryz.func90 (by kernel_rfl) rfl #[.int .i64 a0, .int .i64 ((rd_T77 l1 aa).f0), .int .u64 (rd ac (ah)), .int .u64 (rd ac (al))] (by rfl) rfl rfl (by (try simp only [List.map_toArray, List.map_cons, List.map_nil]); first | done | (simp only [hj3, hj4]; rfl) | rfl | (simp only [List.length_drop, List.length_take]; rfl)) ?_;with_reducible refine (Qaa.calls au a0 ((rd_T77 l1 aa).f0) (rd ac (ah)) (rd ac (al)) ap _ dE.out).mono ?_
                  rintro e w' ⟨rfl, ⟨nd, rfl⟩⟩;refine ⟨_, rfl, ?_⟩;refine Sh.kN hK ⟨(blk_cell ae.out 0).trans rfl, (blk_cell ae.out 1).trans rfl, hHeld.2.2.1, hHeld.2.2.2⟩ fun hHeld => ?_;clear hK K;refine last_ (i := 17) (N := some 40) (Sh.nm 20 262143) rfl rfl (one_of HT_.out (by kernel_rfl)) (by decide) (fun K hK => ?_);refine value_ (w1 := ?_) (v := ?_) (by rfl) rfl ?_ ?_;rotate_left 2
                  ·go_simp
                   constructor
                   ·rfl
                   ·rfl
                  refine Sh.kM hK ?_;clear hK K;refine last_ (i := 18) (N := some 41) (Sh.nm 20 524287) rfl rfl (one_of HT_.out (by kernel_rfl)) (by decide) (fun K hK => ?_);refine Kd.R_append_step (Kd.int .u64) (w0 := w) w.heap.size (by rfl) (.tmp 26) (.tmp 40) 69 75 (.int .u64 0) 8 rfl Tryz.underlying69 info75 rfl (by decide) (by omega) (.slice (some aE) ao.length aN) ao ap [.int .u64 ap] (fun _ => True) (fun _ => False) rfl rfl ?aP (fun _ hk => hk.elim) ?aF ?aO ?aB ?aS ?aL ?_;(case aP => exact rfl);(case aB => exact Sh.bw);(case aF => exact (fun _ _ => trivial));(case aO => exact (Sh.rl aK.out));(case aS => exact (below_size Sh.bw));(case aL => have := b8.out; omega);intro dG dR ho hb hg hat;rw [← ca.out] at ho;have a2 := am_ (blk_grown (g := ak) (o := .cells #[.int .i64 ((rd_T77 l1 aa).f0), .int .u64 ((rd_T77 l1 aa).f1)] 77 (0, 0)) (Sh.pl ae.out) hg (Kd.R_ne aK.out ae.out (by decide)));have a6 := am_ hb;have a7 := am_ ho;clear ae;clear HB;clear aK;have ae := a2;have HB := a6;have cf := a7;clear a2 a6 a7;clear ho hb hg hat;refine Sh.kM hK ?_;clear hK K;refine Sh.qA 19 ?_;refine done_ (done_of HT_.out (by kernel_rfl)) ?_;try go_wp2
                  go_roundg au
                  case measure => have := aQ.out; have := aT.out; omega
                  case rel => exact ⟨(b9), (wrap64 (aa + 1)), (Sh.es), H', ⟨by have := aQ.out; have := aT.out; omega⟩, ⟨Sh.rl cf.out⟩, ⟨Sh.bw⟩⟩
                 ·rw [if_neg cE] at H
                  cases H
                ·rw [if_neg b7] at H
                 cases H
               ·rw [if_neg cD] at H
                cases H
              ·rw [if_neg cC] at H
               cases H
             ·rw [if_neg cA] at H
              cases H
            ·rw [if_neg cz] at H
             cases H
     ·rw [if_neg c8] at H
      cases H
    ·rw [if_neg c7] at H
     cases H
   ·rw [if_neg c6] at H
    replace c6 := decide_eq_false c6;by_cases cF : 0 < (ac.length : Int)
    ·rw [if_pos cF] at H
     have c51b0 := decide_eq_true cF;have c51b1 : decide (0 < ac.length) = true := decide_eq_true (by omega);clear cF;obtain rfl := Option.some.inj H;obtain ⟨dH, dI, da⟩ := Kd.R_slice af.out;subst da;have bG : 0 ≤ (0 : Int) := (by omega);have bH : 0 < (ac.length : Int) := Sh.od;obtain ⟨di, db, aM⟩ := Kd.at_int (Kd.R_reads' af.out).2.2 0 bG bH;cases db;have dj : (0 < ac.length) = True := eq_true (by omega);(try rw [show ((0 : Int)).toNat = 0 from rfl] at aM);(try rw [Addr.add_zero'] at aM);replace bG := eq_true bG;replace bH := eq_true bH;go_wp2;go_ret;exact ⟨Sh.eR, Sh.bw⟩
    ·rw [if_neg cF] at H
     cases H
def Qa4.f (k : Nat) (aa : Int) (ae : Int) (af : List (S77)) (ah : List (S82)) (l1 : List (S77)) (l2 : List Int) : Option (Bool) := (Qab.f k aa l1 l2).bind fun ac => (some (ac == 1))
theorem Qa4.mono : ∀ a0 a1 a2 a3 a4 a5 k, LeO (Qa4.f k a0 a1 a2 a3 a4 a5) (Qa4.f (k + 1) a0 a1 a2 a3 a4 a5) := by
 intro a0 a1 a2 a3 a4 a5 k;unfold Qa4.f;repeat' with_reducible first | apply Qab.mono | exact LeO.refl _ | exact LeO.none _ | apply LeO.ite | refine LeO.bind ?_ fun _ => ?_
theorem Qa4.calls (k : Nat) (ae : Int) (al : Int) (am : Option Addr) (ao : Nat) (aa : List (S77)) (ap : Option Addr) (aq : Nat) (ac : List (S82)) (A1 : Option Addr) (c1 : Nat) (l1 : List (S77)) (A2 : Option Addr) (c2 : Nat) (l2 : List Int) (r : Bool) (w : World) (ah : Kd.C k77 w am aa.length aa) (ai : aa.length ≤ ao) (aj : Kd.C k82 w ap ac.length ac) (ak : ac.length ≤ aq) (hr1 : Kd.C k77 w A1 l1.length l1) (aC : l1.length ≤ c1) (hr2 : Kd.C (Kd.int .u64) w A2 l2.length l2) (aD : l2.length ≤ c2) (h : Qa4.f k ae al aa ac l1 l2 = some r) :
  Calls Tryz.prog 51 #[.agg #[.int .i64 ae, .int .i64 al, .slice am aa.length ao, .slice ap ac.length aq], .slice A1 l1.length c1, .slice A2 l2.length c2] w fun e w' => e = .returned (.bool r) ∧ Below w.heap.size w w' := by
 have aK := Tryz.underlying33;have aE := am_ ah;have aF := am_ ai;clear ah ai;have aG := am_ aj;have aH := am_ ak;clear aj ak;have aL := am_ hr1;have aM := am_ aC;clear hr1 aC;have aN := am_ hr2;have aO := am_ aD;clear hr2 aD;have HB := am_ (Below.refl w.heap.size w);have H := h;clear h;unfold Qa4.f at H;obtain ⟨ar, A4, H⟩ := Sh.ba H;obtain rfl := Option.some.inj H;go_enter Tryz.func51, Tryz.ntmps51;go_wp2_with (first | ((with_reducible refine Sh.d 3 ?_); refine Sh.bz w (N := 3) (cs := #[.int .i64 ae, .int .i64 al, .slice am aa.length ao, .slice ap ac.length aq]) (t := 33) (h := ?_); clear HB; intro aI w5 af aJ HB; obtain ⟨au, av, aw, ax, ay, az, aA, aB⟩ := Sh.b4 af.out) | ((with_reducible refine Sh.k 68 ?_); refine Sh.gB (some 11) Tryz.func68 #[.int .i64 ae, .slice A1 l1.length c1, .slice A2 l2.length c2] (Qab.calls k ae _ _ l1 _ _ l2 ar _ (Sh.cB aL.out) aM.out (Sh.cB aN.out) aO.out A4.out) fun w7 hb => ?_; replace af := Sh.ab af hb; replace HB := Sh.hb hb; (try clear hb); (try clear hk)));go_ret;exact ⟨Sh.eR, Sh.bw⟩
def Qaq.l0 : Nat → Int → List Int → Int → Int → Int → Int → List (S77) → List (S82) → Option (List Int)
 | 0, _, _, _, _, _, _, _, _ => none
 | k + 1, x1, x5, x9, ah, aa, ac, ae, af => if ah < x9 then (if 0 ≤ (wrap64 (aa * ah)) then ((Qas.f aa).bind fun ai => (if x5.length < 17592186044416 then (Qaq.l0 k x1 (x5 ++ [Go.bits .and .u64 (shr .u64 (IntKind.u64.wrap (x1)) (wrap64 (aa * ah))) ai]) x9 (wrap64 (ah + 1)) aa ac ae af) else (none))) else (none)) else (some x5)
def Qaq.f (k : Nat) (ac : Int) (aa : Int) (ae : List (S77)) (af : List (S82)) (a1 : Int) : Option (List Int) := Qaq.l0 k a1 (([] : List Int)) aa 0 ac aa ae af
theorem Qaq.mono_l : ∀ k, (∀ y0 y1 y2 y3 y4 y5 y6 y7, LeO (Qaq.l0 k y0 y1 y2 y3 y4 y5 y6 y7) (Qaq.l0 (k + 1) y0 y1 y2 y3 y4 y5 y6 y7))
 | 0 => fun _ _ _ _ _ _ _ _ r h => by simp [Qaq.l0] at h
 | k + 1 => by
  have aa := Qaq.mono_l k
  ·intro y0 y1 y2 y3 y4 y5 y6 y7
   unfold Qaq.l0
   repeat' with_reducible first | apply aa | exact LeO.refl _ | exact LeO.none _ | apply LeO.ite | refine LeO.bind ?_ fun _ => ?_
theorem Qaq.mono : ∀ a0 a1 a2 a3 a4 k, LeO (Qaq.f k a0 a1 a2 a3 a4) (Qaq.f (k + 1) a0 a1 a2 a3 a4) := by
 intro a0 a1 a2 a3 a4 k;have aa := Qaq.mono_l k;unfold Qaq.f;repeat' with_reducible first | apply aa | exact LeO.refl _ | exact LeO.none _ | apply LeO.ite | refine LeO.bind ?_ fun _ => ?_
def Qaq.T5 : Bool × List (List Nat × List Nat) := (true, [([], []), ([], []), ([1], [1]), ([], []), ([3], [3]), ([], []), ([4, 5], [4, 5]), ([2, 6], [2, 6]), ([], []), ([8], [8]), ([9], [9]), ([7, 10], [7, 10]), ([11], [11]), ([0, 12, 10], [0, 12]), ([13, 13, 0, 1, 2, 3, 4, 5, 6, 7, 8, 9, 10, 11, 12, 13], [0, 13])])
def Qaq.B5 : List Nat := [0, 0, 2, 0, 8, 0, 56, 126, 0, 256, 768, 2046, 4094, 8191, 16383]
theorem Qaq.tab5 : rtab .any (opsOf Tryz.f52 5) = Qaq.T5 := by kernel_rfl
theorem Qaq.bits5 : waitsOk Qaq.T5.2 Qaq.B5 = true := by kernel_rfl
theorem Qaq.calls (k : Nat) (ac : Int) (ae : Int) (aq : Option Addr) (ar : Nat) (ah : List (S77)) (au : Option Addr) (av : Nat) (ai : List (S82)) (a1 : Int) (r : List Int) (w : World) (ax : Kd.C k77 w aq ah.length ah) (ay : ah.length ≤ ar) (az : Kd.C k82 w au ai.length ai) (aA : ai.length ≤ av) (h : Qaq.f k ac ae ah ai a1 = some r) :
  Calls Tryz.prog 52 #[.agg #[.int .i64 ac, .int .i64 ae, .slice aq ah.length ar, .slice au ai.length av], .int .i64 a1] w fun e w' => ∃ a6 : Value, e = .returned (a6) ∧ Kd.R (Kd.int .u64) 75 w' w.heap.size (fun _ => True) a6 r ∧ Below w.heap.size w w' := by
 have bm := Tryz.underlying33;have a7 := am_ ax;have a8 := am_ ay;clear ax ay;have bf := am_ az;have bg := am_ aA;clear az aA;have HB := am_ (Below.refl w.heap.size w);have H := h;clear h;unfold Qaq.f at H;obtain ⟨aR, al⟩ : ∃ y_ : List Int, y_ = (([] : List Int)) := ⟨_, rfl⟩;replace H : (Qaq.l0 k a1 aR ae 0 ac ae ah ai) = some r := by first | (rw [al]; with_reducible exact H) | (have aE := (Option.bind_some _ _).symm.trans H; rw [al]; with_reducible exact aE) | (have aE := (Option.bind_some _ _).symm.trans H; with_reducible exact aE) | with_reducible exact H | (rw [al]; exact H) | exact H
 have aC := am_ al;clear al;have H' := am_ H;clear H;go_enter Tryz.func52, Tryz.ntmps52;go_wp2_with (first | ((with_reducible refine Sh.d 2 ?_); refine Sh.bz w (N := 2) (cs := #[.int .i64 ac, .int .i64 ae, .slice aq ah.length ar, .slice au ai.length av]) (t := 33) (h := ?_); clear HB; intro ak w3 aa bh HB) | ((with_reducible refine Sh.d 7 ?_); refine Kd.R_lit (Kd.int .u64) _ 75 ?hg (N := 7) ?hd (xs := ([] : List Int)) (inner := []) (ok := fun _ => True) (okp := fun _ => True) ?hr ?hp (fun _ hk => hk) trivial (Below.refl _ _) (Nat.le_refl _) (by simp) ?_; (case hd => rfl); (case hg => rfl); (case hr => first | (go_simp; done) | (go_simp; rfl)); (case hp => exact (Reps.none _ _)); intro bn w4 aT hb hg_ hnew_; clear hg_ hnew_; (first | rw [← aC.out] at aT | (simp only [Int.reduceToNat] at aT; rw [← aC.out] at aT)); have aU := am_ (Kd.R_lower aT (below_size Sh.bw)); replace aa := Sh.ab aa hb; replace HB := Sh.hb hb; clear hb aT; obtain ⟨aG, aH, aI, aJ, aK, aM, aN, aQ⟩ := Sh.b4 aa.out));go_loopg [5, 10] k (fun kq v5 bo w' => ∃ (aj : List Int) (af : Int), bo = .int .i64 af ∧ Aside0 (Qaq.l0 kq a1 aj ae af ac ae ah ai = some r) ∧ Aside0 (kq ≤ k) ∧ Aside0 (Kd.R (Kd.int .u64) 75 w' w.heap.size (fun _ => True) v5 aj) ∧ Aside0 (w'.heap[ak]? = some (.cells #[.int .i64 ac, .int .i64 ae, (.slice aq ah.length ar), (.slice au ai.length av)] 33 (0, 0))) ∧ Aside0 (Below w.heap.size w w'))
 case atStart => exact ⟨(aR), (0), (Sh.es), H', ⟨Nat.le_refl _⟩, ⟨Sh.rl aU.out⟩, ⟨by refine Sh.pl ?_; exact aa.out⟩, ⟨Sh.bw⟩⟩
 case round =>
  clear H';try clear aG
  try clear aH
  try clear aI
  try clear aJ
  try clear aK
  try clear aM
  try clear aN
  try clear aQ
  obtain ⟨aj, af, rfl, HA, bi, ap, aa, HB⟩ := hrel;cases gk with
  | zero => exact absurd HA.out (by simp [Qaq.l0])
  | succ k1 =>
   have H := HA.out;clear HA;simp only [Qaq.l0] at H;by_cases c7 : af < ae
   ·rw [if_pos c7] at H
    replace c7 := decide_eq_true c7;obtain ⟨aD, hj1⟩ : ∃ j_ : Int, (wrap64 (ac * af)) = j_ := ⟨_, rfl⟩;replace H : (if 0 ≤ (aD) then ((Qas.f ac).bind fun am => (if aj.length < 17592186044416 then (Qaq.l0 k1 a1 (aj ++ [Go.bits .and .u64 (shr .u64 (IntKind.u64.wrap (a1)) (aD)) am]) ae (wrap64 (af + 1)) ac ae ah ai) else (none))) else (none)) = some r := by first | (rw [hj1] at H; exact H) | (simp only [hj1] at H ⊢; exact H)
    have hji8w : (IntKind.i64.wrap (ac * af)) = aD := (i64_w _).trans hj1;by_cases c9 : 0 ≤ (aD)
    ·rw [if_pos c9] at H
     have c9b0 := eq_true c9;have c9b1 := decide_eq_true c9;clear c9;obtain ⟨aw, hj2⟩ : ∃ j_ : Int, (shr .u64 (IntKind.u64.wrap (a1)) (aD)) = j_ := ⟨_, rfl⟩;have hj3 := hj1; (try rw [hj2] at hj3);replace H : ((Qas.f ac).bind fun am => (if aj.length < 17592186044416 then (Qaq.l0 k1 a1 (aj ++ [Go.bits .and .u64 (aw) am]) ae (wrap64 (af + 1)) ac ae ah ai) else (none))) = some r := by first | (rw [hj2] at H; exact H) | (simp only [hj2] at H ⊢; exact H)
     have a2 : ((IntKind.u64.wrap (a1)) / 2 ^ min (aD).toNat 64) = aw := hj2;have hji10z : (aD) ≤ 64 → ((IntKind.u64.wrap (a1)) / 2 ^ (aD).toNat) = aw := shr_small hj2;obtain ⟨am, bp, H⟩ := Sh.ba H;by_cases aZ : aj.length < 17592186044416
     ·rw [if_pos aZ] at H
      have aV := am_ aZ;clear aZ;obtain ⟨aW, ao⟩ : ∃ y_ : List Int, y_ = (aj ++ [Go.bits .and .u64 (aw) am]) := ⟨_, rfl⟩;replace H : (Qaq.l0 k1 a1 aW ae (wrap64 (af + 1)) ac ae ah ai) = some r := by first | (rw [ao]; with_reducible exact H) | (have aE := (Option.bind_some _ _).symm.trans H; rw [ao]; with_reducible exact aE) | (have aE := (Option.bind_some _ _).symm.trans H; with_reducible exact aE) | with_reducible exact H | (rw [ao]; exact H) | exact H
      have aX := am_ ao;clear ao;have H' := am_ H;clear H;try go_wp2
      replace ap := am_ (Kd.R_drew ap.out);replace aa := am_ (blk_drew aa.out);replace HB := am_ (below_drew1 HB.out);refine start_ (n := 15) (S := fun w' => w'.cell? ⟨ak, 0, none⟩ = some (.int .i64 ac) ∧ w'.cell? ⟨ak, 1, none⟩ = some (.int .i64 ae) ∧ w'.cell? ⟨ak, 2, none⟩ = some (.slice aq ah.length ar) ∧ w'.cell? ⟨ak, 3, none⟩ = some (.slice au ai.length av)) (ds := []) (Sh.nm 15 0) (by kernel_rfl) rfl rfl Sh.cs (fun hHeld => ?_); refine with_tabW Qaq.tab5 Qaq.bits5 (fun HT_ HW_ => ?_);generalize wr.drew = br at ap aa HB hHeld ⊢;refine Sh.qA 0 ?_; refine Sh.qA 1 ?_; refine Sh.qA 2 ?_; refine Sh.qA 3 ?_; refine Sh.qA 5 ?_; refine Sh.qA 8 ?_; refine Sh.qT 4 hHeld ?_; refine Sh.qA 6 ?_; refine Sh.qA 7 ?_; refine Sh.qT 9 hHeld ?_;refine Sh.oC 10 Tryz.func69 #[.int .i64 ac] fun K hK => ?_;with_reducible refine (Qas.calls ac am _ bp.out).mono ?_
      rintro e w' ⟨rfl, ⟨nd, rfl⟩⟩;refine ⟨_, rfl, ?_⟩;refine Sh.kN hK Sh.cs fun hHeld => ?_;clear hK K;refine Sh.qA 11 ?_;refine one_ (i := 12) (N := some 25) (Sh.nm 15 8191) rfl rfl (one_of HT_.out (by kernel_rfl)) (by decide) (fun K hK => ?_);refine value_ (w1 := ?_) (v := ?_) (by rfl) rfl ?_ ?_;rotate_left 2
      ·go_simp
       constructor
       ·rfl
       ·rfl
      refine Sh.kN hK ⟨(blk_cell (blk_alloc aa.out _) 0).trans rfl, (blk_cell (blk_alloc aa.out _) 1).trans rfl, (blk_cell (blk_alloc aa.out _) 2).trans rfl, (blk_cell (blk_alloc aa.out _) 3).trans rfl⟩ fun hHeld => ?_;clear hK K;refine one_ (i := 13) (N := some 26) (Sh.nm 15 16383) rfl rfl (one_of HT_.out (by kernel_rfl)) (by decide) (fun K hK => ?_);refine Kd.R_append_step (Kd.int .u64) (w0 := w) w.heap.size (by rfl) (.tmp 13) (.tmp 25) 69 75 (.int .u64 0) 8 rfl Tryz.underlying69 info75 rfl (by decide) (by omega) u5 aj (Go.bits .and .u64 (aw) am) [.int .u64 (Go.bits .and .u64 (aw) am)] (fun _ => True) (fun _ => False) rfl rfl ?aP (fun _ hk => hk.elim) ?aF ?aO ?aB ?aS ?aL ?_;(case aP => exact rfl);(case aB => exact Sh.bw);(case aF => exact (fun _ _ => trivial));(case aO => exact (Sh.rl ap.out));(case aS => exact (below_size Sh.bw));(case aL => have := aV.out; omega);intro bq bs ho hb hg hat;rw [← aX.out] at ho;have bj := am_ (blk_grown (g := ak) (o := .cells #[.int .i64 ac, .int .i64 ae, .slice aq ah.length ar, .slice au ai.length av] 33 (0, 0)) (Sh.pl aa.out) hg (Kd.R_ne ap.out aa.out (by decide)));have bk := am_ hb;have bl := am_ ho;clear aa;clear HB;clear ap;have aa := bj;have HB := bk;have aY := bl;clear bj bk bl;clear ho hb hg hat;refine Sh.kN hK Sh.cs fun hHeld => ?_;clear hK K;refine Sh.qA 14 ?_;refine done_ (done_of HT_.out (by kernel_rfl)) ?_;try go_wp2
      go_roundg k1
      case measure => have := bi.out; omega
      case rel => exact ⟨(aW), (wrap64 (af + 1)), (Sh.es), H', ⟨by have := bi.out; omega⟩, ⟨Sh.rl aY.out⟩, ⟨by refine Sh.pl ?_; exact aa.out⟩, ⟨Sh.bw⟩⟩
     ·rw [if_neg aZ] at H
      cases H
    ·rw [if_neg c9] at H
     cases H
   ·rw [if_neg c7] at H
    replace c7 := decide_eq_false c7;obtain rfl := Option.some.inj H;go_wp2;go_ret;exact ⟨_, Sh.eR, Sh.rl ap.out, Sh.bw⟩
def QaK.l0 : Nat → Int → List Int → Int → Int → Int → Int → List (S77) → List (S82) → Option (Int)
 | 0, _, _, _, _, _, _, _, _ => none
 | k + 1, x5, x8, x9, ah, aa, ac, ae, af => if ah < x9 then (if 0 ≤ ah then (if ah < (x8.length : Int) then (if 0 ≤ (wrap64 (aa * ah)) then (QaK.l0 k (Go.bits .or .i64 x5 (shl .i64 (wrap64 (rd x8 ah)) (wrap64 (aa * ah)))) x8 x9 (wrap64 (ah + 1)) aa ac ae af) else (none)) else (none)) else (none)) else (some x5)
def QaK.f (k : Nat) (aa : Int) (ac : Int) (ae : List (S77)) (af : List (S82)) (l1 : List Int) : Option (Int) := QaK.l0 k 0 l1 (l1.length : Int) 0 aa ac ae af
theorem QaK.mono_l : ∀ k, (∀ y0 y1 y2 y3 y4 y5 y6 y7, LeO (QaK.l0 k y0 y1 y2 y3 y4 y5 y6 y7) (QaK.l0 (k + 1) y0 y1 y2 y3 y4 y5 y6 y7))
 | 0 => fun _ _ _ _ _ _ _ _ r h => by simp [QaK.l0] at h
 | k + 1 => by
  have aa := QaK.mono_l k
  ·intro y0 y1 y2 y3 y4 y5 y6 y7
   unfold QaK.l0
   repeat' with_reducible first | apply aa | exact LeO.refl _ | exact LeO.none _ | apply LeO.ite | refine LeO.bind ?_ fun _ => ?_
theorem QaK.mono : ∀ a0 a1 a2 a3 a4 k, LeO (QaK.f k a0 a1 a2 a3 a4) (QaK.f (k + 1) a0 a1 a2 a3 a4) := by
 intro a0 a1 a2 a3 a4 k;have aa := QaK.mono_l k;unfold QaK.f;repeat' with_reducible first | apply aa | exact LeO.refl _ | exact LeO.none _ | apply LeO.ite | refine LeO.bind ?_ fun _ => ?_
theorem QaK.calls (k : Nat) (ah : Int) (ai : Int) (am : Option Addr) (ao : Nat) (ae : List (S77)) (ap : Option Addr) (aq : Nat) (af : List (S82)) (A1 : Option Addr) (c1 : Nat) (l1 : List Int) (r : Int) (w : World) (ar : Kd.C k77 w am ae.length ae) (au : ae.length ≤ ao) (av : Kd.C k82 w ap af.length af) (aw : af.length ≤ aq) (hr1 : Kd.C (Kd.int .u64) w A1 l1.length l1) (aL : l1.length ≤ c1) (h : QaK.f k ah ai ae af l1 = some r) :
  Calls Tryz.prog 64 #[.agg #[.int .i64 ah, .int .i64 ai, .slice am ae.length ao, .slice ap af.length aq], .slice A1 l1.length c1] w fun e w' => e = .returned (.int .i64 r) ∧ Below w.heap.size w w' := by
 have aT := Tryz.underlying33;have aM := am_ ar;have aN := am_ au;clear ar au;have aO := am_ av;have aP := am_ aw;clear av aw;have aU := am_ hr1;have aW := am_ aL;clear hr1 aL;have HB := am_ (Below.refl w.heap.size w);have H := h;clear h;unfold QaK.f at H;have H' := am_ H;clear H;go_enter Tryz.func64, Tryz.ntmps64;go_wp2_with (first | ((with_reducible refine Sh.d 2 ?_); refine Sh.bz w (N := 2) (cs := #[.int .i64 ah, .int .i64 ai, .slice am ae.length ao, .slice ap af.length aq]) (t := 33) (h := ?_); clear HB; intro aA w3 ac aQ HB));go_loopg [5, 10] k (fun kq v5 aV w' => ∃ (ak : Int) (aa : Int), v5 = .int .i64 ak ∧ aV = .int .i64 aa ∧ Aside0 (QaK.l0 kq ak l1 (l1.length : Int) aa ah ai ae af = some r) ∧ Aside0 (kq ≤ k) ∧ Aside0 (w'.heap[aA]? = some (.cells #[.int .i64 ah, .int .i64 ai, (.slice am ae.length ao), (.slice ap af.length aq)] 33 (0, 0))) ∧ Aside0 (Below w.heap.size w w'))
 case atStart => exact ⟨(0), (0), (Sh.es), (Sh.es), H', ⟨Nat.le_refl _⟩, ⟨by refine Sh.pl ?_; exact ac.out⟩, ⟨Sh.bw⟩⟩
 case round =>
  clear H';obtain ⟨ak, aa, rfl, rfl, HA, aR, ac, HB⟩ := hrel;cases gk with
  | zero => exact absurd HA.out (by simp [QaK.l0])
  | succ k1 =>
   have H := HA.out;clear HA;simp only [QaK.l0] at H;by_cases c4 : aa < (l1.length : Int)
   ·rw [if_pos c4] at H
    replace c4 := decide_eq_true c4;by_cases c5 : 0 ≤ aa
    ·rw [if_pos c5] at H
     replace c5 := decide_eq_true c5;by_cases c6 : aa < (l1.length : Int)
     ·rw [if_pos c6] at H
      replace c6 := decide_eq_true c6;obtain ⟨al, hj1⟩ : ∃ j_ : Int, (wrap64 (ah * aa)) = j_ := ⟨_, rfl⟩;replace H : (if 0 ≤ (al) then (QaK.l0 k1 (Go.bits .or .i64 ak (shl .i64 (wrap64 (rd l1 aa)) (al))) l1 (l1.length : Int) (wrap64 (aa + 1)) ah ai ae af) else (none)) = some r := by first | (rw [hj1] at H; exact H) | (simp only [hj1] at H ⊢; exact H)
      have hji7w : (IntKind.i64.wrap (ah * aa)) = al := (i64_w _).trans hj1;by_cases c8 : 0 ≤ (al)
      ·rw [if_pos c8] at H
       have c8b0 := eq_true c8;have c8b1 := decide_eq_true c8;clear c8;obtain ⟨az, hj2⟩ : ∃ j_ : Int, (shl .i64 (wrap64 (rd l1 aa)) (al)) = j_ := ⟨_, rfl⟩;replace H : (QaK.l0 k1 (Go.bits .or .i64 ak (az)) l1 (l1.length : Int) (wrap64 (aa + 1)) ah ai ae af) = some r := by first | (rw [hj2] at H; exact H) | (simp only [hj2] at H ⊢; exact H)
       have aB : (IntKind.i64.wrap ((wrap64 (rd l1 aa)) * 2 ^ min (al).toNat 64)) = az := hj2;have hji9z : (al) ≤ 64 → (IntKind.i64.wrap ((wrap64 (rd l1 aa)) * 2 ^ (al).toNat)) = az := shl_small hj2;have hji9y : (wrap64 ((wrap64 (rd l1 aa)) * 2 ^ min (al).toNat 64)) = az := (i64_w _).symm.trans aB;have hji9x : (al) ≤ 64 → (wrap64 ((wrap64 (rd l1 aa)) * 2 ^ (al).toNat)) = az := fun h_ => (i64_w _).symm.trans (hji9z h_);have H' := am_ H;clear H;have ax : 0 ≤ (aa : Int) := Sh.od;have ay : aa < (l1.length : Int) := Sh.od;obtain ⟨aS, aK, aj⟩ := Kd.at_int aU.out aa ax ay;cases aK;try replace aj := Sh.cw aj
       replace ax := eq_true ax;replace ay := eq_true ay;have aC := Sh.bc ac.out 0;have aD := Sh.bc ac.out 1;have aE := Sh.bc ac.out 2;have aF := Sh.bc ac.out 3;have aG := blk_frozen ac.out 0;have aH := blk_frozen ac.out 1;have aI := blk_frozen ac.out 2;have aJ := blk_frozen ac.out 3;go_wp2;go_roundg k1
       case measure => have := aR.out; omega
       case rel => exact ⟨(Go.bits .or .i64 ak (az)), (wrap64 (aa + 1)), (by first | rfl | (simp; done) | (simp only [← hj2] <;> (first | rfl | simp)) | (simp [*]; done)), (Sh.es), H', ⟨by have := aR.out; omega⟩, ⟨by refine Sh.pl ?_; exact ac.out⟩, ⟨Sh.bw⟩⟩
      ·rw [if_neg c8] at H
       cases H
     ·rw [if_neg c6] at H
      cases H
    ·rw [if_neg c5] at H
     cases H
   ·rw [if_neg c4] at H
    replace c4 := decide_eq_false c4;obtain rfl := Option.some.inj H;go_wp2;go_ret;exact ⟨Sh.eR, Sh.bw⟩
def QbH.f (l0 : List (Int)) : Option (List (Int)) := if l0.length < 17592186044416 then some l0 else none
theorem QbH.calls (A0 : Option Addr) (c0 : Nat) (l0 : List (Int)) (r : List (Int)) (w : World) (ae : Kd.C (Kd.int .u64) w A0 l0.length l0) (hc0 : l0.length ≤ c0) (h : QbH.f l0 = some r) :
  Calls Tryz.prog 87 #[.slice A0 l0.length c0] w fun e w' => ∃ ah : Value, e = .returned (ah) ∧ Kd.R (Kd.int .u64) 75 w' w.heap.size (fun _ => True) ah r ∧ Below w.heap.size w w' := by
 have hlim : l0.length < 17592186044416 := by
  rcases Nat.lt_or_ge l0.length 17592186044416 with h1 | h1
  ·exact h1
  ·rw [QbH.f, if_neg (by omega)] at h; cases h
 rw [QbH.f, if_pos hlim] at h;obtain rfl := Option.some.inj h;clear h;cases A0 with
 | none =>
  have hl : l0 = [] := by
   rcases l0 with _ | ⟨x, t⟩
   ·rfl
   ·obtain ⟨ad, e, _⟩ := ae.2.2 (by simp)
    cases e
  subst hl;have he : ∀ (w : World) (n c : Nat), (binOp .eql 69 (.slice none n c) (.slice none 0 0)).run Tryz.prog w = .ok (.bool true) w := fun _ _ _ => rfl;go_enter Tryz.func87, Tryz.ntmps87;go_wp2;all_goals (go_ret; exact ⟨_, rfl, Kd.R_nil _ _ _ _ _, Below.refl _ _⟩)
 | some a0 =>
  have al := am_ ae;have ao := am_ hc0;clear ae hc0;have HB := am_ (Below.refl w.heap.size w);have LM := am_ hlim;clear hlim;have he : ∀ (w : World) (n c : Nat), (binOp .eql 69 (.slice (some a0) n c) (.slice none 0 0)).run Tryz.prog w = .ok (.bool false) w := fun _ _ _ => rfl;go_enter Tryz.func87, Tryz.ntmps87;go_wp2_with (first | ((with_reducible refine Sh.d 5 ?_); refine Kd.R_lit (Kd.int .u64) _ 75 ?hg (N := 5) ?hd (xs := ([] : List (Int))) (inner := []) (ok := fun _ => True) (okp := fun _ => True) ?hr ?hp (fun _ hk => hk) trivial (Below.refl _ _) (Nat.le_refl _) (by simp) ?_; (case hd => rfl); (case hg => rfl); (case hr => first | (go_simp; done) | (go_simp; rfl)); (case hp => exact (Reps.none _ _)); intro af w3 ai hb hg_ hnew_; clear hg_ hnew_; have aa := am_ (Kd.R_lower ai (below_size Sh.bw)); replace HB := Sh.hb hb; clear hb ai) | ((with_reducible refine gate_builtin (b := .append) (xs := #[.tmp 5, .tmp 6]) rfl ?_); at_builtin; refine Kd.R_append_rows (Kd.int .u64) (w0 := w) w.heap.size rfl (.tmp 5) (.tmp 6) 69 75 (.int .u64 0) 8 rfl Tryz.underlying69 info75 rfl (by decide) (by omega) af [] l0 _ _ _ (fun _ => True) (fun _ => False) rfl rfl ?aO ?aR (fun _ _ h => h) (fun _ h => h.elim) ?aF ?aB ?aS ?aL ?_; (case aR => repeat (first | exact (Kd.C_below al.out HB.out) | (with_reducible first | refine Kd.C_alloc ?_ _ | refine Kd.C_drewN ?_ _ | refine Kd.C_drew ?_))); (case aB => exact Sh.bw); (case aF => exact (fun _ _ => trivial)); (case aO => exact (Sh.rl aa.out)); (case aS => exact (below_size Sh.bw)); (case aL => have := LM.out; simp only [List.length_nil]; omega); intro am w5 ho hb hg hat; rw [List.nil_append] at ho; have aj := am_ hb; have ak := am_ ho; clear HB; clear aa; have HB := aj; have ac := ak; clear aj ak; clear ho hb hg hat));go_ret;exact ⟨_, rfl, ac.out, HB.out⟩
def QaE.l0 : Nat → List Int → List Int → List (S100) → Int → Int → Int → Int → List (S77) → List (S82) → Option (List Int)
 | 0, _, _, _, _, _, _, _, _, _ => none
 | k + 1, x2, x7, ai, ak, ah, aa, ac, ae, af => if ah < ak then (if 0 ≤ ah then (if ah < (ai.length : Int) then ((Qab.f k aa ((rd_T100 ai ah).f1) x2).bind fun aj => (if 0 ≤ ((rd_T100 ai ah).f0) then (if ((rd_T100 ai ah).f0) < (x7.length : Int) then (QaE.l0 k x2 (x7.set (((rd_T100 ai ah).f0) : Int).toNat aj) ai ak (wrap64 (ah + 1)) aa ac ae af) else (none)) else (none))) else (none)) else (none)) else (some x7)
def QaE.f (k : Nat) (ac : Int) (ae : Int) (af : List (S77)) (ah : List (S82)) (aj : List (S77)) (aa : List (S100)) (l2 : List Int) : Option (List Int) := (QbH.f l2).bind fun ai => (QaE.l0 k l2 ai aa (aa.length : Int) 0 ac ae af ah)
theorem QaE.mono_l : ∀ k, (∀ y0 y1 y2 y3 y4 y5 y6 y7 y8, LeO (QaE.l0 k y0 y1 y2 y3 y4 y5 y6 y7 y8) (QaE.l0 (k + 1) y0 y1 y2 y3 y4 y5 y6 y7 y8))
 | 0 => fun _ _ _ _ _ _ _ _ _ r h => by simp [QaE.l0] at h
 | k + 1 => by
  have aa := QaE.mono_l k
  ·intro y0 y1 y2 y3 y4 y5 y6 y7 y8
   unfold QaE.l0
   repeat' with_reducible first | apply aa | apply Qab.mono | exact LeO.refl _ | exact LeO.none _ | apply LeO.ite | refine LeO.bind ?_ fun _ => ?_
theorem QaE.mono : ∀ a0 a1 a2 a3 a4 a5 a6 k, LeO (QaE.f k a0 a1 a2 a3 a4 a5 a6) (QaE.f (k + 1) a0 a1 a2 a3 a4 a5 a6) := by
 intro a0 a1 a2 a3 a4 a5 a6 k;have aa := QaE.mono_l k;unfold QaE.f;repeat' with_reducible first | apply aa | apply Qab.mono | exact LeO.refl _ | exact LeO.none _ | apply LeO.ite | refine LeO.bind ?_ fun _ => ?_
def QaE.T5 : Bool × List (List Nat × List Nat) := (true, [([], []), ([], []), ([1], [1]), ([], []), ([3], [3]), ([], []), ([5], [5]), ([], []), ([4, 6, 7], [4, 6, 7]), ([0, 2, 0, 1, 2, 3, 4, 5, 6, 7, 8], [0, 2]), ([9, 8, 8, 0, 1, 2, 3, 4, 5, 6, 7, 8], [8, 9])])
def QaE.B5 : List Nat := [0, 0, 2, 0, 8, 0, 32, 0, 248, 511, 1023]
theorem QaE.tab5 : rtab .any (opsOf Tryz.f65 5) = QaE.T5 := by kernel_rfl
theorem QaE.bits5 : waitsOk QaE.T5.2 QaE.B5 = true := by kernel_rfl
theorem QaE.calls (k : Nat) (ar : Int) (av : Int) (aD : Option Addr) (aE : Nat) (ap : List (S77)) (aF : Option Addr) (aG : Nat) (aq : List (S82)) (aL : Option Addr) (aM : Nat) (aw : List (S77)) (aO : Option Addr) (aN : Nat) (ac : List (S100)) (A2 : Option Addr) (c2 : Nat) (l2 : List Int) (r : List Int) (w : World) (aR : Kd.C k77 w aD ap.length ap) (aS : ap.length ≤ aE) (aT : Kd.C k82 w aF aq.length aq) (aU : aq.length ≤ aG) (aV : Kd.C k77 w aL aw.length aw) (aW : aw.length ≤ aM) (aX : Kd.C k100 w aO ac.length ac) (aY : ac.length ≤ aN) (hr2 : Kd.C (Kd.int .u64) w A2 l2.length l2) (bU : l2.length ≤ c2) (h : QaE.f k ar av ap aq aw ac l2 = some r) :
  Calls Tryz.prog 65 #[.agg #[.int .i64 ar, .int .i64 av, .slice aD ap.length aE, .slice aF aq.length aG], .agg #[.slice aL aw.length aM, .slice aO ac.length aN], .slice A2 l2.length c2] w fun e w' => ∃ bV : Value, e = .returned (bV) ∧ Kd.R (Kd.int .u64) 75 w' w.heap.size (fun _ => True) bV r ∧ Below w.heap.size w w' := by
 have ck := Tryz.underlying33;have cl := Tryz.underlying82;have bW := Tryz.underlying100;have bX := am_ aR;have bY := am_ aS;clear aR aS;have bZ := am_ aT;have b0 := am_ aU;clear aT aU;have b1 := am_ aV;have b6 := am_ aW;clear aV aW;have bk := am_ aX;have b7 := am_ aY;clear aX aY;have b8 := am_ hr2;have b9 := am_ bU;clear hr2 bU;have HB := am_ (Below.refl w.heap.size w);have H := h;clear h;unfold QaE.f at H;obtain ⟨bl, A4, H⟩ := Sh.ba H;have H' := am_ H;clear H;go_enter Tryz.func65, Tryz.ntmps65;go_wp2_with (first | ((with_reducible refine Sh.d 3 ?_); refine Sh.bz w (N := 3) (cs := #[.int .i64 ar, .int .i64 av, .slice aD ap.length aE, .slice aF aq.length aG]) (t := 33) (h := ?_); clear HB; intro au w5 ae ca HB) | ((with_reducible refine Sh.d 4 ?_); refine Sh.bx (N := 4) (cs := #[.slice aL aw.length aM, .slice aO ac.length aN]) (t := 82) (h := ?_); intro aZ hg w6 hbox hb; have af := am_ hbox; have cb := Sh.ag w hg; replace HB := Sh.hb hb; have aH := am_ (Sh.nl hg ae.out); have aI := am_ (Sh.ng hg ae.out); replace ae := Sh.ab ae hb; clear hb hbox hg) | ((with_reducible refine Sh.k 87 ?_); refine Sh.gL (some 11) Tryz.func87 #[.slice A2 l2.length c2] (h := ?_); (with_reducible refine (QbH.calls _ _ l2 bl _ (Sh.cB b8.out) b9.out A4.out).mono ?_); rintro e w7 ⟨bm, rfl, cd, hb⟩; refine ⟨_, rfl, ?_⟩; have bn := am_ (Kd.R_lower cd (below_size Sh.bw)); replace ae := Sh.ab ae hb; replace af := Sh.ab af hb; replace HB := Sh.hb hb; (try clear hb); (try clear hk); (try clear cd); have cm := aI.out; have cn := aH.out; obtain ⟨a1, a2, a6, a7⟩ := Sh.b2 af.out));go_loopg [15] k (fun kq co w' => ∃ (ay : List Int) (aa : Int), co = .int .i64 aa ∧ Aside0 (QaE.l0 kq l2 ay ac (ac.length : Int) aa ar av ap aq = some r) ∧ Aside0 (kq ≤ k) ∧ Aside0 (Kd.R (Kd.int .u64) 75 w' w.heap.size (fun _ => True) bm ay) ∧ Aside0 (w'.heap[au]? = some (.cells #[.int .i64 ar, .int .i64 av, (.slice aD ap.length aE), (.slice aF aq.length aG)] 33 (0, 0))) ∧ Aside0 (w'.heap[aZ]? = some (.cells #[(.slice aL aw.length aM), (.slice aO ac.length aN)] 82 (0, 0))) ∧ Aside0 (Below w.heap.size w w'))
 case atStart => exact ⟨(bl), (0), (Sh.es), H', ⟨Nat.le_refl _⟩, ⟨Sh.rl bn.out⟩, ⟨by refine Sh.pl ?_; exact ae.out⟩, ⟨by refine Sh.pl ?_; exact af.out⟩, ⟨Sh.bw⟩⟩
 case round =>
  clear H';try clear a1
  try clear a2
  try clear a6
  try clear a7
  obtain ⟨ay, aa, rfl, HA, ce, ak, ae, af, HB⟩ := hrel;cases gk with
  | zero => exact absurd HA.out (by simp [QaE.l0])
  | succ k1 =>
   have H := HA.out;clear HA;simp only [QaE.l0] at H;by_cases bi : aa < (ac.length : Int)
   ·rw [if_pos bi] at H
    replace bi := decide_eq_true bi;by_cases bv : 0 ≤ aa
    ·rw [if_pos bv] at H
     replace bv := decide_eq_true bv;by_cases bA : aa < (ac.length : Int)
     ·rw [if_pos bA] at H
      replace bA := decide_eq_true bA;obtain ⟨a8, cp, H⟩ := Sh.ba H;by_cases bB : 0 ≤ ((rd_T100 ac aa).f0)
      ·rw [if_pos bB] at H
       replace bB := decide_eq_true bB;by_cases bC : ((rd_T100 ac aa).f0) < (ay.length : Int)
       ·rw [if_pos bC] at H
        replace bC := decide_eq_true bC;obtain ⟨bo, ax⟩ : ∃ y_ : List Int, y_ = (ay.set (((rd_T100 ac aa).f0) : Int).toNat a8) := ⟨_, rfl⟩;replace H : (QaE.l0 k1 l2 bo ac (ac.length : Int) (wrap64 (aa + 1)) ar av ap aq) = some r := by first | (rw [ax]; with_reducible exact H) | (have bH := (Option.bind_some _ _).symm.trans H; rw [ax]; with_reducible exact bH) | (have bH := (Option.bind_some _ _).symm.trans H; with_reducible exact bH) | with_reducible exact H | (rw [ax]; exact H) | exact H
        have bp := am_ ax;clear ax;have H' := am_ H;clear H;have bf : 0 ≤ (aa : Int) := Sh.od;have bg : aa < (ac.length : Int) := Sh.od;obtain ⟨bq, ai, aj, bI, az, aA, aB, aC⟩ := at_T100 bk.out aa bf bg;cases bI;try replace az := Sh.cw az
        try replace aA := Sh.cw aA
        have aP := am_ aC;have aQ := am_ aB;clear aC aB;replace bf := eq_true bf;replace bg := eq_true bg;try go_wp2_with (first | ((with_reducible refine Sh.d 9 ?_); refine Sh.bx (N := 9) (cs := #[.int .i64 0, .slice none 0 0]) (t := 100) (h := ?_); intro ah hg bj hbox hb; replace ak := am_ (Kd.R_below (Sh.rl ak.out) hb); have al := am_ hbox; have cf := Sh.ag w hg; replace HB := Sh.hb hb; have am := am_ (Sh.nl hg ae.out); have aJ := am_ (Sh.ng hg ae.out); replace ae := Sh.ab ae hb; have ao := am_ (Sh.nl hg af.out); have aK := am_ (Sh.ng hg af.out); replace af := Sh.ab af hb; clear hb hbox hg; have cg := aJ.out; have ch := am.out; have ci := aK.out; have cj := ao.out; obtain ⟨bD, bE, bF, bG⟩ := Sh.b2 al.out))
        have bJ : Aside0 (Kd.R (Kd.int .u64) 75 ((bj.setCell ⟨ah, 0, none⟩ (.int .i64 ((rd_T100 ac aa).f0))).setCell ⟨ah, 1, none⟩ (.slice ai ((rd_T100 ac aa).f1).length aj)) w.heap.size (fun _ => True) bm ay) := ⟨Sh.rl (Kd.R_mono (Kd.R_far (p := ⟨ah, 1, none⟩) (Kd.R_far (p := ⟨ah, 0, none⟩) (Kd.R_types ak.out al.out (by decide)) (fun _ hk => hk.2) (.int .i64 ((rd_T100 ac aa).f0))) (fun _ hk => hk.2) (.slice ai ((rd_T100 ac aa).f1).length aj)) (fun _ hk => trivial))⟩;have bK : Aside0 (((bj.setCell ⟨ah, 0, none⟩ (.int .i64 ((rd_T100 ac aa).f0))).setCell ⟨ah, 1, none⟩ (.slice ai ((rd_T100 ac aa).f1).length aj)).heap[au]? = some (.cells #[.int .i64 ar, .int .i64 av, .slice aD ap.length aE, .slice aF aq.length aG] 33 (0, 0))) := ⟨by refine Sh.pl ?_; refine blk_far ?_ am.out _; refine Sh.pl ?_; refine blk_far ?_ am.out _; refine Sh.pl ?_; exact ae.out⟩;have bL : Aside0 (((bj.setCell ⟨ah, 0, none⟩ (.int .i64 ((rd_T100 ac aa).f0))).setCell ⟨ah, 1, none⟩ (.slice ai ((rd_T100 ac aa).f1).length aj)).heap[aZ]? = some (.cells #[.slice aL aw.length aM, .slice (some bq) ac.length aN] 82 (0, 0))) := ⟨by refine Sh.pl ?_; refine blk_far ?_ ao.out _; refine Sh.pl ?_; refine blk_far ?_ ao.out _; refine Sh.pl ?_; exact af.out⟩;have bM : Aside0 (((bj.setCell ⟨ah, 0, none⟩ (.int .i64 ((rd_T100 ac aa).f0))).setCell ⟨ah, 1, none⟩ (.slice ai ((rd_T100 ac aa).f1).length aj)).heap[ah]? = some (.cells #[.int .i64 ((rd_T100 ac aa).f0), .slice ai ((rd_T100 ac aa).f1).length aj] 100 (0, 0))) := ⟨by refine Sh.pl ?_; refine blk_put (cs := #[.int .i64 ((rd_T100 ac aa).f0), .slice none 0 0]) ?_ 1 _ rfl; refine Sh.pl ?_; refine blk_put (cs := #[.int .i64 0, .slice none 0 0]) ?_ 0 _ rfl; refine Sh.pl ?_; exact al.out⟩;have bN : Aside0 (Below w.heap.size w ((bj.setCell ⟨ah, 0, none⟩ (.int .i64 ((rd_T100 ac aa).f0))).setCell ⟨ah, 1, none⟩ (.slice ai ((rd_T100 ac aa).f1).length aj))) := ⟨Sh.bw⟩;(try clear ak);(try clear ae);(try clear af);(try clear al);(try clear HB);generalize ((bj.setCell ⟨ah, 0, none⟩ (.int .i64 ((rd_T100 ac aa).f0))).setCell ⟨ah, 1, none⟩ (.slice ai ((rd_T100 ac aa).f1).length aj)) = cq at bJ bK bL bM bN ⊢;have ak := bJ;have ae := bK;have af := bL;have al := bM;have HB := bN;clear bJ bK bL bM bN;replace ak := am_ (Kd.R_drew ak.out);replace ae := am_ (blk_drew ae.out);replace af := am_ (blk_drew af.out);replace al := am_ (blk_drew al.out);replace HB := am_ (below_drew1 HB.out);refine start_ (n := 11) (S := fun w' => w'.cell? ⟨ah, 0, none⟩ = some (.int .i64 ((rd_T100 ac aa).f0)) ∧ w'.cell? ⟨ah, 1, none⟩ = some (.slice ai ((rd_T100 ac aa).f1).length aj) ∧ w'.cell? ⟨au, 0, none⟩ = some (.int .i64 ar) ∧ w'.cell? ⟨au, 1, none⟩ = some (.int .i64 av) ∧ w'.cell? ⟨au, 2, none⟩ = some (.slice aD ap.length aE) ∧ w'.cell? ⟨au, 3, none⟩ = some (.slice aF aq.length aG)) (ds := [10]) (Sh.nm 11 0) (by kernel_rfl) rfl rfl Sh.cs (fun hHeld => ?_); refine with_tabW QaE.tab5 QaE.bits5 (fun HT_ HW_ => ?_);generalize cq.drew = cy at ak ae af al HB hHeld ⊢;refine Sh.qA 0 ?_; refine Sh.qA 1 ?_; refine Sh.qA 3 ?_; refine Sh.qA 5 ?_; refine Sh.qA 7 ?_; refine Sh.qT 2 hHeld ?_; refine Sh.qT 4 hHeld ?_; refine Sh.qT 6 hHeld ?_;refine Sh.oC 8 Tryz.func68 #[.int .i64 ar, .slice ai ((rd_T100 ac aa).f1).length aj, .slice A2 l2.length c2] fun K hK => ?_;with_reducible refine (Qab.calls k1 ar _ _ ((rd_T100 ac aa).f1) _ _ l2 a8 _ (Sh.cB aP.out) aQ.out (Sh.cB b8.out) b9.out cp.out).mono ?_
        rintro e cz ⟨rfl, hb⟩;refine ⟨_, rfl, ?_⟩;replace ak := am_ (Kd.R_below (Sh.rl ak.out) hb);replace ae := Sh.ab ae hb;replace af := Sh.ab af hb;replace al := Sh.ab al hb;replace HB := Sh.hb hb;(try clear hb);have bO : 0 ≤ (((rd_T100 ac aa).f0) : Int) := Sh.od;have bP : (((rd_T100 ac aa).f0) : Int) < ((ay.length : Int) : Int) := Sh.od;obtain ⟨cr, ct, br, bs, bQ, cu, bu⟩ := Kd.R_form ak.out (by omega);(first | cases br | (injection br with ea_ en_ ec_; (first | subst ea_ | (injection ea_ with ea_; subst ea_)); subst ec_; clear en_));have cv := am_ bs;have cx := am_ bu;clear bs bQ bu;obtain ⟨bR, bS⟩ := Kd.R_celln 0 ak.out (((rd_T100 ac aa).f0) : Int) bO bP;replace bO := eq_true bO;replace bP := eq_true bP;have bh := Kd.R_putn ak.out (((rd_T100 ac aa).f0) : Int) a8;rw [← bp.out] at bh;have bT := am_ bh;clear bh;refine Sh.kN hK Sh.cs fun hHeld => ?_;clear hK K;refine Sh.qA 9 ?_;refine last_ (i := 10) (N := none) (Sh.nm 11 2047) rfl rfl (one_of HT_.out (by kernel_rfl)) (by decide) (fun K hK => ?_);refine skip_ (w1 := ?_) (by rfl) rfl ?_ ?_;rotate_left
        ·go_simp
         rfl
        refine hK.out _ _ ?_;clear hK K;refine done_ (done_of HT_.out (by kernel_rfl)) ?_;try go_wp2
        go_roundg k1
        case measure => have := ce.out; omega
        case rel => exact ⟨(bo), (wrap64 (aa + 1)), (Sh.es), H', ⟨by have := ce.out; omega⟩, ⟨by (with_reducible repeat (first | apply Kd.R_alloc | apply Kd.R_drewN | apply Kd.R_drew)); exact bT.out⟩, ⟨by refine Sh.pl ?_; refine blk_far ?_ (by have h_ := Kd.R_ne ak.out ae.out (by decide); intro e_; exact h_ (by rw [e_]; rfl)) _; refine Sh.pl ?_; exact ae.out⟩, ⟨by refine Sh.pl ?_; refine blk_far ?_ (by have h_ := Kd.R_ne ak.out af.out (by decide); intro e_; exact h_ (by rw [e_]; rfl)) _; refine Sh.pl ?_; exact af.out⟩, ⟨Sh.bw⟩⟩
       ·rw [if_neg bC] at H
        cases H
      ·rw [if_neg bB] at H
       cases H
     ·rw [if_neg bA] at H
      cases H
    ·rw [if_neg bv] at H
     cases H
   ·rw [if_neg bi] at H
    replace bi := decide_eq_false bi;obtain rfl := Option.some.inj H;go_wp2;go_ret;exact ⟨_, Sh.eR, Sh.rl ak.out, Sh.bw⟩
def QbK.f (l0 : List Int) : Option (List Int) := if l0.length < 4611686018427387904 then some (l0.mergeSort fun x y => decide (x ≤ y)) else none
theorem QbK.calls (ac : Nat → Prop) (aa : Value) (l0 : List Int) (r1 : List Int) (w0 w : World) (hB : Below w0.heap.size w0 w) (ae : Kd.R (Kd.int .i64) 3 w w0.heap.size ac aa l0) (h : QbK.f l0 = some r1) :
  Calls Tryz.prog 66 #[aa] w fun e w' => e = .returned (.tuple #[]) ∧ Kd.R (Kd.int .i64) 3 w' w0.heap.size (fun k_ => (ac k_ ∨ w.heap.size ≤ k_)) aa r1 ∧ Below w0.heap.size w0 w' ∧ Kept w w' (fun k_ => ac k_) := by
 have hl : l0.length < 4611686018427387904 := by
  rcases Nat.lt_or_ge l0.length 4611686018427387904 with h1 | h1
  ·exact h1
  ·rw [QbK.f, if_neg (by omega)] at h; cases h
 rw [QbK.f, if_pos hl] at h;obtain rfl := Option.some.inj h;have hok := ae.1;obtain ⟨hlen, ⟨rfl, hz⟩ | ⟨g, cap, cur, rfl, hbase, hb, h1, h2, h3, h4⟩⟩ := Kd.own_of_R ae
 ·have hn : l0 = [] := List.length_eq_zero_iff.1 hz
  subst hn;refine (Tryz.slices_Sort_int_none none 0 w).mono ?_;rintro e w' ⟨rfl, rfl⟩;exact ⟨rfl, by rw [List.mergeSort_nil]; exact Kd.R_nil _ _ _ _ _, hB, Kept.refl _ _⟩
 ·have ht : cur.toList.take l0.length = l0.map (Value.int .i64) := by rw [Nat.mul_one] at h4; exact h4
  have af : (l0.mergeSort fun x y => decide (x ≤ y)).length = l0.length := List.length_mergeSort l0;refine (Tryz.slices_Sort_int g 0 cap l0 w (holds_of_blockI hb ht) (blk_lt hb) hl).mono ?_;rintro e w' ⟨rfl, n, os, rfl⟩;have hs := ownsRow_sortedI (n := n) (os := os) (ts := l0.mergeSort fun x y => decide (x ≤ y)) af hbase hb h1 h2 h3;have hg := grownBy_sortedI (w := w) (g := g) (n := n) (os := os) (l0.mergeSort fun x y => decide (x ≤ y)).toArray;refine ⟨rfl, Kd.R_of_own (h1 := fun _ => rfl) ?_ (fun k hk => .inl (hok k hk)), hB.grown hg hB.size (fun j hj => by cases hj; exact hbase), Kept.of_grown (S := fun k_ => ac k_) hg (Kept.refl _ _) (fun k e_ => .inl (hok k e_))⟩;rw [af];exact hs
def QbI.f (l0 : List Int) : Option (List Int) := if l0.length < 4611686018427387904 then some (Go.Lib.compact l0) else none
theorem QbI.calls (ac : Nat → Prop) (aa : Value) (l0 : List Int) (r1 : List Int) (w0 w : World) (hB : Below w0.heap.size w0 w) (ae : Kd.R (Kd.int .i64) 3 w w0.heap.size ac aa l0) (h : QbI.f l0 = some r1) :
  Calls Tryz.prog 67 #[aa] w fun e w' => ∃ af : Value, e = .returned (af) ∧ Kd.R (Kd.int .i64) 3 w' w0.heap.size (fun k_ => (ac k_ ∨ w.heap.size ≤ k_)) af r1 ∧ Below w0.heap.size w0 w' ∧ Kept w w' (fun k_ => ac k_) := by
 have hl : l0.length < 4611686018427387904 := by
  rcases Nat.lt_or_ge l0.length 4611686018427387904 with h1 | h1
  ·exact h1
  ·rw [QbI.f, if_neg (by omega)] at h; cases h
 rw [QbI.f, if_pos hl] at h;obtain rfl := Option.some.inj h;have hok := ae.1;have hown := Kd.own_of_R ae;obtain ⟨hlen, ⟨rfl, hz⟩ | ⟨g, cap, cur, rfl, hbase, hb, h1, h2, h3, h4⟩⟩ := hown
 ·have hn : l0 = [] := List.length_eq_zero_iff.1 hz
  subst hn;refine (Tryz.slices_Compact_int_empty none 0 w).mono ?_;rintro e w' ⟨rfl, rfl⟩;exact ⟨_, rfl, Kd.R_nil _ _ _ _ _, hB, Kept.refl _ _⟩
 ·have ht : cur.toList.take l0.length = l0.map (Value.int .i64) := by rw [Nat.mul_one] at h4; exact h4
  have hle := Go.Lib.compact_length_le l0;have hown := Kd.own_of_R ae;refine (Tryz.slices_Compact_int g 0 cap l0 w (holds_of_blockI hb ht) (by omega) h1).mono ?_;rintro e w' ⟨rfl, q, rfl⟩;have hc := Go.Lib.ownsRow_putRow (enc := Value.int .i64) (q := q) (k := (Go.Lib.compact l0).length) (ys := Go.Lib.compact l0 ++ List.replicate (l0.length - (Go.Lib.compact l0).length) 0) hown (by simp; omega) (by omega);rw [List.take_left] at hc;have hg : w.grownBy (Go.Sort.putRow (Value.int .i64) (Go.Sort.ahead w q) g 0 (Go.Lib.compact l0 ++ List.replicate (l0.length - (Go.Lib.compact l0).length) 0).toArray) (some g) := by
   have := grownBy_sortedI (w := w) (g := g) (n := q) (os := #[]) (Go.Lib.compact l0 ++ List.replicate (l0.length - (Go.Lib.compact l0).length) 0).toArray;rwa [Go.Sort.grow_empty] at this
  exact ⟨_, rfl, Kd.R_of_own (h1 := fun _ => rfl) hc (fun k hk => .inl (hok k hk)), Go.Lib.below_putRow hB hbase, Kept.of_grown (S := fun k_ => ac k_) hg (Kept.refl _ _) (fun k e_ => .inl (hok k e_))⟩
end Go.Proofs.YtdbfcmoifpgnbaaGreat.P
