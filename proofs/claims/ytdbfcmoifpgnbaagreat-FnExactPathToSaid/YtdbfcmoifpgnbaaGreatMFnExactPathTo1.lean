/- Go functions of this seat as Lean functions, and the proofs that the calls come to what these say; printed by a program of this session. No condition. -/
import Derived.Test.YtdbfcmoifpgnbaaGreatP0
set_option linter.unusedVariables false
set_option linter.unusedSimpArgs false
set_option maxHeartbeats 40000000
set_option maxRecDepth 100000
namespace Go.Proofs.YtdbfcmoifpgnbaaGreat.P
open Go.RowKit Go.Proofs.YtdbfcmoifpgnbaaGreatW.PrintWords Go.Proofs.YtdbfcmoifpgnbaaGreatW.PrintLast Go.Proofs.YtdbfcmoifpgnbaaGreatW.PrintMore Go.Proofs.YtdbfcmoifpgnbaaGreat.Hof
attribute [local go_sem] max2_int min2_int max_two min_two max_three min_three max_four min_four
def Qa8.f (l0 : List (S79)) (a1 : Int) : Option (Int) := if (wrap64 (a1 - (l0.length : Int))) < 0 then (some (-1)) else (some (wrap64 (a1 - (l0.length : Int))))
theorem Qa8.calls (A0 : Option Addr) (c0 : Nat) (l0 : List (S79)) (a1 : Int) (r : Int) (w : World) (aa : Kd.C k79 w A0 l0.length l0) (hc0 : l0.length ≤ c0) (h : Qa8.f l0 a1 = some r) :
  Calls Tryz.prog 13 #[.slice A0 l0.length c0, .int .i64 a1] w fun e w' => e = .returned (.int .i64 r) ∧ Drawn0 w w' := by
 have ac := am_ aa;have ae := am_ hc0;clear aa hc0;have H := h;clear h;unfold Qa8.f at H;by_cases c3 : (wrap64 (a1 - (l0.length : Int))) < 0
 ·rw [if_pos c3] at H
  replace c3 := decide_eq_true c3;obtain rfl := Option.some.inj H;go_enter Tryz.func13, Tryz.ntmps13;go_wp2;go_ret;exact ⟨Sh.es, Sh.dr⟩
 ·rw [if_neg c3] at H
  replace c3 := decide_eq_false c3;obtain rfl := Option.some.inj H;go_enter Tryz.func13, Tryz.ntmps13;go_wp2;go_ret;exact ⟨Sh.es, Sh.dr⟩
def Qbz.f (ae : Int) (ac : List (S79)) (a1 : Int) : Option (Int) := (Qa8.f ac a1).bind fun aa => (if aa < 0 then (some (-1)) else (some aa))
theorem Qbz.calls (ah : Int) (ac : Option Addr) (ae : Nat) (aa : List (S79)) (a1 : Int) (r : Int) (w : World) (ai : Kd.C k79 w ac aa.length aa) (aj : aa.length ≤ ae) (h : Qbz.f ah aa a1 = some r) :
  Calls Tryz.prog 71 #[.agg #[.int .i64 ah, .slice ac aa.length ae], .int .i64 a1] w fun e w' => e = .returned (.int .i64 r) ∧ Below w.heap.size w w' := by
 have aA := Tryz.underlying110;have ak := am_ ai;have al := am_ aj;clear ai aj;have HB := am_ (Below.refl w.heap.size w);have H := h;clear h;unfold Qbz.f at H;obtain ⟨am, A3, H⟩ := Sh.ba H;by_cases c4 : am < 0
 ·rw [if_pos c4] at H
  replace c4 := decide_eq_true c4;obtain rfl := Option.some.inj H;go_enter Tryz.func71, Tryz.ntmps71;go_wp2_with (first | ((with_reducible refine Sh.d 2 ?_); refine Sh.bz w (N := 2) (cs := #[.int .i64 ah, .slice ac aa.length ae]) (t := 110) (h := ?_); clear HB; intro ao w5 af ap HB; obtain ⟨aq, ar, au, av⟩ := Sh.b2 af.out) | ((with_reducible refine Sh.k 13 ?_); refine Sh.gD (some 8) Tryz.func13 #[.slice ac aa.length ae, .int .i64 a1] (Qa8.calls _ _ aa a1 am _ (Sh.cB ak.out) al.out A3.out) fun nd => ?_));go_ret;exact ⟨Sh.eR, Sh.bw⟩
 ·rw [if_neg c4] at H
  replace c4 := decide_eq_false c4;obtain rfl := Option.some.inj H;go_enter Tryz.func71, Tryz.ntmps71;go_wp2_with (first | ((with_reducible refine Sh.d 2 ?_); refine Sh.bz w (N := 2) (cs := #[.int .i64 ah, .slice ac aa.length ae]) (t := 110) (h := ?_); clear HB; intro ao w7 af ap HB; obtain ⟨aw, ax, ay, az⟩ := Sh.b2 af.out) | ((with_reducible refine Sh.k 13 ?_); refine Sh.gD (some 8) Tryz.func13 #[.slice ac aa.length ae, .int .i64 a1] (Qa8.calls _ _ aa a1 am _ (Sh.cB ak.out) al.out A3.out) fun nd => ?_));go_ret;exact ⟨Sh.eR, Sh.bw⟩
def QaL.l0 : Nat → List (S110) → Int → Int → Option (Int)
 | 0, _, _, _ => none
 | k + 1, x0, x1, x5 => if x5 < (x0.length : Int) then (if 0 ≤ x5 then ((Qbz.f ((rd_T110 x0 x5).f0) ((rd_T110 x0 x5).f1) x1).bind fun aa => (if aa < 0 then (some (-1)) else (QaL.l0 k x0 aa (wrap64 (x5 + 1))))) else (none)) else (some x1)
def QaL.f (k : Nat) (l0 : List (S110)) (a1 : Int) : Option (Int) := if (wrap64 (a1 - (l0.length : Int))) < 0 then (some (-1)) else (QaL.l0 k l0 (wrap64 (a1 - (l0.length : Int))) 0)
theorem QaL.mono_l : ∀ k, (∀ y0 y1 y2, LeO (QaL.l0 k y0 y1 y2) (QaL.l0 (k + 1) y0 y1 y2))
 | 0 => fun _ _ _ r h => by simp [QaL.l0] at h
 | k + 1 => by
  have aa := QaL.mono_l k
  ·intro y0 y1 y2
   unfold QaL.l0
   repeat' with_reducible first | apply aa | exact LeO.refl _ | exact LeO.none _ | apply LeO.ite | refine LeO.bind ?_ fun _ => ?_
theorem QaL.mono : ∀ a0 a1 k, LeO (QaL.f k a0 a1) (QaL.f (k + 1) a0 a1) := by
 intro a0 a1 k;have aa := QaL.mono_l k;unfold QaL.f;repeat' with_reducible first | apply aa | exact LeO.refl _ | exact LeO.none _ | apply LeO.ite | refine LeO.bind ?_ fun _ => ?_
theorem QaL.calls (k : Nat) (A0 : Option Addr) (c0 : Nat) (l0 : List (S110)) (a1 : Int) (r : Int) (w : World) (av : Kd.C k110 w A0 l0.length l0) (hc0 : l0.length ≤ c0) (h : QaL.f k l0 a1 = some r) :
  Calls Tryz.prog 56 #[.slice A0 l0.length c0, .int .i64 a1] w fun e w' => e = .returned (.int .i64 r) ∧ Below w.heap.size w w' := by
 have aw := Tryz.underlying110;have ax := am_ av;have az := am_ hc0;clear av hc0;have HB := am_ (Below.refl w.heap.size w);have H := h;clear h;unfold QaL.f at H;by_cases c3 : (wrap64 (a1 - (l0.length : Int))) < 0
 ·rw [if_pos c3] at H
  replace c3 := decide_eq_true c3;obtain rfl := Option.some.inj H;go_enter Tryz.func56, Tryz.ntmps56;go_wp2;go_ret;exact ⟨Sh.eR, Sh.bw⟩
 ·rw [if_neg c3] at H
  replace c3 := decide_eq_false c3;have H' := am_ H;clear H;go_enter Tryz.func56, Tryz.ntmps56;go_wp2;go_loopg [1, 5] k (fun kq v1 v5 w' => ∃ (ak : Int) (aa : Int), v1 = .int .i64 ak ∧ v5 = .int .i64 aa ∧ Aside0 (QaL.l0 kq l0 ak aa = some r) ∧ Aside0 (kq ≤ k) ∧ Aside0 (Below w.heap.size w w'))
  case atStart => exact ⟨(wrap64 (a1 - (l0.length : Int))), (0), (Sh.es), (Sh.es), H', ⟨Nat.le_refl _⟩, ⟨Sh.bw⟩⟩
  case round =>
   clear H';obtain ⟨ak, aa, rfl, rfl, HA, ay, HB⟩ := hrel;cases gk with
   | zero => exact absurd HA.out (by simp [QaL.l0])
   | succ k1 =>
    have H := HA.out;clear HA;simp only [QaL.l0] at H;by_cases c4 : aa < (l0.length : Int)
    ·rw [if_pos c4] at H
     replace c4 := decide_eq_true c4;by_cases c5 : 0 ≤ aa
     ·rw [if_pos c5] at H
      replace c5 := decide_eq_true c5;obtain ⟨aq, A6, H⟩ := Sh.ba H;by_cases c7 : aq < 0
      ·rw [if_pos c7] at H
       replace c7 := decide_eq_true c7;obtain rfl := Option.some.inj H;have al : 0 ≤ (aa : Int) := Sh.od;have am : aa < (l0.length : Int) := Sh.od;obtain ⟨au, ao, ap, ar, ac, ae, af, ah⟩ := at_T110 ax.out aa al am;cases ar;try replace ac := Sh.cw ac
       try replace ae := Sh.cw ae
       have ai := am_ ah;have aj := am_ af;clear ah af;replace al := eq_true al;replace am := eq_true am;go_wp2_with (first | ((with_reducible refine Sh.k 71 ?_); refine Sh.gB (some 23) Tryz.func71 #[.agg #[.int .i64 ((rd_T110 l0 aa).f0), .slice ao ((rd_T110 l0 aa).f1).length ap], .int .i64 ak] (Qbz.calls ((rd_T110 l0 aa).f0) _ _ ((rd_T110 l0 aa).f1) ak aq _ (Sh.cB ai.out) aj.out A6.out) fun w8 hb => ?_; replace HB := Sh.hb hb; (try clear hb)));go_ret;exact ⟨Sh.eR, Sh.bw⟩
      ·rw [if_neg c7] at H
       replace c7 := decide_eq_false c7;have H' := am_ H;clear H;have al : 0 ≤ (aa : Int) := Sh.od;have am : aa < (l0.length : Int) := Sh.od;obtain ⟨au, ao, ap, ar, ac, ae, af, ah⟩ := at_T110 ax.out aa al am;cases ar;try replace ac := Sh.cw ac
       try replace ae := Sh.cw ae
       have ai := am_ ah;have aj := am_ af;clear ah af;replace al := eq_true al;replace am := eq_true am;go_wp2_with (first | ((with_reducible refine Sh.k 71 ?_); refine Sh.gB (some 23) Tryz.func71 #[.agg #[.int .i64 ((rd_T110 l0 aa).f0), .slice ao ((rd_T110 l0 aa).f1).length ap], .int .i64 ak] (Qbz.calls ((rd_T110 l0 aa).f0) _ _ ((rd_T110 l0 aa).f1) ak aq _ (Sh.cB ai.out) aj.out A6.out) fun w9 hb => ?_; replace HB := Sh.hb hb; (try clear hb)));go_roundg k1
       case measure => have := ay.out; omega
       case rel => exact ⟨(aq), (wrap64 (aa + 1)), (Sh.es), (Sh.es), H', ⟨by have := ay.out; omega⟩, ⟨Sh.bw⟩⟩
     ·rw [if_neg c5] at H
      cases H
    ·rw [if_neg c4] at H
     replace c4 := decide_eq_false c4;obtain rfl := Option.some.inj H;go_wp2;go_ret;exact ⟨Sh.eR, Sh.bw⟩
def Qba.f (k : Nat) (ae : List (S79)) (af : List (S110)) (a1 : Int) : Option (Int) := (Qa8.f ae a1).bind fun aa => (if aa < 0 then (some (-1)) else ((QaL.f k af aa).bind fun ac => (if ac < 0 then (some (-1)) else (some ac))))
theorem Qba.mono : ∀ a0 a1 a2 k, LeO (Qba.f k a0 a1 a2) (Qba.f (k + 1) a0 a1 a2) := by
 intro a0 a1 a2 k;unfold Qba.f;repeat' with_reducible first | apply QaL.mono | exact LeO.refl _ | exact LeO.none _ | apply LeO.ite | refine LeO.bind ?_ fun _ => ?_
theorem Qba.calls (k : Nat) (af : Option Addr) (ah : Nat) (aa : List (S79)) (aj : Option Addr) (ak : Nat) (ae : List (S110)) (a1 : Int) (r : Int) (w : World) (ao : Kd.C k79 w af aa.length aa) (ap : aa.length ≤ ah) (aq : Kd.C k110 w aj ae.length ae) (ar : ae.length ≤ ak) (h : Qba.f k aa ae a1 = some r) :
  Calls Tryz.prog 29 #[.agg #[.slice af aa.length ah, .slice aj ae.length ak], .int .i64 a1] w fun e w' => e = .returned (.int .i64 r) ∧ Below w.heap.size w w' := by
 have aL := Tryz.underlying61;have al := am_ ao;have am := am_ ap;clear ao ap;have au := am_ aq;have av := am_ ar;clear aq ar;have HB := am_ (Below.refl w.heap.size w);have H := h;clear h;unfold Qba.f at H;obtain ⟨ai, A3, H⟩ := Sh.ba H;by_cases c4 : ai < 0
 ·rw [if_pos c4] at H
  replace c4 := decide_eq_true c4;obtain rfl := Option.some.inj H;go_enter Tryz.func29, Tryz.ntmps29;go_wp2_with (first | ((with_reducible refine Sh.d 2 ?_); refine Sh.bz w (N := 2) (cs := #[.slice af aa.length ah, .slice aj ae.length ak]) (t := 61) (h := ?_); clear HB; intro aw w5 ac ax HB; obtain ⟨aH, aI, aJ, aK⟩ := Sh.b2 ac.out) | ((with_reducible refine Sh.k 13 ?_); refine Sh.gD (some 8) Tryz.func13 #[.slice af aa.length ah, .int .i64 a1] (Qa8.calls _ _ aa a1 ai _ (Sh.cB al.out) am.out A3.out) fun nd => ?_));go_ret;exact ⟨Sh.eR, Sh.bw⟩
 ·rw [if_neg c4] at H
  replace c4 := decide_eq_false c4;obtain ⟨ay, A7, H⟩ := Sh.ba H;by_cases c8 : ay < 0
  ·rw [if_pos c8] at H
   replace c8 := decide_eq_true c8;obtain rfl := Option.some.inj H;go_enter Tryz.func29, Tryz.ntmps29;go_wp2_with (first | ((with_reducible refine Sh.d 2 ?_); refine Sh.bz w (N := 2) (cs := #[.slice af aa.length ah, .slice aj ae.length ak]) (t := 61) (h := ?_); clear HB; intro aw w9 ac ax HB; obtain ⟨az, aA, aB, aC⟩ := Sh.b2 ac.out) | ((with_reducible refine Sh.k 13 ?_); refine Sh.gD (some 8) Tryz.func13 #[.slice af aa.length ah, .int .i64 a1] (Qa8.calls _ _ aa a1 ai _ (Sh.cB al.out) am.out A3.out) fun nd => ?_) | ((with_reducible refine Sh.k 56 ?_); refine Sh.gB (some 14) Tryz.func56 #[.slice aj ae.length ak, .int .i64 ai] (QaL.calls k _ _ ae ai ay _ (Sh.cB au.out) av.out A7.out) fun aM hb => ?_; replace ac := Sh.ab ac hb; replace HB := Sh.hb hb; (try clear hb)));go_ret;exact ⟨Sh.eR, Sh.bw⟩
  ·rw [if_neg c8] at H
   replace c8 := decide_eq_false c8;obtain rfl := Option.some.inj H;go_enter Tryz.func29, Tryz.ntmps29;go_wp2_with (first | ((with_reducible refine Sh.d 2 ?_); refine Sh.bz w (N := 2) (cs := #[.slice af aa.length ah, .slice aj ae.length ak]) (t := 61) (h := ?_); clear HB; intro aw aN ac ax HB; obtain ⟨aD, aE, aF, aG⟩ := Sh.b2 ac.out) | ((with_reducible refine Sh.k 13 ?_); refine Sh.gD (some 8) Tryz.func13 #[.slice af aa.length ah, .int .i64 a1] (Qa8.calls _ _ aa a1 ai _ (Sh.cB al.out) am.out A3.out) fun nd => ?_) | ((with_reducible refine Sh.k 56 ?_); refine Sh.gB (some 14) Tryz.func56 #[.slice aj ae.length ak, .int .i64 ai] (QaL.calls k _ _ ae ai ay _ (Sh.cB au.out) av.out A7.out) fun aO hb => ?_; replace ac := Sh.ab ac hb; replace HB := Sh.hb hb; (try clear hb)));go_ret;exact ⟨Sh.eR, Sh.bw⟩
def QaM.l0 : Nat → List (S61) → Int → Int → Option (Int)
 | 0, _, _, _ => none
 | k + 1, x0, x1, x5 => if x5 < (x0.length : Int) then (if 0 ≤ x5 then ((Qba.f k ((rd_T61 x0 x5).f0) ((rd_T61 x0 x5).f1) x1).bind fun aa => (if aa < 0 then (some (-1)) else (QaM.l0 k x0 aa (wrap64 (x5 + 1))))) else (none)) else (some x1)
def QaM.f (k : Nat) (l0 : List (S61)) (a1 : Int) : Option (Int) := if (wrap64 (a1 - (l0.length : Int))) < 0 then (some (-1)) else (QaM.l0 k l0 (wrap64 (a1 - (l0.length : Int))) 0)
theorem QaM.mono_l : ∀ k, (∀ y0 y1 y2, LeO (QaM.l0 k y0 y1 y2) (QaM.l0 (k + 1) y0 y1 y2))
 | 0 => fun _ _ _ r h => by simp [QaM.l0] at h
 | k + 1 => by
  have aa := QaM.mono_l k
  ·intro y0 y1 y2
   unfold QaM.l0
   repeat' with_reducible first | apply aa | apply Qba.mono | exact LeO.refl _ | exact LeO.none _ | apply LeO.ite | refine LeO.bind ?_ fun _ => ?_
theorem QaM.mono : ∀ a0 a1 k, LeO (QaM.f k a0 a1) (QaM.f (k + 1) a0 a1) := by
 intro a0 a1 k;have aa := QaM.mono_l k;unfold QaM.f;repeat' with_reducible first | apply aa | apply Qba.mono | exact LeO.refl _ | exact LeO.none _ | apply LeO.ite | refine LeO.bind ?_ fun _ => ?_
theorem QaM.calls (k : Nat) (A0 : Option Addr) (c0 : Nat) (l0 : List (S61)) (a1 : Int) (r : Int) (w : World) (aB : Kd.C k61 w A0 l0.length l0) (hc0 : l0.length ≤ c0) (h : QaM.f k l0 a1 = some r) :
  Calls Tryz.prog 14 #[.slice A0 l0.length c0, .int .i64 a1] w fun e w' => e = .returned (.int .i64 r) ∧ Below w.heap.size w w' := by
 have aE := Tryz.underlying61;have aC := am_ aB;have aF := am_ hc0;clear aB hc0;have HB := am_ (Below.refl w.heap.size w);have H := h;clear h;unfold QaM.f at H;by_cases c3 : (wrap64 (a1 - (l0.length : Int))) < 0
 ·rw [if_pos c3] at H
  replace c3 := decide_eq_true c3;obtain rfl := Option.some.inj H;go_enter Tryz.func14, Tryz.ntmps14;go_wp2;go_ret;exact ⟨Sh.eR, Sh.bw⟩
 ·rw [if_neg c3] at H
  replace c3 := decide_eq_false c3;have H' := am_ H;clear H;go_enter Tryz.func14, Tryz.ntmps14;go_wp2;go_loopg [1, 5] k (fun kq v1 v5 w' => ∃ (ap : Int) (aa : Int), v1 = .int .i64 ap ∧ v5 = .int .i64 aa ∧ Aside0 (QaM.l0 kq l0 ap aa = some r) ∧ Aside0 (kq ≤ k) ∧ Aside0 (Below w.heap.size w w'))
  case atStart => exact ⟨(wrap64 (a1 - (l0.length : Int))), (0), (Sh.es), (Sh.es), H', ⟨Nat.le_refl _⟩, ⟨Sh.bw⟩⟩
  case round =>
   clear H';obtain ⟨ap, aa, rfl, rfl, HA, aD, HB⟩ := hrel;cases gk with
   | zero => exact absurd HA.out (by simp [QaM.l0])
   | succ k1 =>
    have H := HA.out;clear HA;simp only [QaM.l0] at H;by_cases c4 : aa < (l0.length : Int)
    ·rw [if_pos c4] at H
     replace c4 := decide_eq_true c4;by_cases c5 : 0 ≤ aa
     ·rw [if_pos c5] at H
      replace c5 := decide_eq_true c5;obtain ⟨ay, A6, H⟩ := Sh.ba H;by_cases c7 : ay < 0
      ·rw [if_pos c7] at H
       replace c7 := decide_eq_true c7;obtain rfl := Option.some.inj H;have aq : 0 ≤ (aa : Int) := Sh.od;have ar : aa < (l0.length : Int) := Sh.od;obtain ⟨aA, au, av, aw, ax, az, ac, ae, af, ah, ai, aj⟩ := at_T61 aC.out aa aq ar;cases az;try replace ac := Sh.cw ac
       try replace ae := Sh.cw ae
       have ak := am_ ah;have al := am_ af;clear ah af;have am := am_ aj;have ao := am_ ai;clear aj ai;replace aq := eq_true aq;replace ar := eq_true ar;go_wp2_with (first | ((with_reducible refine Sh.k 29 ?_); refine Sh.gB (some 23) Tryz.func29 #[.agg #[.slice au ((rd_T61 l0 aa).f0).length av, .slice aw ((rd_T61 l0 aa).f1).length ax], .int .i64 ap] (Qba.calls k1 _ _ ((rd_T61 l0 aa).f0) _ _ ((rd_T61 l0 aa).f1) ap ay _ (Sh.cB ak.out) al.out (Sh.cB am.out) ao.out A6.out) fun w8 hb => ?_; replace HB := Sh.hb hb; (try clear hb)));go_ret;exact ⟨Sh.eR, Sh.bw⟩
      ·rw [if_neg c7] at H
       replace c7 := decide_eq_false c7;have H' := am_ H;clear H;have aq : 0 ≤ (aa : Int) := Sh.od;have ar : aa < (l0.length : Int) := Sh.od;obtain ⟨aA, au, av, aw, ax, az, ac, ae, af, ah, ai, aj⟩ := at_T61 aC.out aa aq ar;cases az;try replace ac := Sh.cw ac
       try replace ae := Sh.cw ae
       have ak := am_ ah;have al := am_ af;clear ah af;have am := am_ aj;have ao := am_ ai;clear aj ai;replace aq := eq_true aq;replace ar := eq_true ar;go_wp2_with (first | ((with_reducible refine Sh.k 29 ?_); refine Sh.gB (some 23) Tryz.func29 #[.agg #[.slice au ((rd_T61 l0 aa).f0).length av, .slice aw ((rd_T61 l0 aa).f1).length ax], .int .i64 ap] (Qba.calls k1 _ _ ((rd_T61 l0 aa).f0) _ _ ((rd_T61 l0 aa).f1) ap ay _ (Sh.cB ak.out) al.out (Sh.cB am.out) ao.out A6.out) fun w9 hb => ?_; replace HB := Sh.hb hb; (try clear hb)));go_roundg k1
       case measure => have := aD.out; omega
       case rel => exact ⟨(ay), (wrap64 (aa + 1)), (Sh.es), (Sh.es), H', ⟨by have := aD.out; omega⟩, ⟨Sh.bw⟩⟩
     ·rw [if_neg c5] at H
      cases H
    ·rw [if_neg c4] at H
     replace c4 := decide_eq_false c4;obtain rfl := Option.some.inj H;go_wp2;go_ret;exact ⟨Sh.eR, Sh.bw⟩
def Qbs.f (k : Nat) (ah : Int) (ai : Int) (ae : List (S79)) (af : List (S61)) (a1 : Int) : Option (Int) := (Qa8.f ae a1).bind fun aa => (if aa < 0 then (some (-1)) else ((QaM.f k af aa).bind fun ac => (if ac < 0 then (some (-1)) else (some ac))))
theorem Qbs.mono : ∀ a0 a1 a2 a3 a4 k, LeO (Qbs.f k a0 a1 a2 a3 a4) (Qbs.f (k + 1) a0 a1 a2 a3 a4) := by
 intro a0 a1 a2 a3 a4 k;unfold Qbs.f;repeat' with_reducible first | apply QaM.mono | exact LeO.refl _ | exact LeO.none _ | apply LeO.ite | refine LeO.bind ?_ fun _ => ?_
theorem Qbs.calls (k : Nat) (al : Int) (am : Int) (af : Option Addr) (ah : Nat) (aa : List (S79)) (aj : Option Addr) (ak : Nat) (ae : List (S61)) (a1 : Int) (r : Int) (w : World) (aq : Kd.C k79 w af aa.length aa) (ar : aa.length ≤ ah) (au : Kd.C k61 w aj ae.length ae) (av : ae.length ≤ ak) (h : Qbs.f k al am aa ae a1 = some r) :
  Calls Tryz.prog 4 #[.agg #[.int .i64 al, .int .i64 am, .slice af aa.length ah, .slice aj ae.length ak], .int .i64 a1] w fun e w' => e = .returned (.int .i64 r) ∧ Below w.heap.size w w' := by
 have aZ := Tryz.underlying25;have ao := am_ aq;have ap := am_ ar;clear aq ar;have aw := am_ au;have ax := am_ av;clear au av;have HB := am_ (Below.refl w.heap.size w);have H := h;clear h;unfold Qbs.f at H;obtain ⟨ai, A3, H⟩ := Sh.ba H;by_cases c4 : ai < 0
 ·rw [if_pos c4] at H
  replace c4 := decide_eq_true c4;obtain rfl := Option.some.inj H;go_enter Tryz.func4, Tryz.ntmps4;go_wp2_with (first | ((with_reducible refine Sh.d 2 ?_); refine Sh.bz w (N := 2) (cs := #[.int .i64 al, .int .i64 am, .slice af aa.length ah, .slice aj ae.length ak]) (t := 25) (h := ?_); clear HB; intro ay w5 ac az HB; obtain ⟨aR, aS, aT, aU, aV, aW, aX, aY⟩ := Sh.b4 ac.out) | ((with_reducible refine Sh.k 13 ?_); refine Sh.gD (some 8) Tryz.func13 #[.slice af aa.length ah, .int .i64 a1] (Qa8.calls _ _ aa a1 ai _ (Sh.cB ao.out) ap.out A3.out) fun nd => ?_));go_ret;exact ⟨Sh.eR, Sh.bw⟩
 ·rw [if_neg c4] at H
  replace c4 := decide_eq_false c4;obtain ⟨aA, A7, H⟩ := Sh.ba H;by_cases c8 : aA < 0
  ·rw [if_pos c8] at H
   replace c8 := decide_eq_true c8;obtain rfl := Option.some.inj H;go_enter Tryz.func4, Tryz.ntmps4;go_wp2_with (first | ((with_reducible refine Sh.d 2 ?_); refine Sh.bz w (N := 2) (cs := #[.int .i64 al, .int .i64 am, .slice af aa.length ah, .slice aj ae.length ak]) (t := 25) (h := ?_); clear HB; intro ay w9 ac az HB; obtain ⟨aB, aC, aD, aE, aF, aG, aH, aI⟩ := Sh.b4 ac.out) | ((with_reducible refine Sh.k 13 ?_); refine Sh.gD (some 8) Tryz.func13 #[.slice af aa.length ah, .int .i64 a1] (Qa8.calls _ _ aa a1 ai _ (Sh.cB ao.out) ap.out A3.out) fun nd => ?_) | ((with_reducible refine Sh.k 14 ?_); refine Sh.gB (some 14) Tryz.func14 #[.slice aj ae.length ak, .int .i64 ai] (QaM.calls k _ _ ae ai aA _ (Sh.cB aw.out) ax.out A7.out) fun a2 hb => ?_; replace ac := Sh.ab ac hb; replace HB := Sh.hb hb; (try clear hb)));go_ret;exact ⟨Sh.eR, Sh.bw⟩
  ·rw [if_neg c8] at H
   replace c8 := decide_eq_false c8;obtain rfl := Option.some.inj H;go_enter Tryz.func4, Tryz.ntmps4;go_wp2_with (first | ((with_reducible refine Sh.d 2 ?_); refine Sh.bz w (N := 2) (cs := #[.int .i64 al, .int .i64 am, .slice af aa.length ah, .slice aj ae.length ak]) (t := 25) (h := ?_); clear HB; intro ay a6 ac az HB; obtain ⟨aJ, aK, aL, aM, aN, aO, aP, aQ⟩ := Sh.b4 ac.out) | ((with_reducible refine Sh.k 13 ?_); refine Sh.gD (some 8) Tryz.func13 #[.slice af aa.length ah, .int .i64 a1] (Qa8.calls _ _ aa a1 ai _ (Sh.cB ao.out) ap.out A3.out) fun nd => ?_) | ((with_reducible refine Sh.k 14 ?_); refine Sh.gB (some 14) Tryz.func14 #[.slice aj ae.length ak, .int .i64 ai] (QaM.calls k _ _ ae ai aA _ (Sh.cB aw.out) ax.out A7.out) fun a7 hb => ?_; replace ac := Sh.ab ac hb; replace HB := Sh.hb hb; (try clear hb)));go_ret;exact ⟨Sh.eR, Sh.bw⟩
def QbE.f (aa : Int) (ac : Int) (ae : List (S77)) (af : List (S82)) : Option (Int) := if 0 ≤ (IntKind.u64.wrap (wrap64 (aa * ac))) then (some (shl .i64 1 (IntKind.u64.wrap (wrap64 (aa * ac))))) else (none)
theorem QbE.calls (af : Int) (ah : Int) (ao : Option Addr) (ap : Nat) (aa : List (S77)) (aq : Option Addr) (ar : Nat) (ac : List (S82)) (r : Int) (w : World) (ai : Kd.C k77 w ao aa.length aa) (aj : aa.length ≤ ap) (ak : Kd.C k82 w aq ac.length ac) (al : ac.length ≤ ar) (h : QbE.f af ah aa ac = some r) :
  Calls Tryz.prog 35 #[.agg #[.int .i64 af, .int .i64 ah, .slice ao aa.length ap, .slice aq ac.length ar]] w fun e w' => e = .returned (.int .i64 r) ∧ Below w.heap.size w w' := by
 have aK := Tryz.underlying33;have aE := am_ ai;have aF := am_ aj;clear ai aj;have aG := am_ ak;have aH := am_ al;clear ak al;have HB := am_ (Below.refl w.heap.size w);have H := h;clear h;unfold QbE.f at H;obtain ⟨ae, hj1⟩ : ∃ j_ : Int, (IntKind.u64.wrap (wrap64 (af * ah))) = j_ := ⟨_, rfl⟩;replace H : (if 0 ≤ (ae) then (some (shl .i64 1 (ae))) else (none)) = some r := by first | (rw [hj1] at H; exact H) | (simp only [hj1] at H ⊢; exact H)
 by_cases c3 : 0 ≤ (ae)
 ·rw [if_pos c3] at H
  have c3b0 := eq_true c3;have c3b1 := decide_eq_true c3;clear c3;obtain ⟨au, hj2⟩ : ∃ j_ : Int, (shl .i64 1 (ae)) = j_ := ⟨_, rfl⟩;replace H : (some au) = some r := by first | (rw [hj2] at H; exact H) | (simp only [hj2] at H ⊢; exact H)
  have am : (IntKind.i64.wrap (1 * 2 ^ min (ae).toNat 64)) = au := hj2;have hji4z : (ae) ≤ 64 → (IntKind.i64.wrap (1 * 2 ^ (ae).toNat)) = au := shl_small hj2;have hji4u : (IntKind.i64.wrap (2 ^ min (ae).toNat 64)) = au := by have h_ := am; rw [Int.one_mul] at h_; exact h_
  have hji4v : (ae) ≤ 64 → (IntKind.i64.wrap (2 ^ (ae).toNat)) = au := fun hle_ => by have h_ := hji4z hle_; rw [Int.one_mul] at h_; exact h_
  have hji4y : (wrap64 (1 * 2 ^ min (ae).toNat 64)) = au := (i64_w _).symm.trans am;have hji4x : (ae) ≤ 64 → (wrap64 (1 * 2 ^ (ae).toNat)) = au := fun h_ => (i64_w _).symm.trans (hji4z h_);obtain rfl := Option.some.inj H;go_enter Tryz.func35, Tryz.ntmps35;go_wp2_with (first | ((with_reducible refine Sh.d 1 ?_); refine Sh.bz w (N := 1) (cs := #[.int .i64 af, .int .i64 ah, .slice ao aa.length ap, .slice aq ac.length ar]) (t := 33) (h := ?_); clear HB; intro aI w5 av aJ HB; obtain ⟨aw, ax, ay, az, aA, aB, aC, aD⟩ := Sh.b4 av.out));go_ret;exact ⟨by first | rfl | (simp [errW_none, errW_some] <;> rfl) | (simp only [← hj1, ← hj2]; first | rfl | (simp [errW_none, errW_some] <;> rfl)) | (simp [*, errW_none, errW_some] <;> rfl), Sh.bw⟩
 ·rw [if_neg c3] at H
  cases H
def QaH.f (a0 : Int) (a1 : Int) (a2 : Int) : Option (Bool) := if a0 ≥ a1 then (some (decide (a0 ≤ a2))) else (some false)
theorem QaH.calls (a0 : Int) (a1 : Int) (a2 : Int) (r : Bool) (w : World) (h : QaH.f a0 a1 a2 = some r) :
  Calls Tryz.prog 73 #[.int .i64 a0, .int .i64 a1, .int .i64 a2] w fun e w' => e = .returned (.bool r) ∧ Drawn0 w w' := by
 have H := h;clear h;unfold QaH.f at H;by_cases c4 : a0 ≥ a1
 ·rw [if_pos c4] at H
  have c4b0 : decide (a1 ≤ a0) = true := decide_eq_true c4;clear c4;obtain rfl := Option.some.inj H;go_enter Tryz.func73, Tryz.ntmps73;go_wp2;go_ret;exact ⟨Sh.es, Sh.dr⟩
 ·rw [if_neg c4] at H
  have c4b0 : decide (a1 ≤ a0) = false := decide_eq_false c4;clear c4;obtain rfl := Option.some.inj H;go_enter Tryz.func73, Tryz.ntmps73;go_wp2;go_ret;exact ⟨Sh.es, Sh.dr⟩
def Qau.j0 : Nat → Int → Bool → Option (Int × Int × Int)
 | 0, _, _ => none
 | k + 1, x0, x5 => if x5 = true then (some (0, 1, 1)) else (if x0 = 20 then (some (0, 2, 2)) else (if x0 = 13 then (some (1, 1, 1)) else (if x0 = 19 then (some (1, 2, 2)) else ((QaH.f x0 3 12).bind fun aa => (if aa = true then (some (2, 1, 1)) else ((QaH.f x0 14 16).bind fun ac => (if ac = true then (some (2, 1, 2)) else (if x0 = 17 then (some (2, 2, 2)) else (if x0 = 18 then (some (2, 2, 2)) else (some (0, 0, 0)))))))))))
def Qau.f (k : Nat) (a0 : Int) : Option (Int × Int × Int) := if a0 = 1 then (Qau.j0 k a0 true) else (Qau.j0 k a0 (a0 == 2))
theorem Qau.mono_l : ∀ k, (∀ y0 y1, LeO (Qau.j0 k y0 y1) (Qau.j0 (k + 1) y0 y1))
 | 0 => fun _ _ r h => by simp [Qau.j0] at h
 | k + 1 => by
  have aa := Qau.mono_l k
  ·intro y0 y1
   unfold Qau.j0
   repeat' with_reducible first | apply aa | exact LeO.refl _ | exact LeO.none _ | apply LeO.ite | refine LeO.bind ?_ fun _ => ?_
theorem Qau.mono : ∀ a0 k, LeO (Qau.f k a0) (Qau.f (k + 1) a0) := by
 intro a0 k;have aa := Qau.mono_l k;unfold Qau.f;repeat' with_reducible first | apply aa | exact LeO.refl _ | exact LeO.none _ | apply LeO.ite | refine LeO.bind ?_ fun _ => ?_
theorem Qau.calls (k : Nat) (a0 : Int) (r1 : Int) (r2 : Int) (r3 : Int) (w : World) (h : Qau.f k a0 = some (r1, r2, r3)) :
  Calls Tryz.prog 75 #[.int .i64 a0] w fun e w' => e = .returned (.tuple #[.int .i64 r1, .int .i64 r2, .int .i64 r3]) ∧ Drawn0 w w' := by
 have H := h;clear h;unfold Qau.f at H;have ai := am_ H;clear H;go_enter Tryz.func75, Tryz.ntmps75;go_upto_region 1 with (fail)
 go_cut [5] (fun v5 wc => ∃ (kq : Nat) (aa : Bool), v5 = .bool aa ∧ Aside0 (Qau.j0 kq a0 aa = some (r1, r2, r3)) ∧ Aside0 (kq ≤ k) ∧ Drawn0 w wc)
 case first =>
  have H := ai.out;clear ai;by_cases c3 : a0 = 1
  ·rw [if_pos c3] at H
   have c3b0 : (a0 == 1) = true := beq_iff_eq.mpr c3;have c3b1 : (a0 != 1) = false := bne_eq_false_iff_eq.mpr c3;clear c3;first | rw [c3b0] | (simp only [i64_w, i32_w]; rw [c3b0]) | skip
   have H' := am_ H;clear H;go_wp2;go_meet
   case rel => exact ⟨_, (true), (Sh.es), H', ⟨Sh.om⟩, Sh.dr⟩
  ·rw [if_neg c3] at H
   have c3b0 : (a0 == 1) = false := beq_eq_false_iff_ne.mpr c3;have c3b1 : (a0 != 1) = true := bne_iff_ne.mpr c3;first | rw [c3b0] | (simp only [i64_w, i32_w]; rw [c3b0]) | skip
   have H' := am_ H;clear H;go_wp2;go_meet
   case rel => exact ⟨_, ((a0 == 2)), (Sh.es), H', ⟨Sh.om⟩, Sh.dr⟩
 case rest =>
  clear ai;obtain ⟨kq, aa, rfl, HA, al, ⟨am, rfl⟩⟩ := hcut;cases kq with
  | zero => exact absurd HA.out (by simp [Qau.j0])
  | succ ao =>
   have H := HA.out;clear HA;simp only [Qau.j0] at H;by_cases c4 : aa = true
   ·subst c4
    rw [if_pos rfl] at H;simp only [Option.some.injEq, Prod.mk.injEq] at H;obtain ⟨rfl, rfl, rfl⟩ := H;go_wp2;go_ret3;exact ⟨Sh.es, Sh.dr⟩
   ·replace c4 := Bool.eq_false_iff.mpr c4
    subst c4;rw [Sh.nf] at H;by_cases c5 : a0 = 20
    ·rw [if_pos c5] at H
     have c5b0 : (a0 == 20) = true := beq_iff_eq.mpr c5;have c5b1 : (a0 != 20) = false := bne_eq_false_iff_eq.mpr c5;clear c5;simp only [Option.some.injEq, Prod.mk.injEq] at H;obtain ⟨rfl, rfl, rfl⟩ := H;go_wp2;go_ret3;exact ⟨Sh.es, Sh.dr⟩
    ·rw [if_neg c5] at H
     have c5b0 : (a0 == 20) = false := beq_eq_false_iff_ne.mpr c5;have c5b1 : (a0 != 20) = true := bne_iff_ne.mpr c5;by_cases c6 : a0 = 13
     ·rw [if_pos c6] at H
      have c6b0 : (a0 == 13) = true := beq_iff_eq.mpr c6;have c6b1 : (a0 != 13) = false := bne_eq_false_iff_eq.mpr c6;clear c6;simp only [Option.some.injEq, Prod.mk.injEq] at H;obtain ⟨rfl, rfl, rfl⟩ := H;go_wp2;go_ret3;exact ⟨Sh.es, Sh.dr⟩
     ·rw [if_neg c6] at H
      have c6b0 : (a0 == 13) = false := beq_eq_false_iff_ne.mpr c6;have c6b1 : (a0 != 13) = true := bne_iff_ne.mpr c6;by_cases c7 : a0 = 19
      ·rw [if_pos c7] at H
       have c7b0 : (a0 == 19) = true := beq_iff_eq.mpr c7;have c7b1 : (a0 != 19) = false := bne_eq_false_iff_eq.mpr c7;clear c7;simp only [Option.some.injEq, Prod.mk.injEq] at H;obtain ⟨rfl, rfl, rfl⟩ := H;go_wp2;go_ret3;exact ⟨Sh.es, Sh.dr⟩
      ·rw [if_neg c7] at H
       have c7b0 : (a0 == 19) = false := beq_eq_false_iff_ne.mpr c7;have c7b1 : (a0 != 19) = true := bne_iff_ne.mpr c7;obtain ⟨aj, A8, H⟩ := Sh.ba H;by_cases c9 : aj = true
       ·subst c9
        rw [if_pos rfl] at H;simp only [Option.some.injEq, Prod.mk.injEq] at H;obtain ⟨rfl, rfl, rfl⟩ := H;go_wp2_with (first | ((with_reducible refine Sh.k 73 ?_); refine Sh.gD (some 23) Tryz.func73 #[.int .i64 a0, .int .i64 3, .int .i64 12] (QaH.calls a0 3 12 true _ A8.out) fun nd => ?_));go_ret3;exact ⟨Sh.es, Sh.dr⟩
       ·replace c9 := Bool.eq_false_iff.mpr c9
        subst c9;rw [Sh.nf] at H;obtain ⟨ak, af, H⟩ := Sh.ba H;by_cases ah : ak = true
        ·subst ah
         rw [if_pos rfl] at H;simp only [Option.some.injEq, Prod.mk.injEq] at H;obtain ⟨rfl, rfl, rfl⟩ := H;go_wp2_with (first | ((with_reducible refine Sh.k 73 ?_); refine Sh.gD (some 23) Tryz.func73 #[.int .i64 a0, .int .i64 3, .int .i64 12] (QaH.calls a0 3 12 false _ A8.out) fun nd => ?_) | ((with_reducible refine Sh.k 73 ?_); refine Sh.gD (some 26) Tryz.func73 #[.int .i64 a0, .int .i64 14, .int .i64 16] (QaH.calls a0 14 16 true _ af.out) fun nd => ?_));go_ret3;exact ⟨Sh.es, Sh.dr⟩
        ·replace ah := Bool.eq_false_iff.mpr ah
         subst ah;rw [Sh.nf] at H;by_cases ac : a0 = 17
         ·rw [if_pos ac] at H
          have c12b0 : (a0 == 17) = true := beq_iff_eq.mpr ac;have c12b1 : (a0 != 17) = false := bne_eq_false_iff_eq.mpr ac;clear ac;simp only [Option.some.injEq, Prod.mk.injEq] at H;obtain ⟨rfl, rfl, rfl⟩ := H;go_wp2_with (first | ((with_reducible refine Sh.k 73 ?_); refine Sh.gD (some 23) Tryz.func73 #[.int .i64 a0, .int .i64 3, .int .i64 12] (QaH.calls a0 3 12 false _ A8.out) fun nd => ?_) | ((with_reducible refine Sh.k 73 ?_); refine Sh.gD (some 26) Tryz.func73 #[.int .i64 a0, .int .i64 14, .int .i64 16] (QaH.calls a0 14 16 false _ af.out) fun nd => ?_));go_ret3;exact ⟨Sh.es, Sh.dr⟩
         ·rw [if_neg ac] at H
          have c12b0 : (a0 == 17) = false := beq_eq_false_iff_ne.mpr ac;have c12b1 : (a0 != 17) = true := bne_iff_ne.mpr ac;by_cases ae : a0 = 18
          ·rw [if_pos ae] at H
           have c13b0 : (a0 == 18) = true := beq_iff_eq.mpr ae;have c13b1 : (a0 != 18) = false := bne_eq_false_iff_eq.mpr ae;clear ae;simp only [Option.some.injEq, Prod.mk.injEq] at H;obtain ⟨rfl, rfl, rfl⟩ := H;go_wp2_with (first | ((with_reducible refine Sh.k 73 ?_); refine Sh.gD (some 23) Tryz.func73 #[.int .i64 a0, .int .i64 3, .int .i64 12] (QaH.calls a0 3 12 false _ A8.out) fun nd => ?_) | ((with_reducible refine Sh.k 73 ?_); refine Sh.gD (some 26) Tryz.func73 #[.int .i64 a0, .int .i64 14, .int .i64 16] (QaH.calls a0 14 16 false _ af.out) fun nd => ?_));go_ret3;exact ⟨Sh.es, Sh.dr⟩
          ·rw [if_neg ae] at H
           have c13b0 : (a0 == 18) = false := beq_eq_false_iff_ne.mpr ae;have c13b1 : (a0 != 18) = true := bne_iff_ne.mpr ae;simp only [Option.some.injEq, Prod.mk.injEq] at H;obtain ⟨rfl, rfl, rfl⟩ := H;go_wp2_with (first | ((with_reducible refine Sh.k 73 ?_); refine Sh.gD (some 23) Tryz.func73 #[.int .i64 a0, .int .i64 3, .int .i64 12] (QaH.calls a0 3 12 false _ A8.out) fun nd => ?_) | ((with_reducible refine Sh.k 73 ?_); refine Sh.gD (some 26) Tryz.func73 #[.int .i64 a0, .int .i64 14, .int .i64 16] (QaH.calls a0 14 16 false _ af.out) fun nd => ?_));go_ret3;exact ⟨Sh.es, Sh.dr⟩
def Qai.l0 : Nat → Int → Int → Int → Int → Option (Int)
 | 0, _, _, _, _ => none
 | k + 1, x0, x1, x5, x6 => if x6 < x0 then (if 0 ≤ (IntKind.u64.wrap (x6)) then (Qai.l0 k x0 x1 (Go.bits .or .u64 x5 (Go.bits .and .u64 x1 (shl .u64 1 (IntKind.u64.wrap (x6))))) (wrap64 (x6 + 1))) else (none)) else (some x5)
def Qai.f (k : Nat) (a0 : Int) (a1 : Int) : Option (Int) := Qai.l0 k a0 a1 0 0
theorem Qai.mono_l : ∀ k, (∀ y0 y1 y2 y3, LeO (Qai.l0 k y0 y1 y2 y3) (Qai.l0 (k + 1) y0 y1 y2 y3))
 | 0 => fun _ _ _ _ r h => by simp [Qai.l0] at h
 | k + 1 => by
  have aa := Qai.mono_l k
  ·intro y0 y1 y2 y3
   unfold Qai.l0
   repeat' with_reducible first | apply aa | exact LeO.refl _ | exact LeO.none _ | apply LeO.ite | refine LeO.bind ?_ fun _ => ?_
theorem Qai.mono : ∀ a0 a1 k, LeO (Qai.f k a0 a1) (Qai.f (k + 1) a0 a1) := by
 intro a0 a1 k;have aa := Qai.mono_l k;unfold Qai.f;repeat' with_reducible first | apply aa | exact LeO.refl _ | exact LeO.none _ | apply LeO.ite | refine LeO.bind ?_ fun _ => ?_
theorem Qai.calls (k : Nat) (a0 : Int) (a1 : Int) (r : Int) (w : World) (h : Qai.f k a0 a1 = some r) :
  Calls Tryz.prog 76 #[.int .i64 a0, .int .u64 a1] w fun e w' => e = .returned (.int .u64 r) ∧ Drawn0 w w' := by
 have H := h;clear h;unfold Qai.f at H;have H' := am_ H;clear H;go_enter Tryz.func76, Tryz.ntmps76;go_wp2;go_loopg [5, 6] k (fun kq v5 v6 w' => ∃ (ac : Int) (aa : Int), v5 = .int .u64 ac ∧ v6 = .int .i64 aa ∧ Aside0 (Qai.l0 kq a0 a1 ac aa = some r) ∧ Aside0 (kq ≤ k) ∧ Drawn0 w w')
 case atStart => exact ⟨(0), (0), (Sh.es), (Sh.es), H', ⟨Nat.le_refl _⟩, Sh.dr⟩
 case round =>
  clear H';obtain ⟨ac, aa, rfl, rfl, HA, ai, ⟨m1, rfl⟩⟩ := hrel;cases gk with
  | zero => exact absurd HA.out (by simp [Qai.l0])
  | succ k1 =>
   have H := HA.out;clear HA;simp only [Qai.l0] at H;by_cases c3 : aa < a0
   ·rw [if_pos c3] at H
    replace c3 := decide_eq_true c3;obtain ⟨ae, hj1⟩ : ∃ j_ : Int, (IntKind.u64.wrap (aa)) = j_ := ⟨_, rfl⟩;replace H : (if 0 ≤ (ae) then (Qai.l0 k1 a0 a1 (Go.bits .or .u64 ac (Go.bits .and .u64 a1 (shl .u64 1 (ae)))) (wrap64 (aa + 1))) else (none)) = some r := by first | (rw [hj1] at H; exact H) | (simp only [hj1] at H ⊢; exact H)
    by_cases c5 : 0 ≤ (ae)
    ·rw [if_pos c5] at H
     have c5b0 := eq_true c5;have c5b1 := decide_eq_true c5;clear c5;obtain ⟨af, hj2⟩ : ∃ j_ : Int, (shl .u64 1 (ae)) = j_ := ⟨_, rfl⟩;replace H : (Qai.l0 k1 a0 a1 (Go.bits .or .u64 ac (Go.bits .and .u64 a1 (af))) (wrap64 (aa + 1))) = some r := by first | (rw [hj2] at H; exact H) | (simp only [hj2] at H ⊢; exact H)
     have ah : (IntKind.u64.wrap (1 * 2 ^ min (ae).toNat 64)) = af := hj2;have hji6z : (ae) ≤ 64 → (IntKind.u64.wrap (1 * 2 ^ (ae).toNat)) = af := shl_small hj2;have hji6u : (IntKind.u64.wrap (2 ^ min (ae).toNat 64)) = af := by have h_ := ah; rw [Int.one_mul] at h_; exact h_
     have hji6v : (ae) ≤ 64 → (IntKind.u64.wrap (2 ^ (ae).toNat)) = af := fun hle_ => by have h_ := hji6z hle_; rw [Int.one_mul] at h_; exact h_
     have H' := am_ H;clear H;go_wp2;go_roundg k1
     case measure => have := ai.out; omega
     case rel => exact ⟨(Go.bits .or .u64 ac (Go.bits .and .u64 a1 (af))), (wrap64 (aa + 1)), (by first | rfl | (simp; done) | (simp only [← hj2] <;> (first | rfl | simp)) | (simp [*]; done)), (Sh.es), H', ⟨by have := ai.out; omega⟩, Sh.dr⟩
    ·rw [if_neg c5] at H
     cases H
   ·rw [if_neg c3] at H
    replace c3 := decide_eq_false c3;obtain rfl := Option.some.inj H;go_wp2;go_ret;exact ⟨Sh.es, Sh.dr⟩
def Qbi.f (a0 : Int) : Option (Bool) := (QaH.f a0 1 64).bind fun aa => (some aa)
theorem Qbi.calls (a0 : Int) (r : Bool) (w : World) (h : Qbi.f a0 = some r) :
  Calls Tryz.prog 116 #[.int .i64 a0] w fun e w' => e = .returned (.bool r) ∧ Drawn0 w w' := by
 have H := h;clear h;unfold Qbi.f at H;obtain ⟨aa, A2, H⟩ := Sh.ba H;obtain rfl := Option.some.inj H;go_enter Tryz.func116, Tryz.ntmps116;go_wp2_with (first | ((with_reducible refine Sh.k 73 ?_); refine Sh.gD (some 4) Tryz.func73 #[.int .i64 a0, .int .i64 1, .int .i64 64] (QaH.calls a0 1 64 aa _ A2.out) fun nd => ?_));go_ret;exact ⟨Sh.es, Sh.dr⟩
def Qa9.f (k : Nat) (a0 : Int) (a1 : Int) : Option (Bool) := (Qbi.f a0).bind fun aa => (if aa = true then ((Qai.f k a0 a1).bind fun ac => (some (ac == a1))) else (some false))
theorem Qa9.mono : ∀ a0 a1 k, LeO (Qa9.f k a0 a1) (Qa9.f (k + 1) a0 a1) := by
 intro a0 a1 k;unfold Qa9.f;repeat' with_reducible first | apply Qai.mono | exact LeO.refl _ | exact LeO.none _ | apply LeO.ite | refine LeO.bind ?_ fun _ => ?_
theorem Qa9.calls (k : Nat) (a0 : Int) (a1 : Int) (r : Bool) (w : World) (h : Qa9.f k a0 a1 = some r) :
  Calls Tryz.prog 129 #[.int .i64 a0, .int .u64 a1] w fun e w' => e = .returned (.bool r) ∧ Drawn0 w w' := by
 have H := h;clear h;unfold Qa9.f at H;obtain ⟨aa, A3, H⟩ := Sh.ba H;by_cases c4 : aa = true
 ·subst c4
  rw [if_pos rfl] at H;obtain ⟨ac, A5, H⟩ := Sh.ba H;obtain rfl := Option.some.inj H;go_enter Tryz.func129, Tryz.ntmps129;go_wp2_with (first | ((with_reducible refine Sh.k 116 ?_); refine Sh.gD (some 6) Tryz.func116 #[.int .i64 a0] (Qbi.calls a0 true _ A3.out) fun nd => ?_) | (go_at_call 76; (with_reducible refine (Qai.calls k a0 a1 ac _ A5.out).mono ?_); rintro e w' ⟨rfl, ⟨nd, rfl⟩⟩));go_ret;exact ⟨Sh.es, Sh.dr⟩
 ·replace c4 := Bool.eq_false_iff.mpr c4
  subst c4;rw [Sh.nf] at H;obtain rfl := Option.some.inj H;go_enter Tryz.func129, Tryz.ntmps129;go_wp2_with (first | ((with_reducible refine Sh.k 116 ?_); refine Sh.gD (some 6) Tryz.func116 #[.int .i64 a0] (Qbi.calls a0 false _ A3.out) fun nd => ?_));go_ret;exact ⟨Sh.es, Sh.dr⟩
def Qa3.f (k : Nat) (a0 : Int) (a1 : Int) (a2 : Int) : Option (Bool) := (Qa9.f k a0 a1).bind fun aa => (if aa = true then ((Qa9.f k a0 a2).bind fun ac => (some ac)) else (some false))
theorem Qa3.mono : ∀ a0 a1 a2 k, LeO (Qa3.f k a0 a1 a2) (Qa3.f (k + 1) a0 a1 a2) := by
 intro a0 a1 a2 k;unfold Qa3.f;repeat' with_reducible first | apply Qa9.mono | exact LeO.refl _ | exact LeO.none _ | apply LeO.ite | refine LeO.bind ?_ fun _ => ?_
theorem Qa3.calls (k : Nat) (a0 : Int) (a1 : Int) (a2 : Int) (r : Bool) (w : World) (h : Qa3.f k a0 a1 a2 = some r) :
  Calls Tryz.prog 118 #[.int .i64 a0, .int .u64 a1, .int .u64 a2] w fun e w' => e = .returned (.bool r) ∧ Drawn0 w w' := by
 have H := h;clear h;unfold Qa3.f at H;obtain ⟨aa, A4, H⟩ := Sh.ba H;by_cases c5 : aa = true
 ·subst c5
  rw [if_pos rfl] at H;obtain ⟨ac, A6, H⟩ := Sh.ba H;obtain rfl := Option.some.inj H;go_enter Tryz.func118, Tryz.ntmps118;go_wp2_with (first | ((with_reducible refine Sh.k 129 ?_); refine Sh.gD (some 9) Tryz.func129 #[.int .i64 a0, .int .u64 a1] (Qa9.calls k a0 a1 true _ A4.out) fun nd => ?_) | (go_at_call 129; (with_reducible refine (Qa9.calls k a0 a2 ac _ A6.out).mono ?_); rintro e w' ⟨rfl, ⟨nd, rfl⟩⟩));go_ret;exact ⟨Sh.es, Sh.dr⟩
 ·replace c5 := Bool.eq_false_iff.mpr c5
  subst c5;rw [Sh.nf] at H;obtain rfl := Option.some.inj H;go_enter Tryz.func118, Tryz.ntmps118;go_wp2_with (first | ((with_reducible refine Sh.k 129 ?_); refine Sh.gD (some 9) Tryz.func129 #[.int .i64 a0, .int .u64 a1] (Qa9.calls k a0 a1 false _ A4.out) fun nd => ?_));go_ret;exact ⟨Sh.es, Sh.dr⟩
def Qa2.f (k : Nat) (a0 : Int) (a1 : Int) (a2 : Int) : Option (Int × Int × Bool) := (Qa3.f k a0 a1 a2).bind fun aa => (if aa = true then (if a2 = 0 then ((Qai.f k a0 18446744073709551615).bind fun ac => (some (ac, a1, true))) else (some (IntKind.u64.wrap (Int.tdiv a1 a2), Int.tmod a1 a2, true))) else (some (0, 0, false)))
theorem Qa2.mono : ∀ a0 a1 a2 k, LeO (Qa2.f k a0 a1 a2) (Qa2.f (k + 1) a0 a1 a2) := by
 intro a0 a1 a2 k;unfold Qa2.f;repeat' with_reducible first | apply Qa3.mono | apply Qai.mono | exact LeO.refl _ | exact LeO.none _ | apply LeO.ite | refine LeO.bind ?_ fun _ => ?_
theorem Qa2.calls (k : Nat) (a0 : Int) (a1 : Int) (a2 : Int) (r1 : Int) (r2 : Int) (r3 : Bool) (w : World) (h : Qa2.f k a0 a1 a2 = some (r1, r2, r3)) :
  Calls Tryz.prog 93 #[.int .i64 a0, .int .u64 a1, .int .u64 a2] w fun e w' => e = .returned (.tuple #[.int .u64 r1, .int .u64 r2, .bool r3]) ∧ Drawn0 w w' := by
 have H := h;clear h;unfold Qa2.f at H;obtain ⟨ac, A4, H⟩ := Sh.ba H;by_cases c5 : ac = true
 ·subst c5
  rw [if_pos rfl] at H;by_cases c6 : a2 = 0
  ·rw [if_pos c6] at H
   have c6b0 : (a2 == 0) = true := beq_iff_eq.mpr c6;have c6b1 : (a2 != 0) = false := bne_eq_false_iff_eq.mpr c6;clear c6;obtain ⟨aa, A7, H⟩ := Sh.ba H;simp only [Option.some.injEq, Prod.mk.injEq] at H;obtain ⟨rfl, rfl, rfl⟩ := H;go_enter Tryz.func93, Tryz.ntmps93;go_wp2_with (first | (go_at_call 118; (with_reducible refine (Qa3.calls k a0 a1 a2 true _ A4.out).mono ?_); rintro e w' ⟨rfl, ⟨nd, rfl⟩⟩; (try first | exact ⟨rfl, _, World.drewN_drewN _ _ _⟩ | exact ⟨rfl, _, Eq.trans (World.drewN_drewN _ _ _) (congrArg (World.drewN _) (Nat.add_assoc _ _ _))⟩)) | (go_at_call 76; (with_reducible refine (Qai.calls k a0 18446744073709551615 aa _ A7.out).mono ?_); rintro e w' ⟨rfl, ⟨nd, rfl⟩⟩; (try first | exact ⟨rfl, _, World.drewN_drewN _ _ _⟩ | exact ⟨rfl, _, Eq.trans (World.drewN_drewN _ _ _) (congrArg (World.drewN _) (Nat.add_assoc _ _ _))⟩)));repeat (go_quiet (first | (go_at_call 118; (with_reducible refine (Qa3.calls k a0 a1 a2 true _ A4.out).mono ?_); rintro e w' ⟨rfl, ⟨nd, rfl⟩⟩; (try first | exact ⟨rfl, _, World.drewN_drewN _ _ _⟩ | exact ⟨rfl, _, Eq.trans (World.drewN_drewN _ _ _) (congrArg (World.drewN _) (Nat.add_assoc _ _ _))⟩)) | (go_at_call 76; (with_reducible refine (Qai.calls k a0 18446744073709551615 aa _ A7.out).mono ?_); rintro e w' ⟨rfl, ⟨nd, rfl⟩⟩; (try first | exact ⟨rfl, _, World.drewN_drewN _ _ _⟩ | exact ⟨rfl, _, Eq.trans (World.drewN_drewN _ _ _) (congrArg (World.drewN _) (Nat.add_assoc _ _ _))⟩))); try go_wp2_with (first | (go_at_call 118; (with_reducible refine (Qa3.calls k a0 a1 a2 true _ A4.out).mono ?_); rintro e w' ⟨rfl, ⟨nd, rfl⟩⟩; (try first | exact ⟨rfl, _, World.drewN_drewN _ _ _⟩ | exact ⟨rfl, _, Eq.trans (World.drewN_drewN _ _ _) (congrArg (World.drewN _) (Nat.add_assoc _ _ _))⟩)) | (go_at_call 76; (with_reducible refine (Qai.calls k a0 18446744073709551615 aa _ A7.out).mono ?_); rintro e w' ⟨rfl, ⟨nd, rfl⟩⟩; (try first | exact ⟨rfl, _, World.drewN_drewN _ _ _⟩ | exact ⟨rfl, _, Eq.trans (World.drewN_drewN _ _ _) (congrArg (World.drewN _) (Nat.add_assoc _ _ _))⟩))))
   go_ret3;exact ⟨Sh.es, Sh.dr⟩
  ·rw [if_neg c6] at H
   have c6b0 : (a2 == 0) = false := beq_eq_false_iff_ne.mpr c6;have c6b1 : (a2 != 0) = true := bne_iff_ne.mpr c6;simp only [Option.some.injEq, Prod.mk.injEq] at H;obtain ⟨rfl, rfl, rfl⟩ := H;go_enter Tryz.func93, Tryz.ntmps93;go_wp2_with (first | (go_at_call 118; (with_reducible refine (Qa3.calls k a0 a1 a2 true _ A4.out).mono ?_); rintro e w' ⟨rfl, ⟨nd, rfl⟩⟩; (try first | exact ⟨rfl, _, World.drewN_drewN _ _ _⟩ | exact ⟨rfl, _, Eq.trans (World.drewN_drewN _ _ _) (congrArg (World.drewN _) (Nat.add_assoc _ _ _))⟩)));repeat (go_quiet (first | (go_at_call 118; (with_reducible refine (Qa3.calls k a0 a1 a2 true _ A4.out).mono ?_); rintro e w' ⟨rfl, ⟨nd, rfl⟩⟩; (try first | exact ⟨rfl, _, World.drewN_drewN _ _ _⟩ | exact ⟨rfl, _, Eq.trans (World.drewN_drewN _ _ _) (congrArg (World.drewN _) (Nat.add_assoc _ _ _))⟩))); try go_wp2_with (first | (go_at_call 118; (with_reducible refine (Qa3.calls k a0 a1 a2 true _ A4.out).mono ?_); rintro e w' ⟨rfl, ⟨nd, rfl⟩⟩; (try first | exact ⟨rfl, _, World.drewN_drewN _ _ _⟩ | exact ⟨rfl, _, Eq.trans (World.drewN_drewN _ _ _) (congrArg (World.drewN _) (Nat.add_assoc _ _ _))⟩))))
   go_ret3;exact ⟨Sh.es, Sh.dr⟩
 ·replace c5 := Bool.eq_false_iff.mpr c5
  subst c5;rw [Sh.nf] at H;simp only [Option.some.injEq, Prod.mk.injEq] at H;obtain ⟨rfl, rfl, rfl⟩ := H;go_enter Tryz.func93, Tryz.ntmps93;go_wp2_with (first | (go_at_call 118; (with_reducible refine (Qa3.calls k a0 a1 a2 false _ A4.out).mono ?_); rintro e w' ⟨rfl, ⟨nd, rfl⟩⟩; (try first | exact ⟨rfl, _, World.drewN_drewN _ _ _⟩ | exact ⟨rfl, _, Eq.trans (World.drewN_drewN _ _ _) (congrArg (World.drewN _) (Nat.add_assoc _ _ _))⟩)));repeat (go_quiet (first | (go_at_call 118; (with_reducible refine (Qa3.calls k a0 a1 a2 false _ A4.out).mono ?_); rintro e w' ⟨rfl, ⟨nd, rfl⟩⟩; (try first | exact ⟨rfl, _, World.drewN_drewN _ _ _⟩ | exact ⟨rfl, _, Eq.trans (World.drewN_drewN _ _ _) (congrArg (World.drewN _) (Nat.add_assoc _ _ _))⟩))); try go_wp2_with (first | (go_at_call 118; (with_reducible refine (Qa3.calls k a0 a1 a2 false _ A4.out).mono ?_); rintro e w' ⟨rfl, ⟨nd, rfl⟩⟩; (try first | exact ⟨rfl, _, World.drewN_drewN _ _ _⟩ | exact ⟨rfl, _, Eq.trans (World.drewN_drewN _ _ _) (congrArg (World.drewN _) (Nat.add_assoc _ _ _))⟩))))
  go_ret3;exact ⟨Sh.es, Sh.dr⟩
def QaA.l0 : Nat → Int → Int → Int → Bool → Option (Int)
 | 0, _, _, _, _ => none
 | k + 1, x0, x1, x2, x3 => if x2 > 0 then (if x3 = true then ((Qai.f k x0 (IntKind.u64.wrap (x1 * 2))).bind fun aa => (QaA.l0 k x0 aa (IntKind.u64.wrap (x2 - 1)) x3)) else (QaA.l0 k x0 (x1 / 2) (IntKind.u64.wrap (x2 - 1)) x3)) else (some x1)
def QaA.f (k : Nat) (a0 : Int) (a1 : Int) (a2 : Int) (a3 : Bool) : Option (Int) := if a2 ≥ (IntKind.u64.wrap (a0)) then (some 0) else (QaA.l0 k a0 a1 a2 a3)
theorem QaA.mono_l : ∀ k, (∀ y0 y1 y2 y3, LeO (QaA.l0 k y0 y1 y2 y3) (QaA.l0 (k + 1) y0 y1 y2 y3))
 | 0 => fun _ _ _ _ r h => by simp [QaA.l0] at h
 | k + 1 => by
  have aa := QaA.mono_l k
  ·intro y0 y1 y2 y3
   unfold QaA.l0
   repeat' with_reducible first | apply aa | apply Qai.mono | exact LeO.refl _ | exact LeO.none _ | apply LeO.ite | refine LeO.bind ?_ fun _ => ?_
theorem QaA.mono : ∀ a0 a1 a2 a3 k, LeO (QaA.f k a0 a1 a2 a3) (QaA.f (k + 1) a0 a1 a2 a3) := by
 intro a0 a1 a2 a3 k;have aa := QaA.mono_l k;unfold QaA.f;repeat' with_reducible first | apply aa | apply Qai.mono | exact LeO.refl _ | exact LeO.none _ | apply LeO.ite | refine LeO.bind ?_ fun _ => ?_
theorem QaA.calls (k : Nat) (a0 : Int) (a1 : Int) (a2 : Int) (a3 : Bool) (r : Int) (w : World) (h : QaA.f k a0 a1 a2 a3 = some r) :
  Calls Tryz.prog 94 #[.int .i64 a0, .int .u64 a1, .int .u64 a2, .bool a3] w fun e w' => e = .returned (.int .u64 r) ∧ Drawn0 w w' := by
 have H := h;clear h;unfold QaA.f at H;by_cases c5 : a2 ≥ (IntKind.u64.wrap (a0))
 ·rw [if_pos c5] at H
  have c5b0 : decide ((IntKind.u64.wrap (a0)) ≤ a2) = true := decide_eq_true c5;clear c5;obtain rfl := Option.some.inj H;go_enter Tryz.func94, Tryz.ntmps94;go_wp2;go_ret;exact ⟨Sh.es, Sh.dr⟩
 ·rw [if_neg c5] at H
  have c5b0 : decide ((IntKind.u64.wrap (a0)) ≤ a2) = false := decide_eq_false c5;clear c5;have H' := am_ H;clear H;go_enter Tryz.func94, Tryz.ntmps94;go_wp2;go_loopg [1, 2] k (fun kq v1 v2 w' => ∃ (ac : Int) (aa : Int), v1 = .int .u64 ac ∧ v2 = .int .u64 aa ∧ Aside0 (QaA.l0 kq a0 ac aa a3 = some r) ∧ Aside0 (kq ≤ k) ∧ Drawn0 w w')
  case atStart => exact ⟨(a1), (a2), (Sh.es), (Sh.es), H', ⟨Nat.le_refl _⟩, Sh.dr⟩
  case round =>
   clear H';obtain ⟨ac, aa, rfl, rfl, HA, af, ⟨m1, rfl⟩⟩ := hrel;cases gk with
   | zero => exact absurd HA.out (by simp [QaA.l0])
   | succ k1 =>
    have H := HA.out;clear HA;simp only [QaA.l0] at H;by_cases c6 : aa > 0
    ·rw [if_pos c6] at H
     have c6b0 : decide (0 < aa) = true := decide_eq_true c6;clear c6;by_cases c7 : a3 = true
     ·subst c7
      rw [if_pos rfl] at H;obtain ⟨ae, A8, H⟩ := Sh.ba H;have H' := am_ H;clear H;go_wp2_with (first | ((with_reducible refine Sh.k 76 ?_); refine Sh.gD (some 21) Tryz.func76 #[.int .i64 a0, .int .u64 (IntKind.u64.wrap (ac * 2))] (Qai.calls k1 a0 (IntKind.u64.wrap (ac * 2)) ae _ A8.out) fun nd => ?_));go_roundg k1
      case measure => have := af.out; omega
      case rel => exact ⟨(ae), (IntKind.u64.wrap (aa - 1)), (Sh.es), (Sh.es), H', ⟨by have := af.out; omega⟩, Sh.dr⟩
     ·replace c7 := Bool.eq_false_iff.mpr c7
      subst c7;rw [Sh.nf] at H;have H' := am_ H;clear H;go_wp2;go_roundg k1
      case measure => have := af.out; omega
      case rel => exact ⟨(ac / 2), (IntKind.u64.wrap (aa - 1)), (Sh.es), (Sh.es), H', ⟨by have := af.out; omega⟩, Sh.dr⟩
    ·rw [if_neg c6] at H
     have c6b0 : decide (0 < aa) = false := decide_eq_false c6;clear c6;obtain rfl := Option.some.inj H;go_wp2;go_ret;exact ⟨Sh.es, Sh.dr⟩
def Qbb.f (a0 : Bool) : Option (Int) := if a0 = true then (some 1) else (some 0)
theorem Qbb.calls (a0 : Bool) (r : Int) (w : World) (h : Qbb.f a0 = some r) :
  Calls Tryz.prog 95 #[.bool a0] w fun e w' => e = .returned (.int .u64 r) ∧ Drawn0 w w' := by
 have H := h;clear h;unfold Qbb.f at H;by_cases c2 : a0 = true
 ·subst c2
  rw [if_pos rfl] at H;obtain rfl := Option.some.inj H;go_enter Tryz.func95, Tryz.ntmps95;go_wp2;go_ret;exact ⟨Sh.es, Sh.dr⟩
 ·replace c2 := Bool.eq_false_iff.mpr c2
  subst c2;rw [Sh.nf] at H;obtain rfl := Option.some.inj H;go_enter Tryz.func95, Tryz.ntmps95;go_wp2;go_ret;exact ⟨Sh.es, Sh.dr⟩
def Qa5.f (k : Nat) (a0 : Int) (a1 : Int) : Option (Int) := if 0 ≤ (IntKind.u64.wrap (wrap64 (a0 - 1))) then (if (Go.bits .and .u64 (shr .u64 a1 (IntKind.u64.wrap (wrap64 (a0 - 1)))) 1) = 1 then ((Qai.f k a0 18446744073709551615).bind fun aa => (some (wrap64 (Go.bits .or .u64 a1 (Go.bits .xor .u64 18446744073709551615 aa))))) else (some (wrap64 (a1)))) else (none)
theorem Qa5.mono : ∀ a0 a1 k, LeO (Qa5.f k a0 a1) (Qa5.f (k + 1) a0 a1) := by
 intro a0 a1 k;unfold Qa5.f;repeat' with_reducible first | apply Qai.mono | exact LeO.refl _ | exact LeO.none _ | apply LeO.ite | refine LeO.bind ?_ fun _ => ?_
theorem Qa5.calls (k : Nat) (a0 : Int) (a1 : Int) (r : Int) (w : World) (h : Qa5.f k a0 a1 = some r) :
  Calls Tryz.prog 96 #[.int .i64 a0, .int .u64 a1] w fun e w' => e = .returned (.int .i64 r) ∧ Drawn0 w w' := by
 have H := h;clear h;unfold Qa5.f at H;obtain ⟨ae, hj1⟩ : ∃ j_ : Int, (IntKind.u64.wrap (wrap64 (a0 - 1))) = j_ := ⟨_, rfl⟩;replace H : (if 0 ≤ (ae) then (if (Go.bits .and .u64 (shr .u64 a1 (ae)) 1) = 1 then ((Qai.f k a0 18446744073709551615).bind fun aa => (some (wrap64 (Go.bits .or .u64 a1 (Go.bits .xor .u64 18446744073709551615 aa))))) else (some (wrap64 (a1)))) else (none)) = some r := by first | (rw [hj1] at H; exact H) | (simp only [hj1] at H ⊢; exact H)
 by_cases c4 : 0 ≤ (ae)
 ·rw [if_pos c4] at H
  have c4b0 := eq_true c4;have c4b1 := decide_eq_true c4;clear c4;obtain ⟨ac, hj2⟩ : ∃ j_ : Int, (shr .u64 a1 (ae)) = j_ := ⟨_, rfl⟩;replace H : (if (Go.bits .and .u64 (ac) 1) = 1 then ((Qai.f k a0 18446744073709551615).bind fun aa => (some (wrap64 (Go.bits .or .u64 a1 (Go.bits .xor .u64 18446744073709551615 aa))))) else (some (wrap64 (a1)))) = some r := by first | (rw [hj2] at H; exact H) | (simp only [hj2] at H ⊢; exact H)
  have af : (a1 / 2 ^ min (ae).toNat 64) = ac := hj2;have hji5z : (ae) ≤ 64 → (a1 / 2 ^ (ae).toNat) = ac := shr_small hj2;by_cases c6 : (Go.bits .and .u64 (ac) 1) = 1
  ·rw [if_pos c6] at H
   have c6b0 : ((Go.bits .and .u64 (ac) 1) == 1) = true := beq_iff_eq.mpr c6;have c6b1 : ((Go.bits .and .u64 (ac) 1) != 1) = false := bne_eq_false_iff_eq.mpr c6;clear c6;obtain ⟨aa, A7, H⟩ := Sh.ba H;obtain rfl := Option.some.inj H;go_enter Tryz.func96, Tryz.ntmps96;go_wp2_with (first | ((with_reducible refine Sh.k 76 ?_); refine Sh.gD (some 14) Tryz.func76 #[.int .i64 a0, .int .u64 18446744073709551615] (Qai.calls k a0 18446744073709551615 aa _ A7.out) fun nd => ?_));go_ret;exact ⟨by first | rfl | (simp; done) | (simp only [← hj1, ← hj2] <;> (first | rfl | simp)) | (simp [*]; done), Sh.dr⟩
  ·rw [if_neg c6] at H
   have c6b0 : ((Go.bits .and .u64 (ac) 1) == 1) = false := beq_eq_false_iff_ne.mpr c6;have c6b1 : ((Go.bits .and .u64 (ac) 1) != 1) = true := bne_iff_ne.mpr c6;obtain rfl := Option.some.inj H;go_enter Tryz.func96, Tryz.ntmps96;go_wp2;go_ret;exact ⟨by first | rfl | (simp; done) | (simp only [← hj1, ← hj2] <;> (first | rfl | simp)) | (simp [*]; done), Sh.dr⟩
 ·rw [if_neg c4] at H
  cases H
mutual
def Qae.j0 : Nat → Int → Int → Int → Int → Bool → Option (Int)
 | 0, _, _, _, _, _ => none
 | k + 1, x0, x2, x3, aa, ak => if ak = true then (some (Go.bits .and .u64 x2 x3)) else (if aa = 9 then (Qae.j1 k x0 x2 x3 aa (aa == 9)) else (Qae.j1 k x0 x2 x3 aa (aa == 18)))
def Qae.j1 : Nat → Int → Int → Int → Int → Bool → Option (Int)
 | 0, _, _, _, _, _ => none
 | k + 1, x0, x2, x3, aa, al => if al = true then (some (Go.bits .or .u64 x2 x3)) else (if aa = 10 then (some (Go.bits .xor .u64 x2 x3)) else (if aa = 11 then ((QaA.f k x0 x2 x3 true).bind fun t131 => (some t131)) else (if aa = 12 then ((QaA.f k x0 x2 x3 false).bind fun ac => (some ac)) else (if aa = 14 then ((Qbb.f (x2 == x3)).bind fun ae => (some ae)) else (if aa = 15 then ((Qbb.f (decide (x2 < x3))).bind fun af => (some af)) else (if aa = 16 then ((Qa5.f k x0 x2).bind fun ah => ((Qa5.f k x0 x3).bind fun ai => ((Qbb.f (decide (ah < ai))).bind fun aj => (some aj)))) else (some 0)))))))
end
def Qae.f (k : Nat) (a0 : Int) (a1 : Int) (a2 : Int) (a3 : Int) : Option (Int) := (Qa2.f k a0 a2 a3).bind fun aa => (if a1 = 3 then ((Qai.f k a0 (IntKind.u64.wrap (a2 + a3))).bind fun ac => (some ac)) else (if a1 = 4 then ((Qai.f k a0 (IntKind.u64.wrap (a2 - a3))).bind fun ae => (some ae)) else (if a1 = 5 then ((Qai.f k a0 (IntKind.u64.wrap (a2 * a3))).bind fun af => (some af)) else (if a1 = 6 then (some aa.1) else (if a1 = 7 then (some aa.2.1) else (if a1 = 8 then (Qae.j0 k a0 a2 a3 a1 (a1 == 8)) else (Qae.j0 k a0 a2 a3 a1 (a1 == 17))))))))
theorem Qae.mono_l : ∀ k, (∀ y0 y1 y2 y3 y4, LeO (Qae.j0 k y0 y1 y2 y3 y4) (Qae.j0 (k + 1) y0 y1 y2 y3 y4)) ∧ (∀ y0 y1 y2 y3 y4, LeO (Qae.j1 k y0 y1 y2 y3 y4) (Qae.j1 (k + 1) y0 y1 y2 y3 y4))
 | 0 => ⟨fun _ _ _ _ _ r h => by simp [Qae.j0] at h, fun _ _ _ _ _ r h => by simp [Qae.j1] at h⟩
 | k + 1 => by
  obtain ⟨aa, ac⟩ := Qae.mono_l k
  and_intros <;> intros
  all_goals (first | unfold Qae.j0 | unfold Qae.j1)
  all_goals repeat' with_reducible first | apply aa | apply ac | apply Qa2.mono | apply Qai.mono | apply QaA.mono | apply Qa5.mono | exact LeO.refl _ | exact LeO.none _ | apply LeO.ite | refine LeO.bind ?_ fun _ => ?_
theorem Qae.mono : ∀ a0 a1 a2 a3 k, LeO (Qae.f k a0 a1 a2 a3) (Qae.f (k + 1) a0 a1 a2 a3) := by
 intro a0 a1 a2 a3 k;obtain ⟨aa, ac⟩ := Qae.mono_l k;unfold Qae.f;repeat' with_reducible first | apply aa | apply ac | apply Qa2.mono | apply Qai.mono | apply QaA.mono | apply Qa5.mono | exact LeO.refl _ | exact LeO.none _ | apply LeO.ite | refine LeO.bind ?_ fun _ => ?_
theorem Qae.calls (k : Nat) (a0 : Int) (a1 : Int) (a2 : Int) (a3 : Int) (r : Int) (w : World) (h : Qae.f k a0 a1 a2 a3 = some r) :
  Calls Tryz.prog 77 #[.int .i64 a0, .int .i64 a1, .int .u64 a2, .int .u64 a3] w fun e w' => e = .returned (.int .u64 r) ∧ Drawn0 w w' := by
 have H := h;clear h;unfold Qae.f at H;obtain ⟨⟨ae, af, ah⟩, aM, H⟩ := Sh.bd H;have A5 := am_ aM;clear aM;by_cases c6 : a1 = 3
 ·rw [if_pos c6] at H
  have c6b0 : (a1 == 3) = true := beq_iff_eq.mpr c6;have c6b1 : (a1 != 3) = false := bne_eq_false_iff_eq.mpr c6;clear c6;obtain ⟨aE, A7, H⟩ := Sh.ba H;obtain rfl := Option.some.inj H;go_enter Tryz.func77, Tryz.ntmps77;go_wp2_with (first | ((with_reducible refine Sh.k 93 ?_); refine Sh.gD (some 16) Tryz.func93 #[.int .i64 a0, .int .u64 a2, .int .u64 a3] (Qa2.calls k a0 a2 a3 ae af ah _ A5.out) fun nd => ?_) | ((with_reducible refine Sh.k 76 ?_); refine Sh.gD (some 27) Tryz.func76 #[.int .i64 a0, .int .u64 (IntKind.u64.wrap (a2 + a3))] (Qai.calls k a0 (IntKind.u64.wrap (a2 + a3)) aE _ A7.out) fun nd => ?_));go_ret;exact ⟨Sh.es, Sh.dr⟩
 ·rw [if_neg c6] at H
  have c6b0 : (a1 == 3) = false := beq_eq_false_iff_ne.mpr c6;have c6b1 : (a1 != 3) = true := bne_iff_ne.mpr c6;by_cases c8 : a1 = 4
  ·rw [if_pos c8] at H
   have c8b0 : (a1 == 4) = true := beq_iff_eq.mpr c8;have c8b1 : (a1 != 4) = false := bne_eq_false_iff_eq.mpr c8;clear c8;obtain ⟨aF, A9, H⟩ := Sh.ba H;obtain rfl := Option.some.inj H;go_enter Tryz.func77, Tryz.ntmps77;go_wp2_with (first | ((with_reducible refine Sh.k 93 ?_); refine Sh.gD (some 16) Tryz.func93 #[.int .i64 a0, .int .u64 a2, .int .u64 a3] (Qa2.calls k a0 a2 a3 ae af ah _ A5.out) fun nd => ?_) | ((with_reducible refine Sh.k 76 ?_); refine Sh.gD (some 34) Tryz.func76 #[.int .i64 a0, .int .u64 (IntKind.u64.wrap (a2 - a3))] (Qai.calls k a0 (IntKind.u64.wrap (a2 - a3)) aF _ A9.out) fun nd => ?_));go_ret;exact ⟨Sh.es, Sh.dr⟩
  ·rw [if_neg c8] at H
   have c8b0 : (a1 == 4) = false := beq_eq_false_iff_ne.mpr c8;have c8b1 : (a1 != 4) = true := bne_iff_ne.mpr c8;by_cases aj : a1 = 5
   ·rw [if_pos aj] at H
    have c10b0 : (a1 == 5) = true := beq_iff_eq.mpr aj;have c10b1 : (a1 != 5) = false := bne_eq_false_iff_eq.mpr aj;clear aj;obtain ⟨aG, aN, H⟩ := Sh.ba H;obtain rfl := Option.some.inj H;go_enter Tryz.func77, Tryz.ntmps77;go_wp2_with (first | ((with_reducible refine Sh.k 93 ?_); refine Sh.gD (some 16) Tryz.func93 #[.int .i64 a0, .int .u64 a2, .int .u64 a3] (Qa2.calls k a0 a2 a3 ae af ah _ A5.out) fun nd => ?_) | ((with_reducible refine Sh.k 76 ?_); refine Sh.gD (some 41) Tryz.func76 #[.int .i64 a0, .int .u64 (IntKind.u64.wrap (a2 * a3))] (Qai.calls k a0 (IntKind.u64.wrap (a2 * a3)) aG _ aN.out) fun nd => ?_));go_ret;exact ⟨Sh.es, Sh.dr⟩
   ·rw [if_neg aj] at H
    have c10b0 : (a1 == 5) = false := beq_eq_false_iff_ne.mpr aj;have c10b1 : (a1 != 5) = true := bne_iff_ne.mpr aj;by_cases ak : a1 = 6
    ·rw [if_pos ak] at H
     have c12b0 : (a1 == 6) = true := beq_iff_eq.mpr ak;have c12b1 : (a1 != 6) = false := bne_eq_false_iff_eq.mpr ak;clear ak;obtain rfl := Option.some.inj H;go_enter Tryz.func77, Tryz.ntmps77;go_wp2_with (first | ((with_reducible refine Sh.k 93 ?_); refine Sh.gD (some 16) Tryz.func93 #[.int .i64 a0, .int .u64 a2, .int .u64 a3] (Qa2.calls k a0 a2 a3 ae af ah _ A5.out) fun nd => ?_));go_ret;exact ⟨Sh.es, Sh.dr⟩
    ·rw [if_neg ak] at H
     have c12b0 : (a1 == 6) = false := beq_eq_false_iff_ne.mpr ak;have c12b1 : (a1 != 6) = true := bne_iff_ne.mpr ak;by_cases al : a1 = 7
     ·rw [if_pos al] at H
      have c13b0 : (a1 == 7) = true := beq_iff_eq.mpr al;have c13b1 : (a1 != 7) = false := bne_eq_false_iff_eq.mpr al;clear al;obtain rfl := Option.some.inj H;go_enter Tryz.func77, Tryz.ntmps77;go_wp2_with (first | ((with_reducible refine Sh.k 93 ?_); refine Sh.gD (some 16) Tryz.func93 #[.int .i64 a0, .int .u64 a2, .int .u64 a3] (Qa2.calls k a0 a2 a3 ae af ah _ A5.out) fun nd => ?_));go_ret;exact ⟨Sh.es, Sh.dr⟩
     ·rw [if_neg al] at H
      have c13b0 : (a1 == 7) = false := beq_eq_false_iff_ne.mpr al;have c13b1 : (a1 != 7) = true := bne_iff_ne.mpr al;have am := am_ H;clear H;go_enter Tryz.func77, Tryz.ntmps77;go_upto_if 48 with (first | ((with_reducible refine Sh.k 93 ?_); refine Sh.gD (some 16) Tryz.func93 #[.int .i64 a0, .int .u64 a2, .int .u64 a3] (Qa2.calls k a0 a2 a3 ae af ah _ A5.out) fun nd => ?_))
      (try simp only [Act.put, List.setIfInBounds_toArray, List.set_cons_zero, List.set_cons_succ]);go_cut [48] (fun aO wc => ∃ (kq : Nat) (aa : Bool), aO = .bool aa ∧ Aside0 (Qae.j0 kq a0 a2 a3 a1 aa = some r) ∧ Aside0 (kq ≤ k) ∧ Drawn0 w wc)
      case first =>
       have H := am.out;clear am;by_cases ao : a1 = 8
       ·rw [if_pos ao] at H
        have c15b0 : (a1 == 8) = true := beq_iff_eq.mpr ao;have c15b1 : (a1 != 8) = false := bne_eq_false_iff_eq.mpr ao;clear ao;first | rw [c15b0] | (simp only [i64_w, i32_w]; rw [c15b0]) | skip
        have H' := am_ H;clear H;go_wp2;go_meet
        case rel => exact ⟨_, ((a1 == 8)), (Sh.es), H', ⟨Sh.om⟩, Sh.dr⟩
       ·rw [if_neg ao] at H
        have c15b0 : (a1 == 8) = false := beq_eq_false_iff_ne.mpr ao;have c15b1 : (a1 != 8) = true := bne_iff_ne.mpr ao;first | rw [c15b0] | (simp only [i64_w, i32_w]; rw [c15b0]) | skip
        have H' := am_ H;clear H;go_wp2;go_meet
        case rel => exact ⟨_, ((a1 == 17)), (Sh.es), H', ⟨Sh.om⟩, Sh.dr⟩
      case rest =>
       clear am;obtain ⟨kq, aa, rfl, HA, aB, ⟨aP, rfl⟩⟩ := hcut;cases kq with
       | zero => exact absurd HA.out (by simp [Qae.j0])
       | succ aH =>
        have H := HA.out;clear HA;simp only [Qae.j0] at H;by_cases aC : aa = true
        ·subst aC
         rw [if_pos rfl] at H;obtain rfl := Option.some.inj H;go_wp2;go_ret;exact ⟨Sh.es, Sh.dr⟩
        ·replace aC := Bool.eq_false_iff.mpr aC
         subst aC;rw [Sh.nf] at H;have ap := am_ H;clear H;go_upto_if 54 with (fail)
         go_cut [54] (fun aQ wc => ∃ (kq : Nat) (ac : Bool), aQ = .bool ac ∧ Aside0 (Qae.j1 kq a0 a2 a3 a1 ac = some r) ∧ Aside0 (kq ≤ aH) ∧ Drawn0 w wc)
         case first =>
          have H := ap.out;clear ap;by_cases aq : a1 = 9
          ·rw [if_pos aq] at H
           have c18b0 : (a1 == 9) = true := beq_iff_eq.mpr aq;have c18b1 : (a1 != 9) = false := bne_eq_false_iff_eq.mpr aq;clear aq;first | rw [c18b0] | (simp only [i64_w, i32_w]; rw [c18b0]) | skip
           have H' := am_ H;clear H;go_wp2;go_meet
           case rel => exact ⟨_, ((a1 == 9)), (Sh.es), H', ⟨by have := aB.out; first | omega | exact Nat.le_refl _⟩, Sh.dr⟩
          ·rw [if_neg aq] at H
           have c18b0 : (a1 == 9) = false := beq_eq_false_iff_ne.mpr aq;have c18b1 : (a1 != 9) = true := bne_iff_ne.mpr aq;first | rw [c18b0] | (simp only [i64_w, i32_w]; rw [c18b0]) | skip
           have H' := am_ H;clear H;go_wp2;go_meet
           case rel => exact ⟨_, ((a1 == 18)), (Sh.es), H', ⟨by have := aB.out; first | omega | exact Nat.le_refl _⟩, Sh.dr⟩
         case rest =>
          clear ap;obtain ⟨kq, ac, rfl, HA, aR, ⟨aS, rfl⟩⟩ := hcut;cases kq with
          | zero => exact absurd HA.out (by simp [Qae.j1])
          | succ ai =>
           have H := HA.out;clear HA;simp only [Qae.j1] at H;by_cases aD : ac = true
           ·subst aD
            rw [if_pos rfl] at H;obtain rfl := Option.some.inj H;go_wp2;go_ret;exact ⟨Sh.es, Sh.dr⟩
           ·replace aD := Bool.eq_false_iff.mpr aD
            subst aD;rw [Sh.nf] at H;by_cases ar : a1 = 10
            ·rw [if_pos ar] at H
             have c20b0 : (a1 == 10) = true := beq_iff_eq.mpr ar;have c20b1 : (a1 != 10) = false := bne_eq_false_iff_eq.mpr ar;clear ar;obtain rfl := Option.some.inj H;go_wp2;go_ret;exact ⟨Sh.es, Sh.dr⟩
            ·rw [if_neg ar] at H
             have c20b0 : (a1 == 10) = false := beq_eq_false_iff_ne.mpr ar;have c20b1 : (a1 != 10) = true := bne_iff_ne.mpr ar;by_cases au : a1 = 11
             ·rw [if_pos au] at H
              have c21b0 : (a1 == 11) = true := beq_iff_eq.mpr au;have c21b1 : (a1 != 11) = false := bne_eq_false_iff_eq.mpr au;clear au;obtain ⟨t131, aT, H⟩ := Sh.ba H;obtain rfl := Option.some.inj H;go_wp2_with (first | ((with_reducible refine Sh.k 94 ?_); refine Sh.gD (some 70) Tryz.func94 #[.int .i64 a0, .int .u64 a2, .int .u64 a3, .bool true] (QaA.calls ai a0 a2 a3 true t131 _ aT.out) fun nd => ?_));go_ret;exact ⟨Sh.es, Sh.dr⟩
             ·rw [if_neg au] at H
              have c21b0 : (a1 == 11) = false := beq_eq_false_iff_ne.mpr au;have c21b1 : (a1 != 11) = true := bne_iff_ne.mpr au;by_cases av : a1 = 12
              ·rw [if_pos av] at H
               have c23b0 : (a1 == 12) = true := beq_iff_eq.mpr av;have c23b1 : (a1 != 12) = false := bne_eq_false_iff_eq.mpr av;clear av;obtain ⟨aI, aU, H⟩ := Sh.ba H;obtain rfl := Option.some.inj H;go_wp2_with (first | ((with_reducible refine Sh.k 94 ?_); refine Sh.gD (some 76) Tryz.func94 #[.int .i64 a0, .int .u64 a2, .int .u64 a3, .bool false] (QaA.calls ai a0 a2 a3 false aI _ aU.out) fun nd => ?_));go_ret;exact ⟨Sh.es, Sh.dr⟩
              ·rw [if_neg av] at H
               have c23b0 : (a1 == 12) = false := beq_eq_false_iff_ne.mpr av;have c23b1 : (a1 != 12) = true := bne_iff_ne.mpr av;by_cases aw : a1 = 14
               ·rw [if_pos aw] at H
                have c25b0 : (a1 == 14) = true := beq_iff_eq.mpr aw;have c25b1 : (a1 != 14) = false := bne_eq_false_iff_eq.mpr aw;clear aw;obtain ⟨aJ, aV, H⟩ := Sh.ba H;obtain rfl := Option.some.inj H;go_wp2_with (first | ((with_reducible refine Sh.k 95 ?_); refine Sh.gD (some 82) Tryz.func95 #[.bool (a2 == a3)] (Qbb.calls (a2 == a3) aJ _ aV.out) fun nd => ?_));go_ret;exact ⟨Sh.es, Sh.dr⟩
               ·rw [if_neg aw] at H
                have c25b0 : (a1 == 14) = false := beq_eq_false_iff_ne.mpr aw;have c25b1 : (a1 != 14) = true := bne_iff_ne.mpr aw;by_cases ax : a1 = 15
                ·rw [if_pos ax] at H
                 have c27b0 : (a1 == 15) = true := beq_iff_eq.mpr ax;have c27b1 : (a1 != 15) = false := bne_eq_false_iff_eq.mpr ax;clear ax;obtain ⟨aK, aW, H⟩ := Sh.ba H;obtain rfl := Option.some.inj H;go_wp2_with (first | ((with_reducible refine Sh.k 95 ?_); refine Sh.gD (some 88) Tryz.func95 #[.bool (decide (a2 < a3))] (Qbb.calls (decide (a2 < a3)) aK _ aW.out) fun nd => ?_));go_ret;exact ⟨Sh.es, Sh.dr⟩
                ·rw [if_neg ax] at H
                 have c27b0 : (a1 == 15) = false := beq_eq_false_iff_ne.mpr ax;have c27b1 : (a1 != 15) = true := bne_iff_ne.mpr ax;by_cases ay : a1 = 16
                 ·rw [if_pos ay] at H
                  have c29b0 : (a1 == 16) = true := beq_iff_eq.mpr ay;have c29b1 : (a1 != 16) = false := bne_eq_false_iff_eq.mpr ay;clear ay;obtain ⟨az, aX, H⟩ := Sh.ba H;obtain ⟨aA, aY, H⟩ := Sh.ba H;obtain ⟨aL, aZ, H⟩ := Sh.ba H;obtain rfl := Option.some.inj H;go_wp2_with (first | ((with_reducible refine Sh.k 96 ?_); refine Sh.gD (some 93) Tryz.func96 #[.int .i64 a0, .int .u64 a2] (Qa5.calls ai a0 a2 az _ aX.out) fun nd => ?_) | ((with_reducible refine Sh.k 96 ?_); refine Sh.gD (some 96) Tryz.func96 #[.int .i64 a0, .int .u64 a3] (Qa5.calls ai a0 a3 aA _ aY.out) fun nd => ?_) | ((with_reducible refine Sh.k 95 ?_); refine Sh.gD (some 98) Tryz.func95 #[.bool (decide (az < aA))] (Qbb.calls (decide (az < aA)) aL _ aZ.out) fun nd => ?_));go_ret;exact ⟨Sh.es, Sh.dr⟩
                 ·rw [if_neg ay] at H
                  have c29b0 : (a1 == 16) = false := beq_eq_false_iff_ne.mpr ay;have c29b1 : (a1 != 16) = true := bne_iff_ne.mpr ay;obtain rfl := Option.some.inj H;go_wp2;go_ret;exact ⟨Sh.es, Sh.dr⟩
mutual
def Qav.l0 : Nat → List (S77) → Int → Int → Option (Int)
 | 0, _, _, _ => none
 | k + 1, x0, x5, x8 => if x5 > 0 then ((Qav.f k x0 (wrap64 (x8 - 1))).bind fun ac => (Qav.l0 k x0 (wrap64 (x5 - 1)) ac)) else (some x8)
def Qav.f : Nat → List (S77) → Int → Option (Int)
 | 0, _, _ => none
 | k + 1, l0, a1 => if 0 ≤ a1 then (if a1 < (l0.length : Int) then ((Qau.f k ((rd_T77 l0 a1).f0)).bind fun aa => (Qav.l0 k l0 aa.1 a1)) else (none)) else (none)
end
theorem Qav.mono_l : ∀ k, (∀ y0 y1, LeO (Qav.f k y0 y1) (Qav.f (k + 1) y0 y1)) ∧ (∀ y0 y1 y2, LeO (Qav.l0 k y0 y1 y2) (Qav.l0 (k + 1) y0 y1 y2))
 | 0 => ⟨fun _ _ r h => by simp [Qav.f] at h, fun _ _ _ r h => by simp [Qav.l0] at h⟩
 | k + 1 => by
  obtain ⟨aa, ac⟩ := Qav.mono_l k
  and_intros <;> intros
  all_goals (first | unfold Qav.f | unfold Qav.l0)
  all_goals repeat' with_reducible first | apply aa | apply ac | apply Qau.mono | exact LeO.refl _ | exact LeO.none _ | apply LeO.ite | refine LeO.bind ?_ fun _ => ?_
theorem Qav.mono : ∀ a0 a1 k, LeO (Qav.f k a0 a1) (Qav.f (k + 1) a0 a1) := by
 intro a0 a1 k;obtain ⟨aa, ac⟩ := Qav.mono_l k;exact aa a0 a1
theorem Qav.calls (k : Nat) : ∀ (A0 : Option Addr) (c0 : Nat) (l0 : List (S77)) (a1 : Int) (r : Int) (w : World) (ao : Kd.C k77 w A0 l0.length l0) (hc0 : l0.length ≤ c0) (h : Qav.f k l0 a1 = some r),
  Calls Tryz.prog 78 #[.slice A0 l0.length c0, .int .i64 a1] w fun e w' => e = .returned (.int .i64 r) ∧ Drawn0 w w' := by
 induction k using Nat.strongRecOn with
 | _ k ih =>
 intro A0 c0 l0 a1 r w ao hc0 h;cases k with
 | zero => exact absurd h (by simp [Qav.f])
 | succ k =>
 simp only [Qav.f] at h;have av := am_ ao;have ax := am_ hc0;clear ao hc0;have H : (if 0 ≤ a1 then (if a1 < (l0.length : Int) then ((Qau.f k ((rd_T77 l0 a1).f0)).bind fun aj => (Qav.l0 k l0 aj.1 a1)) else (none)) else (none)) = some r := h;clear h;by_cases c3 : 0 ≤ a1
 ·rw [if_pos c3] at H
  replace c3 := decide_eq_true c3;by_cases c4 : a1 < (l0.length : Int)
  ·rw [if_pos c4] at H
   replace c4 := decide_eq_true c4;obtain ⟨⟨ak, ap, aq⟩, aw, H⟩ := Sh.bd H;have A5 := am_ aw;clear aw;have H' := am_ H;clear H;have ah : 0 ≤ (a1 : Int) := Sh.od;have ai : a1 < (l0.length : Int) := Sh.od;obtain ⟨al, ar, ae, af⟩ := at_T77 av.out a1 ah ai;cases ar;replace ah := eq_true ah;replace ai := eq_true ai;go_enter Tryz.func78, Tryz.ntmps78;go_wp2_with (first | ((with_reducible refine Sh.k 75 ?_); refine Sh.gD (some 15) Tryz.func75 #[.int .i64 ((rd_T77 l0 a1).f0)] (Qau.calls k ((rd_T77 l0 a1).f0) ak ap aq _ A5.out) fun nd => ?_));go_loopg [5, 8] k (fun kq v5 v8 w' => ∃ (aa : Int) (ac : Int), v5 = .int .i64 aa ∧ v8 = .int .i64 ac ∧ Aside0 (Qav.l0 kq l0 aa ac = some r) ∧ Aside0 (kq ≤ k) ∧ Drawn0 w w')
   case atStart => exact ⟨(ak), (a1), (Sh.es), (Sh.es), H', ⟨Nat.le_refl _⟩, Sh.dr⟩
   case round =>
    clear H';try clear ay
    try clear ae
    try clear af
    obtain ⟨aa, ac, rfl, rfl, HA, au, ⟨m1, rfl⟩⟩ := hrel;cases gk with
    | zero => exact absurd HA.out (by simp [Qav.l0])
    | succ k1 =>
     have H := HA.out;clear HA;simp only [Qav.l0] at H;by_cases c6 : aa > 0
     ·rw [if_pos c6] at H
      have c6b0 : decide (0 < aa) = true := decide_eq_true c6;clear c6;obtain ⟨am, A7, H⟩ := Sh.ba H;have H' := am_ H;clear H;go_wp2_with (first | ((with_reducible refine Sh.k 78 ?_); refine Sh.gL (some 27) Tryz.func78 #[.slice (some al) l0.length c0, .int .i64 (wrap64 (ac - 1))] (h := ?_); (with_reducible refine (ih k1 (by have := au.out; omega) _ _ l0 (wrap64 (ac - 1)) am _ ?side1 ?side2 A7.out).mono ?_); (case side1 => repeat (first | exact av.out | (with_reducible first | refine Kd.C_alloc ?_ _ | refine Kd.C_drewN ?_ _ | refine Kd.C_drew ?_))); (case side2 => exact ax.out); rintro e w' ⟨rfl, ⟨nd, rfl⟩⟩; refine ⟨_, rfl, ?_⟩));go_roundg k1
      case measure => have := au.out; omega
      case rel => exact ⟨(wrap64 (aa - 1)), (am), (Sh.es), (Sh.es), H', ⟨by have := au.out; omega⟩, Sh.dr⟩
     ·rw [if_neg c6] at H
      have c6b0 : decide (0 < aa) = false := decide_eq_false c6;clear c6;obtain rfl := Option.some.inj H;go_wp2;go_ret;exact ⟨Sh.es, Sh.dr⟩
  ·rw [if_neg c4] at H
   cases H
 ·rw [if_neg c3] at H
  cases H
def Qal.f : Nat → Int → List (S77) → Int → List Int → Option (Int)
 | 0, _, _, _, _ => none
 | k + 1, a0, l1, a2, l3 => if 0 ≤ a2 then (if a2 < (l1.length : Int) then ((Qau.f k ((rd_T77 l1 a2).f0)).bind fun aa => (if ((rd_T77 l1 a2).f0) = 2 then (if 0 ≤ ((rd_T77 l1 a2).f1) then (if ((rd_T77 l1 a2).f1) < (l3.length : Int) then (some (rd l3 ((rd_T77 l1 a2).f1))) else (none)) else (none)) else (if aa.1 = 0 then (some ((rd_T77 l1 a2).f1)) else (if ((rd_T77 l1 a2).f0) = 13 then ((Qal.f k a0 l1 (wrap64 (a2 - 1)) l3).bind fun ac => ((Qai.f k a0 (Go.bits .xor .u64 18446744073709551615 ac)).bind fun ae => (some ae))) else (if ((rd_T77 l1 a2).f0) = 19 then ((Qal.f k a0 l1 (wrap64 (a2 - 1)) l3).bind fun af => (some (IntKind.u64.wrap (1 - af)))) else ((Qav.f k l1 (wrap64 (a2 - 1))).bind fun ah => ((Qal.f k a0 l1 (wrap64 (ah - 1)) l3).bind fun ai => ((Qal.f k a0 l1 (wrap64 (a2 - 1)) l3).bind fun aj => ((Qae.f k a0 ((rd_T77 l1 a2).f0) ai aj).bind fun ak => (some ak)))))))))) else (none)) else (none)
theorem Qal.mono_l : ∀ k, (∀ y0 y1 y2 y3, LeO (Qal.f k y0 y1 y2 y3) (Qal.f (k + 1) y0 y1 y2 y3))
 | 0 => fun _ _ _ _ r h => by simp [Qal.f] at h
 | k + 1 => by
  have aa := Qal.mono_l k
  ·intro y0 y1 y2 y3
   unfold Qal.f
   repeat' with_reducible first | apply aa | apply Qai.mono | apply Qae.mono | apply Qav.mono | apply Qau.mono | exact LeO.refl _ | exact LeO.none _ | apply LeO.ite | refine LeO.bind ?_ fun _ => ?_
theorem Qal.mono : ∀ a0 a1 a2 a3 k, LeO (Qal.f k a0 a1 a2 a3) (Qal.f (k + 1) a0 a1 a2 a3) := by
 intro a0 a1 a2 a3 k;have aa := Qal.mono_l k;exact aa a0 a1 a2 a3
def Qal.T11 : Bool × List (List Nat × List Nat) := (true, [([], []), ([], []), ([1], [1]), ([], []), ([], []), ([], []), ([], []), ([6], [6]), ([5, 7], [5, 7]), ([8], [8]), ([], []), ([3, 4, 9, 10, 8], [3, 4, 9, 10]), ([], []), ([], []), ([], []), ([14], [14]), ([], []), ([12, 13, 15, 16, 11], [12, 13, 15, 16]), ([0, 2, 11, 17, 17], [0, 2, 11, 17]), ([18, 18, 0, 1, 2, 3, 4, 5, 6, 7, 8, 9, 10, 11, 12, 13, 14, 15, 16, 17, 18], [18])])
def Qal.B11 : List Nat := [0, 0, 2, 0, 0, 0, 0, 64, 224, 480, 0, 2040, 0, 0, 0, 16384, 0, 131064, 262143, 524287]
theorem Qal.tab11 : rtab .any (opsOf Tryz.f59 11) = Qal.T11 := by kernel_rfl
theorem Qal.bits11 : waitsOk Qal.T11.2 Qal.B11 = true := by kernel_rfl
theorem Qal.calls (k : Nat) : ∀ (a0 : Int) (A1 : Option Addr) (c1 : Nat) (l1 : List (S77)) (a2 : Int) (A3 : Option Addr) (c3 : Nat) (l3 : List Int) (r : Int) (w : World) (hr1 : Kd.C k77 w A1 l1.length l1) (bn : l1.length ≤ c1) (bo : Kd.C (Kd.int .u64) w A3 l3.length l3) (bp : l3.length ≤ c3) (h : Qal.f k a0 l1 a2 l3 = some r),
  Calls Tryz.prog 59 #[.int .i64 a0, .slice A1 l1.length c1, .int .i64 a2, .slice A3 l3.length c3] w fun e w' => e = .returned (.int .u64 r) ∧ Below w.heap.size w w' := by
 induction k using Nat.strongRecOn with
 | _ k ih =>
 intro a0 A1 c1 l1 a2 A3 c3 l3 r w hr1 bn bo bp h;cases k with
 | zero => exact absurd h (by simp [Qal.f])
 | succ k =>
 simp only [Qal.f] at h;have bu := Tryz.underlying77;have aA := am_ hr1;have aN := am_ bn;clear hr1 bn;have aO := am_ bo;have aQ := am_ bp;clear bo bp;have HB := am_ (Below.refl w.heap.size w);have H : (if 0 ≤ a2 then (if a2 < (l1.length : Int) then ((Qau.f k ((rd_T77 l1 a2).f0)).bind fun aP => (if ((rd_T77 l1 a2).f0) = 2 then (if 0 ≤ ((rd_T77 l1 a2).f1) then (if ((rd_T77 l1 a2).f1) < (l3.length : Int) then (some (rd l3 ((rd_T77 l1 a2).f1))) else (none)) else (none)) else (if aP.1 = 0 then (some ((rd_T77 l1 a2).f1)) else (if ((rd_T77 l1 a2).f0) = 13 then ((Qal.f k a0 l1 (wrap64 (a2 - 1)) l3).bind fun au => ((Qai.f k a0 (Go.bits .xor .u64 18446744073709551615 au)).bind fun aC => (some aC))) else (if ((rd_T77 l1 a2).f0) = 19 then ((Qal.f k a0 l1 (wrap64 (a2 - 1)) l3).bind fun aD => (some (IntKind.u64.wrap (1 - aD)))) else ((Qav.f k l1 (wrap64 (a2 - 1))).bind fun av => ((Qal.f k a0 l1 (wrap64 (av - 1)) l3).bind fun aw => ((Qal.f k a0 l1 (wrap64 (a2 - 1)) l3).bind fun ax => ((Qae.f k a0 ((rd_T77 l1 a2).f0) aw ax).bind fun aE => (some aE)))))))))) else (none)) else (none)) = some r := h;clear h;by_cases c5 : 0 ≤ a2
 ·rw [if_pos c5] at H
  replace c5 := decide_eq_true c5;by_cases c6 : a2 < (l1.length : Int)
  ·rw [if_pos c6] at H
   replace c6 := decide_eq_true c6;obtain ⟨⟨ao, ay, az⟩, bs, H⟩ := Sh.bd H;have A7 := am_ bs;clear bs;by_cases c8 : ((rd_T77 l1 a2).f0) = 2
   ·rw [if_pos c8] at H
    have c8b0 : (((rd_T77 l1 a2).f0) == 2) = true := beq_iff_eq.mpr c8;have c8b1 : (((rd_T77 l1 a2).f0) != 2) = false := bne_eq_false_iff_eq.mpr c8;clear c8;by_cases c9 : 0 ≤ ((rd_T77 l1 a2).f1)
    ·rw [if_pos c9] at H
     replace c9 := decide_eq_true c9;by_cases aR : ((rd_T77 l1 a2).f1) < (l3.length : Int)
     ·rw [if_pos aR] at H
      replace aR := decide_eq_true aR;obtain rfl := Option.some.inj H;have af : 0 ≤ (a2 : Int) := Sh.od;have ah : a2 < (l1.length : Int) := Sh.od;obtain ⟨ai, aq, aj, ak⟩ := at_T77 aA.out a2 af ah;cases aq;replace af := eq_true af;replace ah := eq_true ah;go_enter Tryz.func59, Tryz.ntmps59;go_wp2_with (first | ((with_reducible refine Sh.d 9 ?_); refine Sh.bx (N := 9) (cs := #[.int .i64 0, .int .u64 0]) (t := 77) (h := ?_); intro ac hg bG hbox hb; have aa := am_ hbox; have ap := Sh.ag w hg; have ar := Sh.ag w hg; replace HB := Sh.hb hb; clear hb hbox hg; obtain ⟨aS, aT, aU, aV⟩ := Sh.b2 aa.out) | ((with_reducible refine Sh.k 75 ?_); refine Sh.gD (some 20) Tryz.func75 #[.int .i64 ((rd_T77 l1 a2).f0)] (Qau.calls k ((rd_T77 l1 a2).f0) ao ay az _ A7.out) fun nd => ?_; have aF : 0 ≤ (((rd_T77 l1 a2).f1) : Int) := Sh.od; have aG : ((rd_T77 l1 a2).f1) < (l3.length : Int) := Sh.od; obtain ⟨aB, bq, ae⟩ := Kd.at_int aO.out ((rd_T77 l1 a2).f1) aF aG; cases bq; have al : aB.block ≠ ac := Nat.ne_of_lt (Nat.lt_of_lt_of_le (by have := World.block_lt_of_cell? _ _ ae; first | rwa [add_block] at this | exact this) ap.out); have am : aB.block ≠ ac := Nat.ne_of_lt (Nat.lt_of_lt_of_le (by have := World.block_lt_of_cell? _ _ ae; first | rwa [add_block] at this | exact this) ap.out); replace ae := (HB.out.cell (World.block_lt_of_cell? w _ ae)).trans ae; replace ae := (cell_far (p := ⟨ac, 0, none⟩) (by first | (rw [add_block]; exact al) | (show (Addr.add _ _).block ≠ _; rw [add_block]; exact al) | exact al) (.int .i64 ((rd_T77 l1 a2).f0))).trans ae; replace ae := (cell_far (p := ⟨ac, 1, none⟩) (by first | (rw [add_block]; exact am) | (show (Addr.add _ _).block ≠ _; rw [add_block]; exact am) | exact am) (.int .u64 ((rd_T77 l1 a2).f1))).trans ae; clear al; clear am; replace aF := eq_true aF; replace aG := eq_true aG));go_ret;exact ⟨Sh.eR, Sh.bw⟩
     ·rw [if_neg aR] at H
      cases H
    ·rw [if_neg c9] at H
     cases H
   ·rw [if_neg c8] at H
    have c8b0 : (((rd_T77 l1 a2).f0) == 2) = false := beq_eq_false_iff_ne.mpr c8;have c8b1 : (((rd_T77 l1 a2).f0) != 2) = true := bne_iff_ne.mpr c8;by_cases aH : ao = 0
    ·rw [if_pos aH] at H
     have c13b0 : (ao == 0) = true := beq_iff_eq.mpr aH;have c13b1 : (ao != 0) = false := bne_eq_false_iff_eq.mpr aH;clear aH;obtain rfl := Option.some.inj H;have af : 0 ≤ (a2 : Int) := Sh.od;have ah : a2 < (l1.length : Int) := Sh.od;obtain ⟨ai, aq, aj, ak⟩ := at_T77 aA.out a2 af ah;cases aq;replace af := eq_true af;replace ah := eq_true ah;go_enter Tryz.func59, Tryz.ntmps59;go_wp2_with (first | ((with_reducible refine Sh.d 9 ?_); refine Sh.bx (N := 9) (cs := #[.int .i64 0, .int .u64 0]) (t := 77) (h := ?_); intro ac hg bH hbox hb; have aa := am_ hbox; have ap := Sh.ag w hg; have ar := Sh.ag w hg; replace HB := Sh.hb hb; clear hb hbox hg; obtain ⟨aW, aX, aY, aZ⟩ := Sh.b2 aa.out) | ((with_reducible refine Sh.k 75 ?_); refine Sh.gD (some 20) Tryz.func75 #[.int .i64 ((rd_T77 l1 a2).f0)] (Qau.calls k ((rd_T77 l1 a2).f0) ao ay az _ A7.out) fun nd => ?_));go_ret;exact ⟨Sh.eR, Sh.bw⟩
    ·rw [if_neg aH] at H
     have c13b0 : (ao == 0) = false := beq_eq_false_iff_ne.mpr aH;have c13b1 : (ao != 0) = true := bne_iff_ne.mpr aH;by_cases aI : ((rd_T77 l1 a2).f0) = 13
     ·rw [if_pos aI] at H
      have c16b0 : (((rd_T77 l1 a2).f0) == 13) = true := beq_iff_eq.mpr aI;have c16b1 : (((rd_T77 l1 a2).f0) != 13) = false := bne_eq_false_iff_eq.mpr aI;clear aI;obtain ⟨au, bv, H⟩ := Sh.ba H;obtain ⟨aC, bA, H⟩ := Sh.ba H;obtain rfl := Option.some.inj H;have af : 0 ≤ (a2 : Int) := Sh.od;have ah : a2 < (l1.length : Int) := Sh.od;obtain ⟨ai, aq, aj, ak⟩ := at_T77 aA.out a2 af ah;cases aq;replace af := eq_true af;replace ah := eq_true ah;go_enter Tryz.func59, Tryz.ntmps59;go_wp2_with (first | ((with_reducible refine Sh.d 9 ?_); refine Sh.bx (N := 9) (cs := #[.int .i64 0, .int .u64 0]) (t := 77) (h := ?_); intro ac hg bI hbox hb; have aa := am_ hbox; have ap := Sh.ag w hg; have ar := Sh.ag w hg; replace HB := Sh.hb hb; clear hb hbox hg; obtain ⟨a1, a6, a7, a8⟩ := Sh.b2 aa.out) | ((with_reducible refine Sh.k 75 ?_); refine Sh.gD (some 20) Tryz.func75 #[.int .i64 ((rd_T77 l1 a2).f0)] (Qau.calls k ((rd_T77 l1 a2).f0) ao ay az _ A7.out) fun nd => ?_) | ((with_reducible refine Sh.k 59 ?_); refine Sh.gL (some 48) Tryz.func59 #[.int .i64 a0, .slice (some ai) l1.length c1, .int .i64 (wrap64 (a2 - 1)), .slice A3 l3.length c3] (h := ?_); (with_reducible refine (ih k (by omega) a0 _ _ l1 (wrap64 (a2 - 1)) _ _ l3 au _ (Sh.cB aA.out) aN.out (Sh.cB aO.out) aQ.out bv.out).mono ?_); rintro e bJ ⟨rfl, hb⟩; refine ⟨_, rfl, ?_⟩; replace aa := am_ (blk_below (g := ac) (o := .cells #[.int .i64 ((rd_T77 l1 a2).f0), .int .u64 ((rd_T77 l1 a2).f1)] 77 (0, 0)) (by refine Sh.pl ?_; refine blk_put (cs := #[.int .i64 ((rd_T77 l1 a2).f0), .int .u64 0]) ?_ 1 _ rfl; refine Sh.pl ?_; refine blk_put (cs := #[.int .i64 0, .int .u64 0]) ?_ 0 _ rfl; refine Sh.pl ?_; exact aa.out) hb); replace HB := Sh.hb hb; (try clear hb)) | ((with_reducible refine Sh.k 76 ?_); refine Sh.gD (some 50) Tryz.func76 #[.int .i64 a0, .int .u64 (Go.bits .xor .u64 18446744073709551615 au)] (Qai.calls k a0 (Go.bits .xor .u64 18446744073709551615 au) aC _ bA.out) fun nd => ?_));go_ret;exact ⟨Sh.eR, Sh.bw⟩
     ·rw [if_neg aI] at H
      have c16b0 : (((rd_T77 l1 a2).f0) == 13) = false := beq_eq_false_iff_ne.mpr aI;have c16b1 : (((rd_T77 l1 a2).f0) != 13) = true := bne_iff_ne.mpr aI;by_cases aJ : ((rd_T77 l1 a2).f0) = 19
      ·rw [if_pos aJ] at H
       have c22b0 : (((rd_T77 l1 a2).f0) == 19) = true := beq_iff_eq.mpr aJ;have c22b1 : (((rd_T77 l1 a2).f0) != 19) = false := bne_eq_false_iff_eq.mpr aJ;clear aJ;obtain ⟨aD, bB, H⟩ := Sh.ba H;obtain rfl := Option.some.inj H;have af : 0 ≤ (a2 : Int) := Sh.od;have ah : a2 < (l1.length : Int) := Sh.od;obtain ⟨ai, aq, aj, ak⟩ := at_T77 aA.out a2 af ah;cases aq;replace af := eq_true af;replace ah := eq_true ah;go_enter Tryz.func59, Tryz.ntmps59;go_wp2_with (first | ((with_reducible refine Sh.d 9 ?_); refine Sh.bx (N := 9) (cs := #[.int .i64 0, .int .u64 0]) (t := 77) (h := ?_); intro ac hg bK hbox hb; have aa := am_ hbox; have ap := Sh.ag w hg; have ar := Sh.ag w hg; replace HB := Sh.hb hb; clear hb hbox hg; obtain ⟨bf, bg, bh, bi⟩ := Sh.b2 aa.out) | ((with_reducible refine Sh.k 75 ?_); refine Sh.gD (some 20) Tryz.func75 #[.int .i64 ((rd_T77 l1 a2).f0)] (Qau.calls k ((rd_T77 l1 a2).f0) ao ay az _ A7.out) fun nd => ?_) | ((with_reducible refine Sh.k 59 ?_); refine Sh.gL (some 60) Tryz.func59 #[.int .i64 a0, .slice (some ai) l1.length c1, .int .i64 (wrap64 (a2 - 1)), .slice A3 l3.length c3] (h := ?_); (with_reducible refine (ih k (by omega) a0 _ _ l1 (wrap64 (a2 - 1)) _ _ l3 aD _ (Sh.cB aA.out) aN.out (Sh.cB aO.out) aQ.out bB.out).mono ?_); rintro e bL ⟨rfl, hb⟩; refine ⟨_, rfl, ?_⟩; replace aa := am_ (blk_below (g := ac) (o := .cells #[.int .i64 ((rd_T77 l1 a2).f0), .int .u64 ((rd_T77 l1 a2).f1)] 77 (0, 0)) (by refine Sh.pl ?_; refine blk_put (cs := #[.int .i64 ((rd_T77 l1 a2).f0), .int .u64 0]) ?_ 1 _ rfl; refine Sh.pl ?_; refine blk_put (cs := #[.int .i64 0, .int .u64 0]) ?_ 0 _ rfl; refine Sh.pl ?_; exact aa.out) hb); replace HB := Sh.hb hb; (try clear hb)));go_ret;exact ⟨Sh.eR, Sh.bw⟩
      ·rw [if_neg aJ] at H
       have c22b0 : (((rd_T77 l1 a2).f0) == 19) = false := beq_eq_false_iff_ne.mpr aJ;have c22b1 : (((rd_T77 l1 a2).f0) != 19) = true := bne_iff_ne.mpr aJ;obtain ⟨av, bC, H⟩ := Sh.ba H;obtain ⟨aw, bD, H⟩ := Sh.ba H;obtain ⟨ax, bE, H⟩ := Sh.ba H;obtain ⟨aE, bF, H⟩ := Sh.ba H;obtain rfl := Option.some.inj H;have af : 0 ≤ (a2 : Int) := Sh.od;have ah : a2 < (l1.length : Int) := Sh.od;obtain ⟨ai, aq, aj, ak⟩ := at_T77 aA.out a2 af ah;cases aq;replace af := eq_true af;replace ah := eq_true ah;go_enter Tryz.func59, Tryz.ntmps59;try go_wp2_with (first | ((with_reducible refine Sh.d 9 ?_); refine Sh.bx (N := 9) (cs := #[.int .i64 0, .int .u64 0]) (t := 77) (h := ?_); intro ac hg br hbox hb; have aa := am_ hbox; have ap := Sh.ag w hg; have ar := Sh.ag w hg; replace HB := Sh.hb hb; clear hb hbox hg; obtain ⟨bj, bk, bl, bm⟩ := Sh.b2 aa.out) | ((with_reducible refine Sh.k 75 ?_); refine Sh.gD (some 20) Tryz.func75 #[.int .i64 ((rd_T77 l1 a2).f0)] (Qau.calls k ((rd_T77 l1 a2).f0) ao ay az _ A7.out) fun nd => ?_))
       have aK : Aside0 (((br.setCell ⟨ac, 0, none⟩ (.int .i64 ((rd_T77 l1 a2).f0))).setCell ⟨ac, 1, none⟩ (.int .u64 ((rd_T77 l1 a2).f1))).heap[ac]? = some (.cells #[.int .i64 ((rd_T77 l1 a2).f0), .int .u64 ((rd_T77 l1 a2).f1)] 77 (0, 0))) := ⟨by refine Sh.pl ?_; refine blk_put (cs := #[.int .i64 ((rd_T77 l1 a2).f0), .int .u64 0]) ?_ 1 _ rfl; refine Sh.pl ?_; refine blk_put (cs := #[.int .i64 0, .int .u64 0]) ?_ 0 _ rfl; refine Sh.pl ?_; exact aa.out⟩;have aL : Aside0 (Below w.heap.size w ((br.setCell ⟨ac, 0, none⟩ (.int .i64 ((rd_T77 l1 a2).f0))).setCell ⟨ac, 1, none⟩ (.int .u64 ((rd_T77 l1 a2).f1)))) := ⟨Sh.bw⟩;(try clear aa);(try clear HB);generalize ((br.setCell ⟨ac, 0, none⟩ (.int .i64 ((rd_T77 l1 a2).f0))).setCell ⟨ac, 1, none⟩ (.int .u64 ((rd_T77 l1 a2).f1))) = aM at aK aL ⊢;have aa := aK;have HB := aL;clear aK aL;(try (rw [drewN_self aM]; generalize hq_ : World.drewN aM _ = aM; have aK : Aside0 (aM.heap[ac]? = some (.cells #[.int .i64 ((rd_T77 l1 a2).f0), .int .u64 ((rd_T77 l1 a2).f1)] 77 (0, 0))) := ⟨by rw [← hq_]; exact (Sh.pl aa.out)⟩; have aL : Aside0 (Below w.heap.size w aM) := ⟨by rw [← hq_]; exact Sh.bw⟩; clear aa HB hq_; have aa := aK; have HB := aL; clear aK aL));replace aa := am_ (blk_drew aa.out);replace HB := am_ (below_drew1 HB.out);refine start_ (n := 20) (S := fun w' => w'.cell? ⟨ac, 0, none⟩ = some (.int .i64 ((rd_T77 l1 a2).f0)) ∧ w'.cell? ⟨ac, 1, none⟩ = some (.int .u64 ((rd_T77 l1 a2).f1))) (ds := []) (Sh.nm 20 0) (by kernel_rfl) rfl rfl Sh.cs (fun hHeld => ?_); refine with_tabW Qal.tab11 Qal.bits11 (fun HT_ HW_ => ?_);generalize aM.drew = bM at aa HB hHeld ⊢;refine Sh.qA 0 ?_; refine Sh.qA 1 ?_; refine Sh.qA 3 ?_; refine Sh.qA 4 ?_; refine Sh.qA 5 ?_; refine Sh.qA 6 ?_; refine Sh.qA 7 ?_; refine Sh.qA 10 ?_; refine Sh.qA 12 ?_; refine Sh.qA 13 ?_; refine Sh.qA 14 ?_; refine Sh.qA 15 ?_; refine Sh.qA 16 ?_; refine Sh.qT 2 hHeld ?_;refine Sh.oC 8 Tryz.func78 #[.slice (some ai) l1.length c1, .int .i64 (wrap64 (a2 - 1))] fun K hK => ?_;with_reducible refine (Qav.calls k _ _ l1 (wrap64 (a2 - 1)) av _ (Sh.cB aA.out) aN.out bC.out).mono ?_
       rintro e w' ⟨rfl, ⟨nd, rfl⟩⟩;refine ⟨_, rfl, ?_⟩;refine Sh.kN hK Sh.cs fun hHeld => ?_;clear hK K;refine Sh.qA 9 ?_;refine Sh.oC 11 Tryz.func59 #[.int .i64 a0, .slice (some ai) l1.length c1, .int .i64 (wrap64 (av - 1)), .slice A3 l3.length c3] fun K hK => ?_;with_reducible refine (ih k (by omega) a0 _ _ l1 (wrap64 (av - 1)) _ _ l3 aw _ ?side1 ?side2 ?side3 ?side4 bD.out).mono ?_
       (case side1 => repeat (first | exact (Kd.C_below aA.out Sh.bw) | (with_reducible first | refine Kd.C_alloc ?_ _ | refine Kd.C_drewN ?_ _ | refine Kd.C_drew ?_)));(case side2 => exact aN.out);(case side3 => repeat (first | exact (Kd.C_below aO.out Sh.bw) | (with_reducible first | refine Kd.C_alloc ?_ _ | refine Kd.C_drewN ?_ _ | refine Kd.C_drew ?_)));(case side4 => exact aQ.out);rintro e bN ⟨rfl, hb⟩;refine ⟨_, rfl, ?_⟩;replace aa := Sh.ab aa hb;replace HB := Sh.hb hb;(try clear hb);refine Sh.kN hK Sh.cs fun hHeld => ?_;clear hK K;refine Sh.oC 17 Tryz.func59 #[.int .i64 a0, .slice (some ai) l1.length c1, .int .i64 (wrap64 (a2 - 1)), .slice A3 l3.length c3] fun K hK => ?_;with_reducible refine (ih k (by omega) a0 _ _ l1 (wrap64 (a2 - 1)) _ _ l3 ax _ ?side1 ?side2 ?side3 ?side4 bE.out).mono ?_
       (case side1 => repeat (first | exact (Kd.C_below aA.out HB.out) | (with_reducible first | refine Kd.C_alloc ?_ _ | refine Kd.C_drewN ?_ _ | refine Kd.C_drew ?_)));(case side2 => exact aN.out);(case side3 => repeat (first | exact (Kd.C_below aO.out HB.out) | (with_reducible first | refine Kd.C_alloc ?_ _ | refine Kd.C_drewN ?_ _ | refine Kd.C_drew ?_)));(case side4 => exact aQ.out);rintro e bO ⟨rfl, hb⟩;refine ⟨_, rfl, ?_⟩;replace aa := Sh.ab aa hb;replace HB := Sh.hb hb;(try clear hb);refine Sh.kN hK Sh.cs fun hHeld => ?_;clear hK K;refine Sh.oC 18 Tryz.func77 #[.int .i64 a0, .int .i64 ((rd_T77 l1 a2).f0), .int .u64 aw, .int .u64 ax] fun K hK => ?_;with_reducible refine (Qae.calls k a0 ((rd_T77 l1 a2).f0) aw ax aE _ bF.out).mono ?_
       rintro e w' ⟨rfl, ⟨nd, rfl⟩⟩;refine ⟨_, rfl, ?_⟩;refine Sh.kN hK Sh.cs fun hHeld => ?_;clear hK K;refine Sh.qA 19 ?_;refine done_ (done_of HT_.out (by kernel_rfl)) ?_;try go_wp2
       go_ret;exact ⟨Sh.eR, Sh.bw⟩
  ·rw [if_neg c6] at H
   cases H
 ·rw [if_neg c5] at H
  cases H
def Qa7.f (k : Nat) (aa : Int) (ae : Int) (af : List (S77)) (ah : List (S82)) (l1 : List (S77)) (l2 : List Int) : Option (Bool) := (Qal.f k aa l1 (wrap64 ((l1.length : Int) - 1)) l2).bind fun ac => (some (ac == 1))
theorem Qa7.mono : ∀ a0 a1 a2 a3 a4 a5 k, LeO (Qa7.f k a0 a1 a2 a3 a4 a5) (Qa7.f (k + 1) a0 a1 a2 a3 a4 a5) := by
 intro a0 a1 a2 a3 a4 a5 k;unfold Qa7.f;repeat' with_reducible first | apply Qal.mono | exact LeO.refl _ | exact LeO.none _ | apply LeO.ite | refine LeO.bind ?_ fun _ => ?_
theorem Qa7.calls (k : Nat) (ae : Int) (al : Int) (am : Option Addr) (ao : Nat) (aa : List (S77)) (ap : Option Addr) (aq : Nat) (ac : List (S82)) (A1 : Option Addr) (c1 : Nat) (l1 : List (S77)) (A2 : Option Addr) (c2 : Nat) (l2 : List Int) (r : Bool) (w : World) (ah : Kd.C k77 w am aa.length aa) (ai : aa.length ≤ ao) (aj : Kd.C k82 w ap ac.length ac) (ak : ac.length ≤ aq) (hr1 : Kd.C k77 w A1 l1.length l1) (aC : l1.length ≤ c1) (hr2 : Kd.C (Kd.int .u64) w A2 l2.length l2) (aD : l2.length ≤ c2) (h : Qa7.f k ae al aa ac l1 l2 = some r) :
  Calls Tryz.prog 36 #[.agg #[.int .i64 ae, .int .i64 al, .slice am aa.length ao, .slice ap ac.length aq], .slice A1 l1.length c1, .slice A2 l2.length c2] w fun e w' => e = .returned (.bool r) ∧ Below w.heap.size w w' := by
 have aK := Tryz.underlying33;have aE := am_ ah;have aF := am_ ai;clear ah ai;have aG := am_ aj;have aH := am_ ak;clear aj ak;have aL := am_ hr1;have aM := am_ aC;clear hr1 aC;have aN := am_ hr2;have aO := am_ aD;clear hr2 aD;have HB := am_ (Below.refl w.heap.size w);have H := h;clear h;unfold Qa7.f at H;obtain ⟨ar, A4, H⟩ := Sh.ba H;obtain rfl := Option.some.inj H;go_enter Tryz.func36, Tryz.ntmps36;go_wp2_with (first | ((with_reducible refine Sh.d 3 ?_); refine Sh.bz w (N := 3) (cs := #[.int .i64 ae, .int .i64 al, .slice am aa.length ao, .slice ap ac.length aq]) (t := 33) (h := ?_); clear HB; intro aI w5 af aJ HB; obtain ⟨au, av, aw, ax, ay, az, aA, aB⟩ := Sh.b4 af.out) | ((with_reducible refine Sh.k 59 ?_); refine Sh.gB (some 14) Tryz.func59 #[.int .i64 ae, .slice A1 l1.length c1, .int .i64 (wrap64 ((l1.length : Int) - 1)), .slice A2 l2.length c2] (Qal.calls k ae _ _ l1 (wrap64 ((l1.length : Int) - 1)) _ _ l2 ar _ (Sh.cB aL.out) aM.out (Sh.cB aN.out) aO.out A4.out) fun w7 hb => ?_; replace af := Sh.ab af hb; replace HB := Sh.hb hb; (try clear hb)));go_ret;exact ⟨Sh.eR, Sh.bw⟩
def QaC.l0 : Nat → Int → List Int → Int → Int → Int → List (S77) → List (S82) → Option (List Int)
 | 0, _, _, _, _, _, _, _ => none
 | k + 1, x1, x5, x6, aa, ac, ae, af => if x6 < ac then (if 0 ≤ (IntKind.u64.wrap (wrap64 (x6 * aa))) then (if 0 ≤ (IntKind.u64.wrap (aa)) then (if x5.length < 17592186044416 then (QaC.l0 k x1 (x5 ++ [IntKind.u64.wrap (Go.bits .and .i64 (shr .i64 x1 (IntKind.u64.wrap (wrap64 (x6 * aa)))) (wrap64 ((shl .i64 1 (IntKind.u64.wrap (aa))) - 1)))]) (wrap64 (x6 + 1)) aa ac ae af) else (none)) else (none)) else (none)) else (some x5)
def QaC.f (k : Nat) (aa : Int) (ac : Int) (ae : List (S77)) (af : List (S82)) (a1 : Int) : Option (List Int) := QaC.l0 k a1 ([] : List Int) 0 aa ac ae af
theorem QaC.mono_l : ∀ k, (∀ y0 y1 y2 y3 y4 y5 y6, LeO (QaC.l0 k y0 y1 y2 y3 y4 y5 y6) (QaC.l0 (k + 1) y0 y1 y2 y3 y4 y5 y6))
 | 0 => fun _ _ _ _ _ _ _ r h => by simp [QaC.l0] at h
 | k + 1 => by
  have aa := QaC.mono_l k
  ·intro y0 y1 y2 y3 y4 y5 y6
   unfold QaC.l0
   repeat' with_reducible first | apply aa | exact LeO.refl _ | exact LeO.none _ | apply LeO.ite | refine LeO.bind ?_ fun _ => ?_
theorem QaC.mono : ∀ a0 a1 a2 a3 a4 k, LeO (QaC.f k a0 a1 a2 a3 a4) (QaC.f (k + 1) a0 a1 a2 a3 a4) := by
 intro a0 a1 a2 a3 a4 k;have aa := QaC.mono_l k;unfold QaC.f;repeat' with_reducible first | apply aa | exact LeO.refl _ | exact LeO.none _ | apply LeO.ite | refine LeO.bind ?_ fun _ => ?_
theorem QaC.calls (k : Nat) (ac : Int) (ai : Int) (ao : Option Addr) (ap : Nat) (ae : List (S77)) (aq : Option Addr) (ar : Nat) (af : List (S82)) (a1 : Int) (r : List Int) (w : World) (aw : Kd.C k77 w ao ae.length ae) (ax : ae.length ≤ ap) (ay : Kd.C k82 w aq af.length af) (az : af.length ≤ ar) (h : QaC.f k ac ai ae af a1 = some r) :
  Calls Tryz.prog 37 #[.agg #[.int .i64 ac, .int .i64 ai, .slice ao ae.length ap, .slice aq af.length ar], .int .i64 a1] w fun e w' => ∃ bg : Value, e = .returned (bg) ∧ Kd.R (Kd.int .u64) 75 w' w.heap.size (fun _ => True) bg r ∧ Below w.heap.size w w' := by
 have br := Tryz.underlying33;have bh := am_ aw;have bi := am_ ax;clear aw ax;have bj := am_ ay;have bk := am_ az;clear ay az;have HB := am_ (Below.refl w.heap.size w);have H := h;clear h;unfold QaC.f at H;have H' := am_ H;clear H;go_enter Tryz.func37, Tryz.ntmps37;go_wp2_with (first | ((with_reducible refine Sh.d 2 ?_); refine Sh.bz w (N := 2) (cs := #[.int .i64 ac, .int .i64 ai, .slice ao ae.length ap, .slice aq af.length ar]) (t := 33) (h := ?_); clear HB; intro aA w3 aa bl HB));go_loopg [5, 6] k (fun kq v5 v6 w' => ∃ (ah : List Int) (aj : Int), v6 = .int .i64 aj ∧ Aside0 (QaC.l0 kq a1 ah aj ac ai ae af = some r) ∧ Aside0 (kq ≤ k) ∧ Aside0 (Kd.R (Kd.int .u64) 75 w' w.heap.size (fun _ => True) v5 ah) ∧ Aside0 (w'.heap[aA]? = some (.cells #[.int .i64 ac, .int .i64 ai, (.slice ao ae.length ap), (.slice aq af.length ar)] 33 (0, 0))) ∧ Aside0 (Below w.heap.size w w'))
 case atStart => exact ⟨(([] : List Int)), (0), (Sh.es), H', ⟨Nat.le_refl _⟩, ⟨by first | exact Kd.R_nil _ _ _ _ _ | exact Kd.N_nil _ _ _ _ _ | exact Kd.V_nil _ _ _ _ _ | exact Kd.Q_nil _ _ _ _ _ | exact Kd.S_nil _ _ _ _ _⟩, ⟨by refine Sh.pl ?_; exact aa.out⟩, ⟨Sh.bw⟩⟩
 case round =>
  clear H';obtain ⟨ah, aj, rfl, HA, bm, av, aa, HB⟩ := hrel;cases gk with
  | zero => exact absurd HA.out (by simp [QaC.l0])
  | succ k1 =>
   have H := HA.out;clear HA;simp only [QaC.l0] at H;by_cases c4 : aj < ai
   ·rw [if_pos c4] at H
    replace c4 := decide_eq_true c4;obtain ⟨aD, hj1⟩ : ∃ j_ : Int, (IntKind.u64.wrap (wrap64 (aj * ac))) = j_ := ⟨_, rfl⟩;replace H : (if 0 ≤ (aD) then (if 0 ≤ (IntKind.u64.wrap (ac)) then (if ah.length < 17592186044416 then (QaC.l0 k1 a1 (ah ++ [IntKind.u64.wrap (Go.bits .and .i64 (shr .i64 a1 (aD)) (wrap64 ((shl .i64 1 (IntKind.u64.wrap (ac))) - 1)))]) (wrap64 (aj + 1)) ac ai ae af) else (none)) else (none)) else (none)) = some r := by first | (rw [hj1] at H; exact H) | (simp only [hj1] at H ⊢; exact H)
    by_cases c6 : 0 ≤ (aD)
    ·rw [if_pos c6] at H
     have c6b0 := eq_true c6;have c6b1 := decide_eq_true c6;clear c6;obtain ⟨aC, hj2⟩ : ∃ j_ : Int, (shr .i64 a1 (aD)) = j_ := ⟨_, rfl⟩;replace H : (if 0 ≤ (IntKind.u64.wrap (ac)) then (if ah.length < 17592186044416 then (QaC.l0 k1 a1 (ah ++ [IntKind.u64.wrap (Go.bits .and .i64 (aC) (wrap64 ((shl .i64 1 (IntKind.u64.wrap (ac))) - 1)))]) (wrap64 (aj + 1)) ac ai ae af) else (none)) else (none)) = some r := by first | (rw [hj2] at H; exact H) | (simp only [hj2] at H ⊢; exact H)
     have bn : (a1 / 2 ^ min (aD).toNat 64) = aC := hj2;have hji7z : (aD) ≤ 64 → (a1 / 2 ^ (aD).toNat) = aC := shr_small hj2;obtain ⟨am, hj3⟩ : ∃ j_ : Int, (IntKind.u64.wrap (ac)) = j_ := ⟨_, rfl⟩;replace H : (if 0 ≤ (am) then (if ah.length < 17592186044416 then (QaC.l0 k1 a1 (ah ++ [IntKind.u64.wrap (Go.bits .and .i64 (aC) (wrap64 ((shl .i64 1 (am)) - 1)))]) (wrap64 (aj + 1)) ac ai ae af) else (none)) else (none)) = some r := by first | (rw [hj3] at H; exact H) | (simp only [hj3] at H ⊢; exact H)
     by_cases c9 : 0 ≤ (am)
     ·rw [if_pos c9] at H
      have c9b0 := eq_true c9;have c9b1 := decide_eq_true c9;clear c9;obtain ⟨ak, hj4⟩ : ∃ j_ : Int, (shl .i64 1 (am)) = j_ := ⟨_, rfl⟩;replace H : (if ah.length < 17592186044416 then (QaC.l0 k1 a1 (ah ++ [IntKind.u64.wrap (Go.bits .and .i64 (aC) (wrap64 ((ak) - 1)))]) (wrap64 (aj + 1)) ac ai ae af) else (none)) = some r := by first | (rw [hj4] at H; exact H) | (simp only [hj4] at H ⊢; exact H)
      have au : (IntKind.i64.wrap (1 * 2 ^ min (am).toNat 64)) = ak := hj4;have hji10z : (am) ≤ 64 → (IntKind.i64.wrap (1 * 2 ^ (am).toNat)) = ak := shl_small hj4;have hji10u : (IntKind.i64.wrap (2 ^ min (am).toNat 64)) = ak := by have h_ := au; rw [Int.one_mul] at h_; exact h_
      have hji10v : (am) ≤ 64 → (IntKind.i64.wrap (2 ^ (am).toNat)) = ak := fun hle_ => by have h_ := hji10z hle_; rw [Int.one_mul] at h_; exact h_
      have hji10y : (wrap64 (1 * 2 ^ min (am).toNat 64)) = ak := (i64_w _).symm.trans au;have hji10x : (am) ≤ 64 → (wrap64 (1 * 2 ^ (am).toNat)) = ak := fun h_ => (i64_w _).symm.trans (hji10z h_);by_cases aJ : ah.length < 17592186044416
      ·rw [if_pos aJ] at H
       have aE := am_ aJ;clear aJ;obtain ⟨aG, al⟩ : ∃ y_ : List Int, y_ = (ah ++ [IntKind.u64.wrap (Go.bits .and .i64 (aC) (wrap64 ((ak) - 1)))]) := ⟨_, rfl⟩;replace H : (QaC.l0 k1 a1 aG (wrap64 (aj + 1)) ac ai ae af) = some r := by first | (rw [al]; with_reducible exact H) | (have bf := (Option.bind_some _ _).symm.trans H; rw [al]; with_reducible exact bf) | (have bf := (Option.bind_some _ _).symm.trans H; with_reducible exact bf) | with_reducible exact H | (rw [al]; exact H) | exact H
       have aH := am_ al;clear al;have H' := am_ H;clear H;have aK := Sh.bc aa.out 0;have aM := Sh.bc aa.out 1;have aN := Sh.bc aa.out 2;have aQ := Sh.bc aa.out 3;have aR := blk_frozen aa.out 0;have aT := blk_frozen aa.out 1;have aU := blk_frozen aa.out 2;have aV := blk_frozen aa.out 3;go_wp2_with (first | ((with_reducible refine gate_builtin (b := .append) (xs := #[.tmp 13, .tmp 28]) rfl ?_); at_builtin; refine Kd.R_append (Kd.int .u64) (w0 := w) w.heap.size rfl (.tmp 13) (.tmp 28) 69 75 (.int .u64 0) 8 rfl Tryz.underlying69 info75 rfl (by decide) (by omega) u5 ah (IntKind.u64.wrap (Go.bits .and .i64 (aC) (wrap64 ((ak) - 1)))) [.int .u64 (IntKind.u64.wrap (Go.bits .and .i64 (aC) (wrap64 ((ak) - 1))))] (fun _ => True) (fun _ => False) rfl rfl ?aP (fun _ hk => hk.elim) ?aF ?aO ?aB ?aS ?aL ?_; (case aP => exact rfl); (case aB => exact Sh.bw); (case aF => exact (fun _ _ => trivial)); (case aO => exact (Sh.rl av.out)); (case aS => exact (below_size Sh.bw)); (case aL => have := aE.out; omega); intro bs bu ho hb hg hat; rw [← aH.out] at ho; have bo := am_ (blk_grown (g := aA) (o := .cells #[.int .i64 ac, .int .i64 ai, .slice ao ae.length ap, .slice aq af.length ar] 33 (0, 0)) (Sh.pl aa.out) hg (Kd.R_ne av.out aa.out (by decide))); have bp := am_ hb; have bq := am_ ho; clear aa; clear HB; clear av; have aa := bo; have HB := bp; have aI := bq; clear bo bp bq; clear ho hb hg hat));go_roundg k1
       case measure => have := bm.out; omega
       case rel => exact ⟨(aG), (wrap64 (aj + 1)), (Sh.es), H', ⟨by have := bm.out; omega⟩, ⟨Sh.rl aI.out⟩, ⟨by refine Sh.pl ?_; exact aa.out⟩, ⟨Sh.bw⟩⟩
      ·rw [if_neg aJ] at H
       cases H
     ·rw [if_neg c9] at H
      cases H
    ·rw [if_neg c6] at H
     cases H
   ·rw [if_neg c4] at H
    replace c4 := decide_eq_false c4;obtain rfl := Option.some.inj H;have aW := Sh.bc aa.out 0;have aX := Sh.bc aa.out 1;have aY := Sh.bc aa.out 2;have aZ := Sh.bc aa.out 3;have a2 := blk_frozen aa.out 0;have a6 := blk_frozen aa.out 1;have a7 := blk_frozen aa.out 2;have a8 := blk_frozen aa.out 3;go_wp2;go_ret;exact ⟨_, Sh.eR, Sh.rl av.out, Sh.bw⟩
def QaF.l0 : Nat → List (S77) → List Int → Int → Int → Int → List (S77) → List (S82) → Option (List Int)
 | 0, _, _, _, _, _, _, _ => none
 | k + 1, x1, x5, x6, aa, ac, ae, af => (QbE.f aa ac ae af).bind fun ah => (if x6 < ah then ((QaC.f k aa ac ae af x6).bind fun ai => ((Qa7.f k aa ac ae af x1 ai).bind fun aj => (if aj = true then (if x5.length < 17592186044416 then (QaF.l0 k x1 (x5 ++ [x6]) (wrap64 (x6 + 1)) aa ac ae af) else (none)) else (QaF.l0 k x1 x5 (wrap64 (x6 + 1)) aa ac ae af)))) else (some x5))
def QaF.f (k : Nat) (aa : Int) (ac : Int) (ae : List (S77)) (af : List (S82)) (l1 : List (S77)) : Option (List Int) := QaF.l0 k l1 ([] : List Int) 0 aa ac ae af
theorem QaF.mono_l : ∀ k, (∀ y0 y1 y2 y3 y4 y5 y6, LeO (QaF.l0 k y0 y1 y2 y3 y4 y5 y6) (QaF.l0 (k + 1) y0 y1 y2 y3 y4 y5 y6))
 | 0 => fun _ _ _ _ _ _ _ r h => by simp [QaF.l0] at h
 | k + 1 => by
  have aa := QaF.mono_l k
  ·intro y0 y1 y2 y3 y4 y5 y6
   unfold QaF.l0
   repeat' with_reducible first | apply aa | apply Qa7.mono | apply QaC.mono | exact LeO.refl _ | exact LeO.none _ | apply LeO.ite | refine LeO.bind ?_ fun _ => ?_
theorem QaF.mono : ∀ a0 a1 a2 a3 a4 k, LeO (QaF.f k a0 a1 a2 a3 a4) (QaF.f (k + 1) a0 a1 a2 a3 a4) := by
 intro a0 a1 a2 a3 a4 k;have aa := QaF.mono_l k;unfold QaF.f;repeat' with_reducible first | apply aa | apply Qa7.mono | apply QaC.mono | exact LeO.refl _ | exact LeO.none _ | apply LeO.ite | refine LeO.bind ?_ fun _ => ?_
theorem QaF.calls (k : Nat) (ah : Int) (ai : Int) (al : Option Addr) (am : Nat) (ac : List (S77)) (ao : Option Addr) (ap : Nat) (ae : List (S82)) (A1 : Option Addr) (c1 : Nat) (l1 : List (S77)) (r : List Int) (w : World) (aC : Kd.C k77 w al ac.length ac) (aD : ac.length ≤ am) (aE : Kd.C k82 w ao ae.length ae) (aG : ae.length ≤ ap) (hr1 : Kd.C k77 w A1 l1.length l1) (bI : l1.length ≤ c1) (h : QaF.f k ah ai ac ae l1 = some r) :
  Calls Tryz.prog 16 #[.agg #[.int .i64 ah, .int .i64 ai, .slice al ac.length am, .slice ao ae.length ap], .slice A1 l1.length c1] w fun e w' => ∃ bJ : Value, e = .returned (bJ) ∧ Kd.R (Kd.int .i64) 3 w' w.heap.size (fun _ => True) bJ r ∧ Below w.heap.size w w' := by
 have bR := Tryz.underlying33;have ar := am_ aC;have au := am_ aD;clear aC aD;have av := am_ aE;have aw := am_ aG;clear aE aG;have bK := am_ hr1;have bL := am_ bI;clear hr1 bI;have HB := am_ (Below.refl w.heap.size w);have H := h;clear h;unfold QaF.f at H;have H' := am_ H;clear H;go_enter Tryz.func16, Tryz.ntmps16;go_wp2_with (first | ((with_reducible refine Sh.d 2 ?_); refine Sh.bz w (N := 2) (cs := #[.int .i64 ah, .int .i64 ai, .slice al ac.length am, .slice ao ae.length ap]) (t := 33) (h := ?_); clear HB; intro ak w3 aa bM HB));go_loopg [5, 6] k (fun kq v5 v6 w' => ∃ (ay : List Int) (aq : Int), v6 = .int .i64 aq ∧ Aside0 (QaF.l0 kq l1 ay aq ah ai ac ae = some r) ∧ Aside0 (kq ≤ k) ∧ Aside0 (Kd.R (Kd.int .i64) 3 w' w.heap.size (fun _ => True) v5 ay) ∧ Aside0 (w'.heap[ak]? = some (.cells #[.int .i64 ah, .int .i64 ai, (.slice al ac.length am), (.slice ao ae.length ap)] 33 (0, 0))) ∧ Aside0 (Below w.heap.size w w'))
 case atStart => exact ⟨(([] : List Int)), (0), (Sh.es), H', ⟨Nat.le_refl _⟩, ⟨by first | exact Kd.R_nil _ _ _ _ _ | exact Kd.N_nil _ _ _ _ _ | exact Kd.V_nil _ _ _ _ _ | exact Kd.Q_nil _ _ _ _ _ | exact Kd.S_nil _ _ _ _ _⟩, ⟨by refine Sh.pl ?_; exact aa.out⟩, ⟨Sh.bw⟩⟩
 case round =>
  clear H';obtain ⟨ay, aq, rfl, HA, aT, af, aa, HB⟩ := hrel;cases gk with
  | zero => exact absurd HA.out (by simp [QaF.l0])
  | succ k1 =>
   have H := HA.out;clear HA;simp only [QaF.l0] at H;obtain ⟨aA, A4, H⟩ := Sh.ba H;by_cases c5 : aq < aA
   ·rw [if_pos c5] at H
    replace c5 := decide_eq_true c5;obtain ⟨az, A6, H⟩ := Sh.ba H;obtain ⟨bs, A7, H⟩ := Sh.ba H;by_cases c8 : bs = true
    ·subst c8
     rw [if_pos rfl] at H;by_cases c9 : ay.length < 17592186044416
     ·rw [if_pos c9] at H
      have bu := am_ c9;clear c9;obtain ⟨aH, ax⟩ : ∃ y_ : List Int, y_ = (ay ++ [aq]) := ⟨_, rfl⟩;replace H : (QaF.l0 k1 l1 aH (wrap64 (aq + 1)) ah ai ac ae) = some r := by first | (rw [ax]; with_reducible exact H) | (have bv := (Option.bind_some _ _).symm.trans H; rw [ax]; with_reducible exact bv) | (have bv := (Option.bind_some _ _).symm.trans H; with_reducible exact bv) | with_reducible exact H | (rw [ax]; exact H) | exact H
      have aI := am_ ax;clear ax;have H' := am_ H;clear H;have aU := Sh.bc aa.out 0;have aV := Sh.bc aa.out 1;have aW := Sh.bc aa.out 2;have aX := Sh.bc aa.out 3;have aY := blk_frozen aa.out 0;have aZ := blk_frozen aa.out 1;have a1 := blk_frozen aa.out 2;have a2 := blk_frozen aa.out 3;try go_wp2_with (first | ((with_reducible refine Sh.k 35 ?_); refine Sh.gB (some 9) Tryz.func35 #[.agg #[.int .i64 ah, .int .i64 ai, .slice al ac.length am, .slice ao ae.length ap]] (QbE.calls ah ai _ _ ac _ _ ae aA _ (Sh.cB ar.out) au.out (Sh.cB av.out) aw.out A4.out) fun bS hb => ?_; replace af := am_ (Kd.R_below (Sh.rl af.out) hb); replace aa := Sh.ab aa hb; replace HB := Sh.hb hb; (try clear hb); (try clear hk)))
      replace af := am_ (Kd.R_drew af.out);replace aa := am_ (blk_drew aa.out);replace HB := am_ (below_drew1 HB.out);refine start_ (n := 6) (S := fun w' => w'.cell? ⟨ak, 0, none⟩ = some (.int .i64 ah) ∧ w'.cell? ⟨ak, 1, none⟩ = some (.int .i64 ai) ∧ w'.cell? ⟨ak, 2, none⟩ = some (.slice al ac.length am) ∧ w'.cell? ⟨ak, 3, none⟩ = some (.slice ao ae.length ap)) (ds := []) (Sh.nm 6 0) (by kernel_rfl) rfl rfl Sh.cs (fun hHeld => ?_);generalize bS.drew = bV at af aa HB hHeld ⊢;refine Sh.pA 1 14 (Sh.nm 6 2) (by kernel_rfl) ?_;refine Sh.pA 3 16 (Sh.nm 6 10) (by kernel_rfl) ?_;refine Sh.tA 0 13 (Sh.nm 6 11) (by kernel_rfl) hHeld ?_ (hy := by rintro w' ⟨s0, s1, s2, s3⟩; go_simp; with_reducible rfl);refine Sh.tA 2 15 (Sh.nm 6 15) (by kernel_rfl) hHeld ?_ (hy := by rintro w' ⟨s0, s1, s2, s3⟩; go_simp; with_reducible rfl);refine one_ (i := 4) (N := some 17) (Sh.nm 6 31) rfl rfl (by kernel_rfl) (by decide) (fun K hK => ?_);refine goes_ Tryz.func37 (by kernel_rfl) rfl #[.agg #[.int .i64 ah, .int .i64 ai, .slice al ac.length am, .slice ao ae.length ap], .int .i64 aq] (by rfl) rfl rfl (by (try simp only [List.map_toArray, List.map_cons, List.map_nil]); first | done | rfl | (simp only [List.length_drop, List.length_take]; rfl)) ?_;with_reducible refine (QaC.calls k1 ah ai _ _ ac _ _ ae aq az _ (Sh.cB ar.out) au.out (Sh.cB av.out) aw.out A6.out).mono ?_
      rintro e bW ⟨bA, rfl, aJ, hb⟩;refine ⟨_, rfl, ?_⟩;replace af := am_ (Kd.R_below (Sh.rl af.out) hb);have aj := am_ (Kd.R_lower aJ (below_size Sh.bw));replace aa := Sh.ab aa hb;replace HB := Sh.hb hb;(try clear hb);(try clear aJ);obtain ⟨bB, bC, aK⟩ := Kd.R_slice aj.out;(first | subst aK | (injection aK with aM bD aN; have bE := aM.symm; have bF := aN.symm; clear aM bD aN; subst bE; subst bF));refine Sh.kN hK Sh.cs fun hHeld => ?_;clear hK K;refine one_ (i := 5) (N := some 18) (Sh.nm 6 63) rfl rfl (by kernel_rfl) (by decide) (fun K hK => ?_);refine goes_ Tryz.func36 (by kernel_rfl) rfl #[.agg #[.int .i64 ah, .int .i64 ai, .slice al ac.length am, .slice ao ae.length ap], .slice A1 l1.length c1, .slice bB az.length bC] (by rfl) rfl rfl (by (try simp only [List.map_toArray, List.map_cons, List.map_nil]); first | done | rfl | (simp only [List.length_drop, List.length_take]; rfl)) ?_;with_reducible refine (Qa7.calls k1 ah ai _ _ ac _ _ ae _ _ l1 _ _ az true _ (Sh.cB ar.out) au.out (Sh.cB av.out) aw.out (Sh.cB bK.out) bL.out (Sh.cR (Kd.R_reads' aj.out).2.2) (Kd.R_reads' aj.out).2.1 A7.out).mono ?_
      rintro e bX ⟨rfl, hb⟩;refine ⟨_, rfl, ?_⟩;replace af := am_ (Kd.R_below (Sh.rl af.out) hb);replace aj := am_ (Kd.R_below (Sh.rl aj.out) hb);replace aa := Sh.ab aa hb;replace HB := Sh.hb hb;(try clear hb);refine Sh.kN hK Sh.cs fun hHeld => ?_;clear hK K;refine done_ (by kernel_rfl) ?_;try go_wp2_with (first | ((with_reducible refine gate_builtin (b := .append) (xs := #[.tmp 19, .tmp 21]) rfl ?_); at_builtin; refine Kd.R_append (Kd.int .i64) (w0 := w) w.heap.size rfl (.tmp 19) (.tmp 21) 27 3 (.int .i64 0) 8 rfl Tryz.underlying27 info3 rfl (by decide) (by omega) u5 ay aq [.int .i64 aq] (fun _ => True) (fun _ => False) rfl rfl ?aP (fun _ hk => hk.elim) ?aF ?aO ?aB ?aS ?aL ?_; (case aP => exact rfl); (case aB => exact Sh.bw); (case aF => exact (fun _ _ => trivial)); (case aO => exact (Sh.rl af.out)); (case aS => exact (below_size Sh.bw)); (case aL => have := bu.out; omega); intro bT bY ho hb hg hat; rw [← aI.out] at ho; have bN := am_ (blk_grown (g := ak) (o := .cells #[.int .i64 ah, .int .i64 ai, .slice al ac.length am, .slice ao ae.length ap] 33 (0, 0)) (Sh.pl aa.out) hg (Kd.R_ne af.out aa.out (by decide))); have bO := am_ (Kd.R_over' (Sh.rl aj.out) (Kd.R_typed (Sh.rl af.out)) (by decide) hg); have bP := am_ hb; have bQ := am_ ho; clear aa; clear aj; clear HB; clear af; have aa := bN; have aj := bO; have HB := bP; have aQ := bQ; clear bN bO bP bQ; clear ho hb hg hat))
      go_roundg k1
      case measure => have := aT.out; omega
      case rel => exact ⟨(aH), (wrap64 (aq + 1)), (Sh.es), H', ⟨by have := aT.out; omega⟩, ⟨Sh.rl aQ.out⟩, ⟨by refine Sh.pl ?_; exact aa.out⟩, ⟨Sh.bw⟩⟩
     ·rw [if_neg c9] at H
      cases H
    ·replace c8 := Bool.eq_false_iff.mpr c8
     subst c8;rw [Sh.nf] at H;have H' := am_ H;clear H;have a6 := Sh.bc aa.out 0;have a7 := Sh.bc aa.out 1;have a8 := Sh.bc aa.out 2;have bf := Sh.bc aa.out 3;have bg := blk_frozen aa.out 0;have bh := blk_frozen aa.out 1;have bi := blk_frozen aa.out 2;have bj := blk_frozen aa.out 3;try go_wp2_with (first | ((with_reducible refine Sh.k 35 ?_); refine Sh.gB (some 9) Tryz.func35 #[.agg #[.int .i64 ah, .int .i64 ai, .slice al ac.length am, .slice ao ae.length ap]] (QbE.calls ah ai _ _ ac _ _ ae aA _ (Sh.cB ar.out) au.out (Sh.cB av.out) aw.out A4.out) fun bU hb => ?_; replace af := am_ (Kd.R_below (Sh.rl af.out) hb); replace aa := Sh.ab aa hb; replace HB := Sh.hb hb; (try clear hb); (try clear hk)))
     replace af := am_ (Kd.R_drew af.out);replace aa := am_ (blk_drew aa.out);replace HB := am_ (below_drew1 HB.out);refine start_ (n := 6) (S := fun w' => w'.cell? ⟨ak, 0, none⟩ = some (.int .i64 ah) ∧ w'.cell? ⟨ak, 1, none⟩ = some (.int .i64 ai) ∧ w'.cell? ⟨ak, 2, none⟩ = some (.slice al ac.length am) ∧ w'.cell? ⟨ak, 3, none⟩ = some (.slice ao ae.length ap)) (ds := []) (Sh.nm 6 0) (by kernel_rfl) rfl rfl Sh.cs (fun hHeld => ?_);generalize bU.drew = bZ at af aa HB hHeld ⊢;refine Sh.pA 1 14 (Sh.nm 6 2) (by kernel_rfl) ?_;refine Sh.pA 3 16 (Sh.nm 6 10) (by kernel_rfl) ?_;refine Sh.tA 0 13 (Sh.nm 6 11) (by kernel_rfl) hHeld ?_ (hy := by rintro w' ⟨s0, s1, s2, s3⟩; go_simp; with_reducible rfl);refine Sh.tA 2 15 (Sh.nm 6 15) (by kernel_rfl) hHeld ?_ (hy := by rintro w' ⟨s0, s1, s2, s3⟩; go_simp; with_reducible rfl);refine one_ (i := 4) (N := some 17) (Sh.nm 6 31) rfl rfl (by kernel_rfl) (by decide) (fun K hK => ?_);refine goes_ Tryz.func37 (by kernel_rfl) rfl #[.agg #[.int .i64 ah, .int .i64 ai, .slice al ac.length am, .slice ao ae.length ap], .int .i64 aq] (by rfl) rfl rfl (by (try simp only [List.map_toArray, List.map_cons, List.map_nil]); first | done | rfl | (simp only [List.length_drop, List.length_take]; rfl)) ?_;with_reducible refine (QaC.calls k1 ah ai _ _ ac _ _ ae aq az _ (Sh.cB ar.out) au.out (Sh.cB av.out) aw.out A6.out).mono ?_
     rintro e b0 ⟨bA, rfl, aJ, hb⟩;refine ⟨_, rfl, ?_⟩;replace af := am_ (Kd.R_below (Sh.rl af.out) hb);have aj := am_ (Kd.R_lower aJ (below_size Sh.bw));replace aa := Sh.ab aa hb;replace HB := Sh.hb hb;(try clear hb);(try clear aJ);obtain ⟨bG, bH, aR⟩ := Kd.R_slice aj.out;(first | subst aR | (injection aR with aM bD aN; have bE := aM.symm; have bF := aN.symm; clear aM bD aN; subst bE; subst bF));refine Sh.kN hK Sh.cs fun hHeld => ?_;clear hK K;refine one_ (i := 5) (N := some 18) (Sh.nm 6 63) rfl rfl (by kernel_rfl) (by decide) (fun K hK => ?_);refine goes_ Tryz.func36 (by kernel_rfl) rfl #[.agg #[.int .i64 ah, .int .i64 ai, .slice al ac.length am, .slice ao ae.length ap], .slice A1 l1.length c1, .slice bG az.length bH] (by rfl) rfl rfl (by (try simp only [List.map_toArray, List.map_cons, List.map_nil]); first | done | rfl | (simp only [List.length_drop, List.length_take]; rfl)) ?_;with_reducible refine (Qa7.calls k1 ah ai _ _ ac _ _ ae _ _ l1 _ _ az false _ (Sh.cB ar.out) au.out (Sh.cB av.out) aw.out (Sh.cB bK.out) bL.out (Sh.cR (Kd.R_reads' aj.out).2.2) (Kd.R_reads' aj.out).2.1 A7.out).mono ?_
     rintro e b1 ⟨rfl, hb⟩;refine ⟨_, rfl, ?_⟩;replace af := am_ (Kd.R_below (Sh.rl af.out) hb);replace aj := am_ (Kd.R_below (Sh.rl aj.out) hb);replace aa := Sh.ab aa hb;replace HB := Sh.hb hb;(try clear hb);refine Sh.kN hK Sh.cs fun hHeld => ?_;clear hK K;refine done_ (by kernel_rfl) ?_;try go_wp2
     go_roundg k1
     case measure => have := aT.out; omega
     case rel => exact ⟨(ay), (wrap64 (aq + 1)), (Sh.es), H', ⟨by have := aT.out; omega⟩, ⟨Sh.rl af.out⟩, ⟨by refine Sh.pl ?_; exact aa.out⟩, ⟨Sh.bw⟩⟩
   ·rw [if_neg c5] at H
    replace c5 := decide_eq_false c5;obtain rfl := Option.some.inj H;have bk := Sh.bc aa.out 0;have bl := Sh.bc aa.out 1;have bm := Sh.bc aa.out 2;have bn := Sh.bc aa.out 3;have bo := blk_frozen aa.out 0;have bp := blk_frozen aa.out 1;have bq := blk_frozen aa.out 2;have br := blk_frozen aa.out 3;go_wp2_with (first | ((with_reducible refine Sh.k 35 ?_); refine Sh.gB (some 9) Tryz.func35 #[.agg #[.int .i64 ah, .int .i64 ai, .slice al ac.length am, .slice ao ae.length ap]] (QbE.calls ah ai _ _ ac _ _ ae aA _ (Sh.cB ar.out) au.out (Sh.cB av.out) aw.out A4.out) fun b6 hb => ?_; replace af := am_ (Kd.R_below (Sh.rl af.out) hb); replace aa := Sh.ab aa hb; replace HB := Sh.hb hb; (try clear hb)));go_ret;exact ⟨_, Sh.eR, Sh.rl af.out, Sh.bw⟩
def Qbj.f (k : Nat) (a0 : Int) (a1 : Int) (ac : Int) (aa : Int) : Option (Bool) := if ac = 1 then ((Qa9.f k a0 aa).bind fun ae => (some ae)) else (if ac = 2 then (some (decide (aa < (IntKind.u64.wrap (a1))))) else (if ac = 20 then (some (decide (aa < 2))) else (some (aa == 0))))
theorem Qbj.mono : ∀ a0 a1 a2 a3 k, LeO (Qbj.f k a0 a1 a2 a3) (Qbj.f (k + 1) a0 a1 a2 a3) := by
 intro a0 a1 a2 a3 k;unfold Qbj.f;repeat' with_reducible first | apply Qa9.mono | exact LeO.refl _ | exact LeO.none _ | apply LeO.ite | refine LeO.bind ?_ fun _ => ?_
theorem Qbj.calls (k : Nat) (a0 : Int) (a1 : Int) (aa : Int) (ae : Int) (r : Bool) (w : World) (h : Qbj.f k a0 a1 aa ae = some r) :
  Calls Tryz.prog 117 #[.int .i64 a0, .int .i64 a1, .agg #[.int .i64 aa, .int .u64 ae]] w fun e w' => e = .returned (.bool r) ∧ Below w.heap.size w w' := by
 have aD := Tryz.underlying77;have HB := am_ (Below.refl w.heap.size w);have H := h;clear h;unfold Qbj.f at H;by_cases c4 : aa = 1
 ·rw [if_pos c4] at H
  have c4b0 : (aa == 1) = true := beq_iff_eq.mpr c4;have c4b1 : (aa != 1) = false := bne_eq_false_iff_eq.mpr c4;clear c4;obtain ⟨ay, A5, H⟩ := Sh.ba H;obtain rfl := Option.some.inj H;go_enter Tryz.func117, Tryz.ntmps117;go_wp2_with (first | ((with_reducible refine Sh.d 5 ?_); refine Sh.bz w (N := 5) (cs := #[.int .i64 aa, .int .u64 ae]) (t := 77) (h := ?_); clear HB; intro af w6 ac ah HB; obtain ⟨az, aA, aB, aC⟩ := Sh.b2 ac.out) | ((with_reducible refine Sh.k 129 ?_); refine Sh.gD (some 14) Tryz.func129 #[.int .i64 a0, .int .u64 ae] (Qa9.calls k a0 ae ay _ A5.out) fun nd => ?_));go_ret;exact ⟨Sh.eR, Sh.bw⟩
 ·rw [if_neg c4] at H
  have c4b0 : (aa == 1) = false := beq_eq_false_iff_ne.mpr c4;have c4b1 : (aa != 1) = true := bne_iff_ne.mpr c4;by_cases c8 : aa = 2
  ·rw [if_pos c8] at H
   have c8b0 : (aa == 2) = true := beq_iff_eq.mpr c8;have c8b1 : (aa != 2) = false := bne_eq_false_iff_eq.mpr c8;clear c8;obtain rfl := Option.some.inj H;go_enter Tryz.func117, Tryz.ntmps117;go_wp2_with (first | ((with_reducible refine Sh.d 5 ?_); refine Sh.bz w (N := 5) (cs := #[.int .i64 aa, .int .u64 ae]) (t := 77) (h := ?_); clear HB; intro af w9 ac ah HB; obtain ⟨aj, ak, al, am⟩ := Sh.b2 ac.out));go_ret;exact ⟨Sh.eR, Sh.bw⟩
  ·rw [if_neg c8] at H
   have c8b0 : (aa == 2) = false := beq_eq_false_iff_ne.mpr c8;have c8b1 : (aa != 2) = true := bne_iff_ne.mpr c8;by_cases ai : aa = 20
   ·rw [if_pos ai] at H
    have c11b0 : (aa == 20) = true := beq_iff_eq.mpr ai;have c11b1 : (aa != 20) = false := bne_eq_false_iff_eq.mpr ai;clear ai;obtain rfl := Option.some.inj H;go_enter Tryz.func117, Tryz.ntmps117;go_wp2_with (first | ((with_reducible refine Sh.d 5 ?_); refine Sh.bz w (N := 5) (cs := #[.int .i64 aa, .int .u64 ae]) (t := 77) (h := ?_); clear HB; intro af aE ac ah HB; obtain ⟨ao, ap, aq, ar⟩ := Sh.b2 ac.out));go_ret;exact ⟨Sh.eR, Sh.bw⟩
   ·rw [if_neg ai] at H
    have c11b0 : (aa == 20) = false := beq_eq_false_iff_ne.mpr ai;have c11b1 : (aa != 20) = true := bne_iff_ne.mpr ai;obtain rfl := Option.some.inj H;go_enter Tryz.func117, Tryz.ntmps117;go_wp2_with (first | ((with_reducible refine Sh.d 5 ?_); refine Sh.bz w (N := 5) (cs := #[.int .i64 aa, .int .u64 ae]) (t := 77) (h := ?_); clear HB; intro af aF ac ah HB; obtain ⟨au, av, aw, ax⟩ := Sh.b2 ac.out));go_ret;exact ⟨Sh.eR, Sh.bw⟩
mutual
def Qac.j0 : Nat → Int → Int → List (S77) → Bool → Option (Int)
 | 0, _, _, _, _ => none
 | k + 1, x0, x1, x2, ak => if ak = true then (some 0) else (Qac.l0 k x0 x1 ([] : List Int) x2 (x2.length : Int) 0)
def Qac.l0 : Nat → Int → Int → List Int → List (S77) → Int → Int → Option (Int)
 | 0, _, _, _, _, _, _ => none
 | k + 1, x0, x1, x7, ae, af, ac => if ac < af then (if 0 ≤ ac then (if ac < (ae.length : Int) then ((Qau.f k ((rd_T77 ae ac).f0)).bind fun aa => (if aa.2.2 = 0 then (Qac.j2 k x0 x1 x7 aa.1 aa.2.1 aa.2.2 ae af ac true) else ((Qbj.f k x0 x1 ((rd_T77 ae ac).f0) ((rd_T77 ae ac).f1)).bind fun t182 => (if t182 = true then (Qac.j2 k x0 x1 x7 aa.1 aa.2.1 aa.2.2 ae af ac (decide ((x7.length : Int) < aa.1))) else (Qac.j2 k x0 x1 x7 aa.1 aa.2.1 aa.2.2 ae af ac true))))) else (none)) else (none)) else (if (x7.length : Int) = 1 then (if 0 < (x7.length : Int) then (some (rd x7 0)) else (none)) else (some 0))
def Qac.j2 : Nat → Int → Int → List Int → Int → Int → Int → List (S77) → Int → Int → Bool → Option (Int)
 | 0, _, _, _, _, _, _, _, _, _, _ => none
 | k + 1, x0, x1, x7, ah, ai, aj, ae, af, ac, al => if al = true then (some 0) else (Qac.l1 k x0 x1 x7 ah ai aj ae af ac)
def Qac.l1 : Nat → Int → Int → List Int → Int → Int → Int → List (S77) → Int → Int → Option (Int)
 | 0, _, _, _, _, _, _, _, _, _ => none
 | k + 1, x0, x1, x7, ah, ai, aj, ae, af, ac => if ah > 0 then (if 0 ≤ (wrap64 ((x7.length : Int) - 1)) then (if (wrap64 ((x7.length : Int) - 1)) < (x7.length : Int) then (if (rd x7 (wrap64 ((x7.length : Int) - 1))) = ai then (if (wrap64 ((x7.length : Int) - 1)) ≤ (x7.length : Int) then (Qac.l1 k x0 x1 (x7.take ((wrap64 ((x7.length : Int) - 1)) : Int).toNat) (wrap64 (ah - 1)) ai aj ae af ac) else (none)) else (some 0)) else (none)) else (none)) else (if x7.length < 17592186044416 then (Qac.l0 k x0 x1 (x7 ++ [aj]) ae af (wrap64 (ac + 1))) else (none))
end
def Qac.f (k : Nat) (a0 : Int) (a1 : Int) (l2 : List (S77)) : Option (Int) := (Qbi.f a0).bind fun aa => (if aa = true then ((QaH.f a1 1 4).bind fun ac => (if ac = true then ((QaH.f (l2.length : Int) 1 48).bind fun ae => (Qac.j0 k a0 a1 l2 (!ae))) else (Qac.j0 k a0 a1 l2 true))) else (Qac.j0 k a0 a1 l2 true))
theorem Qac.mono_l : ∀ k, (∀ y0 y1 y2 y3, LeO (Qac.j0 k y0 y1 y2 y3) (Qac.j0 (k + 1) y0 y1 y2 y3)) ∧ (∀ y0 y1 y2 y3 y4 y5, LeO (Qac.l0 k y0 y1 y2 y3 y4 y5) (Qac.l0 (k + 1) y0 y1 y2 y3 y4 y5)) ∧ (∀ y0 y1 y2 y3 y4 y5 y6 y7 y8 y9, LeO (Qac.j2 k y0 y1 y2 y3 y4 y5 y6 y7 y8 y9) (Qac.j2 (k + 1) y0 y1 y2 y3 y4 y5 y6 y7 y8 y9)) ∧ (∀ y0 y1 y2 y3 y4 y5 y6 y7 y8, LeO (Qac.l1 k y0 y1 y2 y3 y4 y5 y6 y7 y8) (Qac.l1 (k + 1) y0 y1 y2 y3 y4 y5 y6 y7 y8))
 | 0 => ⟨fun _ _ _ _ r h => by simp [Qac.j0] at h, fun _ _ _ _ _ _ r h => by simp [Qac.l0] at h, fun _ _ _ _ _ _ _ _ _ _ r h => by simp [Qac.j2] at h, fun _ _ _ _ _ _ _ _ _ r h => by simp [Qac.l1] at h⟩
 | k + 1 => by
  obtain ⟨aa, ac, ae, af⟩ := Qac.mono_l k
  and_intros <;> intros
  all_goals (first | unfold Qac.j0 | unfold Qac.l0 | unfold Qac.j2 | unfold Qac.l1)
  all_goals repeat' with_reducible first | apply aa | apply ac | apply ae | apply af | apply Qbj.mono | apply Qau.mono | exact LeO.refl _ | exact LeO.none _ | apply LeO.ite | refine LeO.bind ?_ fun _ => ?_
theorem Qac.mono : ∀ a0 a1 a2 k, LeO (Qac.f k a0 a1 a2) (Qac.f (k + 1) a0 a1 a2) := by
 intro a0 a1 a2 k;obtain ⟨aa, ac, ae, af⟩ := Qac.mono_l k;unfold Qac.f;repeat' with_reducible first | apply aa | apply ac | apply ae | apply af | apply Qbj.mono | apply Qau.mono | exact LeO.refl _ | exact LeO.none _ | apply LeO.ite | refine LeO.bind ?_ fun _ => ?_
theorem Qac.calls (k : Nat) (a0 : Int) (a1 : Int) (A2 : Option Addr) (c2 : Nat) (l2 : List (S77)) (r : Int) (w : World) (hr2 : Kd.C k77 w A2 l2.length l2) (b8 : l2.length ≤ c2) (h : Qac.f k a0 a1 l2 = some r) :
  Calls Tryz.prog 92 #[.int .i64 a0, .int .i64 a1, .slice A2 l2.length c2] w fun e w' => e = .returned (.int .i64 r) ∧ Below w.heap.size w w' := by
 have cg := Tryz.underlying77;have ch := am_ hr2;have cC := am_ b8;clear hr2 b8;have HB := am_ (Below.refl w.heap.size w);have H := h;clear h;unfold Qac.f at H;have bR := am_ H;clear H;go_enter Tryz.func92, Tryz.ntmps92;go_upto_region 1 with (fail)
 go_cut [26] (fun ci wc => ∃ (kq : Nat) (ax : Bool), ci = .bool ax ∧ Aside0 (Qac.j0 kq a0 a1 l2 ax = some r) ∧ Aside0 (kq ≤ k) ∧ Aside0 (Below w.heap.size w wc))
 case first =>
  have H := bR.out;clear bR;obtain ⟨bS, A5, H⟩ := Sh.ba H;by_cases c6 : bS = true
  ·subst c6
   rw [if_pos rfl] at H;obtain ⟨bT, A7, H⟩ := Sh.ba H;by_cases c8 : bT = true
   ·subst c8
    rw [if_pos rfl] at H;obtain ⟨br, A9, H⟩ := Sh.ba H;have H' := am_ H;clear H;go_wp2_with (first | ((with_reducible refine Sh.k 116 ?_); refine Sh.gD (some 14) Tryz.func116 #[.int .i64 a0] (Qbi.calls a0 true _ A5.out) fun nd => ?_) | (go_at_call 73; (with_reducible refine (QaH.calls a1 1 4 true _ A7.out).mono ?_); rintro e w' ⟨rfl, ⟨nd, rfl⟩⟩) | (go_at_call 73; (with_reducible refine (QaH.calls (l2.length : Int) 1 48 br _ A9.out).mono ?_); rintro e w' ⟨rfl, ⟨nd, rfl⟩⟩));go_meet
    case rel => exact ⟨_, (!br), (Sh.es), H', ⟨Sh.om⟩, ⟨Sh.bw⟩⟩
   ·replace c8 := Bool.eq_false_iff.mpr c8
    subst c8;rw [Sh.nf] at H;have H' := am_ H;clear H;go_wp2_with (first | ((with_reducible refine Sh.k 116 ?_); refine Sh.gD (some 14) Tryz.func116 #[.int .i64 a0] (Qbi.calls a0 true _ A5.out) fun nd => ?_) | (go_at_call 73; (with_reducible refine (QaH.calls a1 1 4 false _ A7.out).mono ?_); rintro e w' ⟨rfl, ⟨nd, rfl⟩⟩));go_meet
    case rel => exact ⟨_, (true), (Sh.es), H', ⟨Sh.om⟩, ⟨Sh.bw⟩⟩
  ·replace c6 := Bool.eq_false_iff.mpr c6
   subst c6;rw [Sh.nf] at H;have H' := am_ H;clear H;go_wp2_with (first | ((with_reducible refine Sh.k 116 ?_); refine Sh.gD (some 14) Tryz.func116 #[.int .i64 a0] (Qbi.calls a0 false _ A5.out) fun nd => ?_));go_meet
   case rel => exact ⟨_, (true), (Sh.es), H', ⟨Sh.om⟩, ⟨Sh.bw⟩⟩
 case rest =>
  clear bR;obtain ⟨kq, ax, rfl, HA, a6, HB⟩ := hcut;cases kq with
  | zero => exact absurd HA.out (by simp [Qac.j0])
  | succ b9 =>
   have H := HA.out;clear HA;simp only [Qac.j0] at H;by_cases bH : ax = true
   ·subst bH
    rw [if_pos rfl] at H;obtain rfl := Option.some.inj H;go_wp2;go_ret;exact ⟨Sh.eR, Sh.bw⟩
   ·replace bH := Bool.eq_false_iff.mpr bH
    subst bH;rw [Sh.nf] at H;have H' := am_ H;clear H;go_wp2;go_loopg [7, 29] b9 (fun kq v7 cj w' => ∃ (aj : List Int) (aa : Int), cj = .int .i64 aa ∧ Aside0 (Qac.l0 kq a0 a1 aj l2 (l2.length : Int) aa = some r) ∧ Aside0 (kq ≤ b9) ∧ Aside0 (Kd.R (Kd.int .i64) 3 w' w.heap.size (fun _ => True) v7 aj) ∧ Aside0 (Below w.heap.size w w'))
    case atStart => exact ⟨(([] : List Int)), (0), (Sh.es), H', ⟨Nat.le_refl _⟩, ⟨by first | exact Kd.R_nil _ _ _ _ _ | exact Kd.N_nil _ _ _ _ _ | exact Kd.V_nil _ _ _ _ _ | exact Kd.Q_nil _ _ _ _ _ | exact Kd.S_nil _ _ _ _ _⟩, ⟨Sh.bw⟩⟩
    case round =>
     clear H';obtain ⟨aj, aa, rfl, HA, a7, ae, HB⟩ := hrel;cases gk with
     | zero => exact absurd HA.out (by simp [Qac.l0])
     | succ k2 =>
      have H := HA.out;clear HA;simp only [Qac.l0] at H;by_cases bp : aa < (l2.length : Int)
      ·rw [if_pos bp] at H
       replace bp := decide_eq_true bp;by_cases bI : 0 ≤ aa
       ·rw [if_pos bI] at H
        replace bI := decide_eq_true bI;by_cases bJ : aa < (l2.length : Int)
        ·rw [if_pos bJ] at H
         replace bJ := decide_eq_true bJ;obtain ⟨⟨aQ, ap, al⟩, bs, H⟩ := Sh.bd H;have ck := am_ bs;clear bs;have a8 := am_ H;clear H;have bf : 0 ≤ (aa : Int) := Sh.od;have bg : aa < (l2.length : Int) := Sh.od;obtain ⟨ca, bU, am, ao⟩ := at_T77 ch.out aa bf bg;cases bU;try replace am := Sh.cw am
         try replace ao := Sh.cw ao
         replace bf := eq_true bf;replace bg := eq_true bg;go_upto_region 8 with (first | ((with_reducible refine Sh.d 9 ?_); (try (refine gate_guard (by rfl) ?_; dsimp only)); refine Sh.bx (N := 9) (cs := #[.int .i64 0, .int .u64 0]) (t := 77) (h := ?_); intro ai hg cD hbox hb; replace ae := am_ (Kd.R_below (Sh.rl ae.out) hb); have ac := am_ hbox; have cb := Sh.ag w hg; replace HB := Sh.hb hb; clear hb hbox hg; obtain ⟨ay, az, aA, aC⟩ := Sh.b2 ac.out) | ((with_reducible refine Sh.k 75 ?_); refine Sh.gD (some 36) Tryz.func75 #[.int .i64 ((rd_T77 l2 aa).f0)] (Qau.calls k2 ((rd_T77 l2 aa).f0) aQ ap al _ ck.out) fun nd => ?_))
         (try simp only [Act.put, List.setIfInBounds_toArray, List.set_cons_zero, List.set_cons_succ]);go_cut [54] (fun cl wc => ∃ (kq : Nat) (aq : Bool), cl = .bool aq ∧ Aside0 (Qac.j2 kq a0 a1 aj aQ ap al l2 (l2.length : Int) aa aq = some r) ∧ Aside0 (kq ≤ k2) ∧ Aside0 (Kd.R (Kd.int .i64) 3 wc w.heap.size (fun _ => True) u7 aj) ∧ Aside0 (wc.heap[ai]? = some (.cells #[.int .i64 ((rd_T77 l2 aa).f0), .int .u64 ((rd_T77 l2 aa).f1)] 77 (0, 0))) ∧ Aside0 (Below w.heap.size w wc))
         case first =>
          have H := a8.out;clear a8;by_cases bh : al = 0
          ·rw [if_pos bh] at H
           have c18b0 : (al == 0) = true := beq_iff_eq.mpr bh;have c18b1 : (al != 0) = false := bne_eq_false_iff_eq.mpr bh;clear bh;first | rw [c18b0] | (simp only [i64_w, i32_w]; rw [c18b0]) | skip
           have H' := am_ H;clear H;go_wp2;go_meet
           case rel => exact ⟨_, (true), (Sh.es), H', ⟨by have := a6.out; have := a7.out; first | omega | exact Nat.le_refl _⟩, ⟨Sh.rl (Kd.R_mono (Kd.R_far (p := ⟨ai, 1, none⟩) (Kd.R_far (p := ⟨ai, 0, none⟩) (Kd.R_types ae.out ac.out (by decide)) (fun _ hk => hk.2) (.int .i64 ((rd_T77 l2 aa).f0))) (fun _ hk => hk.2) (.int .u64 ((rd_T77 l2 aa).f1))) (fun _ hk => trivial))⟩, ⟨by refine Sh.pl ?_; refine blk_put (cs := #[.int .i64 ((rd_T77 l2 aa).f0), .int .u64 0]) ?_ 1 _ rfl; refine Sh.pl ?_; refine blk_put (cs := #[.int .i64 0, .int .u64 0]) ?_ 0 _ rfl; refine Sh.pl ?_; exact ac.out⟩, ⟨Sh.bw⟩⟩
          ·rw [if_neg bh] at H
           have c18b0 : (al == 0) = false := beq_eq_false_iff_ne.mpr bh;have c18b1 : (al != 0) = true := bne_iff_ne.mpr bh;first | rw [c18b0] | (simp only [i64_w, i32_w]; rw [c18b0]) | skip
           obtain ⟨t182, cd, H⟩ := Sh.ba H;by_cases bK : t182 = true
           ·subst bK
            rw [if_pos rfl] at H;have H' := am_ H;clear H;have aD := Sh.bc ac.out 0;have aE := Sh.bc ac.out 1;have aG := blk_frozen ac.out 0;have aH := blk_frozen ac.out 1;go_wp2_with (first | (go_at_call 117; (with_reducible refine (Qbj.calls k2 a0 a1 ((rd_T77 l2 aa).f0) ((rd_T77 l2 aa).f1) true _ cd.out).mono ?_); rintro e cE ⟨rfl, hb⟩; have aV := am_ (Kd.R_below (Sh.rl (Kd.R_mono (Kd.R_far (p := ⟨ai, 1, none⟩) (Kd.R_far (p := ⟨ai, 0, none⟩) (Kd.R_types ae.out ac.out (by decide)) (fun _ hk => hk.2) (.int .i64 ((rd_T77 l2 aa).f0))) (fun _ hk => hk.2) (.int .u64 ((rd_T77 l2 aa).f1))) (fun _ h_ => h_.1))) hb); have aW := am_ (blk_below (g := ai) (o := .cells #[.int .i64 ((rd_T77 l2 aa).f0), .int .u64 ((rd_T77 l2 aa).f1)] 77 (0, 0)) (by refine Sh.pl ?_; refine blk_put (cs := #[.int .i64 ((rd_T77 l2 aa).f0), .int .u64 0]) ?_ 1 _ rfl; refine Sh.pl ?_; refine blk_put (cs := #[.int .i64 0, .int .u64 0]) ?_ 0 _ rfl; refine Sh.pl ?_; exact ac.out) hb); have aX := am_ (below_step Sh.bw hb); clear ae; clear ac; clear HB; have ae := aV; have ac := aW; have HB := aX; clear aV aW aX; (try clear hb); (try clear hk); obtain ⟨cm, cn, bV⟩ := Kd.R_slice ae.out; subst bV));go_meet
            case rel => exact ⟨_, (decide ((aj.length : Int) < aQ)), (Sh.es), H', ⟨by have := a6.out; have := a7.out; first | omega | exact Nat.le_refl _⟩, ⟨Sh.rl ae.out⟩, ⟨by refine Sh.pl ?_; exact ac.out⟩, ⟨Sh.bw⟩⟩
           ·replace bK := Bool.eq_false_iff.mpr bK
            subst bK;rw [Sh.nf] at H;have H' := am_ H;clear H;have aI := Sh.bc ac.out 0;have aJ := Sh.bc ac.out 1;have aK := blk_frozen ac.out 0;have aM := blk_frozen ac.out 1;go_wp2_with (first | (go_at_call 117; (with_reducible refine (Qbj.calls k2 a0 a1 ((rd_T77 l2 aa).f0) ((rd_T77 l2 aa).f1) false _ cd.out).mono ?_); rintro e cF ⟨rfl, hb⟩; have aV := am_ (Kd.R_below (Sh.rl (Kd.R_mono (Kd.R_far (p := ⟨ai, 1, none⟩) (Kd.R_far (p := ⟨ai, 0, none⟩) (Kd.R_types ae.out ac.out (by decide)) (fun _ hk => hk.2) (.int .i64 ((rd_T77 l2 aa).f0))) (fun _ hk => hk.2) (.int .u64 ((rd_T77 l2 aa).f1))) (fun _ h_ => h_.1))) hb); have aW := am_ (blk_below (g := ai) (o := .cells #[.int .i64 ((rd_T77 l2 aa).f0), .int .u64 ((rd_T77 l2 aa).f1)] 77 (0, 0)) (by refine Sh.pl ?_; refine blk_put (cs := #[.int .i64 ((rd_T77 l2 aa).f0), .int .u64 0]) ?_ 1 _ rfl; refine Sh.pl ?_; refine blk_put (cs := #[.int .i64 0, .int .u64 0]) ?_ 0 _ rfl; refine Sh.pl ?_; exact ac.out) hb); have aX := am_ (below_step Sh.bw hb); clear ae; clear ac; clear HB; have ae := aV; have ac := aW; have HB := aX; clear aV aW aX; (try clear hb); (try clear hk)));go_meet
            case rel => exact ⟨_, (true), (Sh.es), H', ⟨by have := a6.out; have := a7.out; first | omega | exact Nat.le_refl _⟩, ⟨Sh.rl ae.out⟩, ⟨by refine Sh.pl ?_; exact ac.out⟩, ⟨Sh.bw⟩⟩
         case rest =>
          clear a8;try clear co
          try clear bW
          try clear ay
          try clear az
          try clear aD
          try clear aE
          try clear aI
          try clear aJ
          try clear aA
          try clear aC
          try clear aG
          try clear aH
          try clear aK
          try clear aM
          try clear am
          try clear ao
          obtain ⟨kq, aq, rfl, HA, aR, ae, ac, HB⟩ := hcut;cases kq with
          | zero => exact absurd HA.out (by simp [Qac.j2])
          | succ bu =>
           have H := HA.out;clear HA;simp only [Qac.j2] at H;by_cases bL : aq = true
           ·subst bL
            rw [if_pos rfl] at H;obtain rfl := Option.some.inj H;go_wp2;go_ret;exact ⟨Sh.eR, Sh.bw⟩
           ·replace bL := Bool.eq_false_iff.mpr bL
            subst bL;rw [Sh.nf] at H;have H' := am_ H;clear H;go_wp2;go_loopg [7, 10] bu (fun kq v7 cp w' => ∃ (ah : List Int) (ak : Int), cp = .int .i64 ak ∧ Aside0 (Qac.l1 kq a0 a1 ah ak ap al l2 (l2.length : Int) aa = some r) ∧ Aside0 (kq ≤ bu) ∧ Aside0 (Kd.R (Kd.int .i64) 3 w' w.heap.size (fun _ => True) v7 ah) ∧ Aside0 (w'.heap[ai]? = some (.cells #[.int .i64 ((rd_T77 l2 aa).f0), .int .u64 ((rd_T77 l2 aa).f1)] 77 (0, 0))) ∧ Aside0 (Below w.heap.size w w'))
            case atStart => exact ⟨(aj), (aQ), (Sh.es), H', ⟨Nat.le_refl _⟩, ⟨Sh.rl ae.out⟩, ⟨by refine Sh.pl ?_; exact ac.out⟩, ⟨Sh.bw⟩⟩
            case round =>
             clear H';try clear co
             try clear bW
             try clear ay
             try clear az
             try clear aD
             try clear aE
             try clear aI
             try clear aJ
             try clear aA
             try clear aC
             try clear aG
             try clear aH
             try clear aK
             try clear aM
             try clear am
             try clear ao
             obtain ⟨ah, ak, rfl, HA, bM, ae, ac, HB⟩ := hrel;cases gk with
             | zero => exact absurd HA.out (by simp [Qac.l1])
             | succ k4 =>
              have H := HA.out;clear HA;simp only [Qac.l1] at H;by_cases bq : ak > 0
              ·rw [if_pos bq] at H
               have c27b0 : decide (0 < ak) = true := decide_eq_true bq;clear bq;obtain ⟨af, hj1⟩ : ∃ j_ : Int, (wrap64 ((ah.length : Int) - 1)) = j_ := ⟨_, rfl⟩;replace H : (if 0 ≤ (af) then (if (af) < (ah.length : Int) then (if (rd ah (af)) = ap then (if (af) ≤ (ah.length : Int) then (Qac.l1 k4 a0 a1 (ah.take ((af) : Int).toNat) (wrap64 (ak - 1)) ap al l2 (l2.length : Int) aa) else (none)) else (some 0)) else (none)) else (none)) = some r := by first | (rw [hj1] at H; exact H) | (simp only [hj1] at H ⊢; exact H)
               have hji28w : (IntKind.i64.wrap ((ah.length : Int) - 1)) = af := (i64_w _).trans hj1;by_cases bN : 0 ≤ (af)
               ·rw [if_pos bN] at H
                replace bN := decide_eq_true bN;by_cases bO : (af) < (ah.length : Int)
                ·rw [if_pos bO] at H
                 replace bO := decide_eq_true bO;by_cases bi : (rd ah (af)) = ap
                 ·rw [if_pos bi] at H
                  have c31b0 : ((rd ah (af)) == ap) = true := beq_iff_eq.mpr bi;have c31b1 : ((rd ah (af)) != ap) = false := bne_eq_false_iff_eq.mpr bi;clear bi;by_cases bv : (af) ≤ (ah.length : Int)
                  ·rw [if_pos bv] at H
                   have c32b0 := eq_true bv;have c32b1 := decide_eq_true bv;clear bv;obtain ⟨bj, ar⟩ : ∃ y_ : List Int, y_ = (ah.take ((af) : Int).toNat) := ⟨_, rfl⟩;replace H : (Qac.l1 k4 a0 a1 bj (wrap64 (ak - 1)) ap al l2 (l2.length : Int) aa) = some r := by first | (rw [ar]; with_reducible exact H) | (have bk := (Option.bind_some _ _).symm.trans H; rw [ar]; with_reducible exact bk) | (have bk := (Option.bind_some _ _).symm.trans H; with_reducible exact bk) | with_reducible exact H | (rw [ar]; exact H) | exact H
                   have aY := am_ ar;clear ar;have H' := am_ H;clear H;obtain ⟨cq, bX, bY⟩ := Kd.R_slice ae.out;subst bY;have av : 0 ≤ ((af) : Int) := Sh.od;have aw : (af) < (ah.length : Int) := Sh.od;obtain ⟨aZ, bl, aT⟩ := Kd.at_int (Kd.R_reads' ae.out).2.2 (af) av aw;cases bl;replace av := eq_true av;replace aw := eq_true aw;have bZ : ((af) : Int) ≤ ((ah.length : Int) : Int) := Sh.od;obtain ⟨cr, a2, _, bA, _⟩ := info_parts info3;have hcut34 := cut_to (P := Tryz.prog) 27 3 .i64 Tryz.underlying27 a2 (some aZ) ah.length bX (af) (of_decide_eq_true (by first | (with_reducible assumption) | assumption)) bZ (Kd.R_reads' ae.out).2.1;have aU := Kd.R_take (m := ((af) : Int).toNat) ae.out (by omega);have bB : bj.length = ((af) : Int).toNat := (by rw [aY.out, List.length_take]; omega);rw [← aY.out] at aU;rw [← bB] at aU hcut34;clear bB a2 bA ae;have bC := am_ aU;clear aU;replace bZ := eq_true bZ;go_wp2;go_roundg k4
                   case measure => have := a6.out; have := a7.out; have := aR.out; have := bM.out; omega
                   case rel => exact ⟨(bj), (wrap64 (ak - 1)), (Sh.es), H', ⟨by have := a6.out; have := a7.out; have := aR.out; have := bM.out; omega⟩, ⟨Sh.rl bC.out⟩, ⟨by refine Sh.pl ?_; exact ac.out⟩, ⟨Sh.bw⟩⟩
                  ·rw [if_neg bv] at H
                   cases H
                 ·rw [if_neg bi] at H
                  have c31b0 : ((rd ah (af)) == ap) = false := beq_eq_false_iff_ne.mpr bi;have c31b1 : ((rd ah (af)) != ap) = true := bne_iff_ne.mpr bi;obtain rfl := Option.some.inj H;obtain ⟨ct, cu, b0⟩ := Kd.R_slice ae.out;subst b0;have av : 0 ≤ ((af) : Int) := Sh.od;have aw : (af) < (ah.length : Int) := Sh.od;obtain ⟨aZ, bl, aT⟩ := Kd.at_int (Kd.R_reads' ae.out).2.2 (af) av aw;cases bl;replace av := eq_true av;replace aw := eq_true aw;go_wp2;go_ret;exact ⟨by first | rfl | (simp [errW_none, errW_some] <;> rfl) | (simp only [← hj1]; first | rfl | (simp [errW_none, errW_some] <;> rfl)) | (simp [*, errW_none, errW_some] <;> rfl), Sh.bw⟩
                ·rw [if_neg bO] at H
                 cases H
               ·rw [if_neg bN] at H
                cases H
              ·rw [if_neg bq] at H
               have c27b0 : decide (0 < ak) = false := decide_eq_false bq;clear bq;by_cases bP : ah.length < 17592186044416
               ·rw [if_pos bP] at H
                have bD := am_ bP;clear bP;obtain ⟨bE, au⟩ : ∃ y_ : List Int, y_ = (ah ++ [al]) := ⟨_, rfl⟩;replace H : (Qac.l0 k4 a0 a1 bE l2 (l2.length : Int) (wrap64 (aa + 1))) = some r := by first | (rw [au]; with_reducible exact H) | (have bk := (Option.bind_some _ _).symm.trans H; rw [au]; with_reducible exact bk) | (have bk := (Option.bind_some _ _).symm.trans H; with_reducible exact bk) | with_reducible exact H | (rw [au]; exact H) | exact H
                have bF := am_ au;clear au;have H' := am_ H;clear H;go_wp2_with (first | ((with_reducible refine gate_builtin (b := .append) (xs := #[.tmp 72, .tmp 74]) rfl ?_); (try (refine gate_guard (by rfl) ?_; dsimp only)); at_builtin; refine Kd.R_append (Kd.int .i64) (w0 := w) w.heap.size rfl (.tmp 72) (.tmp 74) 27 3 (.int .i64 0) 8 rfl Tryz.underlying27 info3 rfl (by decide) (by omega) u7 ah al [.int .i64 al] (fun _ => True) (fun _ => False) rfl rfl ?aP (fun _ hk => hk.elim) ?aF ?aO ?aB ?aS ?aL ?_; (case aP => exact rfl); (case aB => exact Sh.bw); (case aF => exact (fun _ _ => trivial)); (case aO => exact (Sh.rl ae.out)); (case aS => exact (below_size Sh.bw)); (case aL => have := bD.out; omega); intro cv cG ho hb hg hat; rw [← bF.out] at ho; have aV := am_ (blk_grown (g := ai) (o := .cells #[.int .i64 ((rd_T77 l2 aa).f0), .int .u64 ((rd_T77 l2 aa).f1)] 77 (0, 0)) (Sh.pl ac.out) hg (Kd.R_ne ae.out ac.out (by decide))); have aW := am_ hb; have aX := am_ ho; clear ac; clear HB; clear ae; have ac := aV; have HB := aW; have bG := aX; clear aV aW aX; clear ho hb hg hat));go_roundg k4
                case measure => have := a6.out; have := a7.out; have := aR.out; have := bM.out; omega
                case rel => exact ⟨(bE), (wrap64 (aa + 1)), (Sh.es), H', ⟨by have := a6.out; have := a7.out; have := aR.out; have := bM.out; omega⟩, ⟨Sh.rl bG.out⟩, ⟨Sh.bw⟩⟩
               ·rw [if_neg bP] at H
                cases H
        ·rw [if_neg bJ] at H
         cases H
       ·rw [if_neg bI] at H
        cases H
      ·rw [if_neg bp] at H
       replace bp := decide_eq_false bp;by_cases bm : (aj.length : Int) = 1
       ·rw [if_pos bm] at H
        have c38b0 : ((aj.length : Int) == 1) = true := beq_iff_eq.mpr bm;have c38b1 : ((aj.length : Int) != 1) = false := bne_eq_false_iff_eq.mpr bm;clear bm;by_cases bQ : 0 < (aj.length : Int)
        ·rw [if_pos bQ] at H
         have c39b0 := decide_eq_true bQ;have c39b1 : decide (0 < aj.length) = true := decide_eq_true (by omega);clear bQ;obtain rfl := Option.some.inj H;obtain ⟨cx, cy, b1⟩ := Kd.R_slice ae.out;subst b1;have bn : 0 ≤ (0 : Int) := (by omega);have bo : 0 < (aj.length : Int) := Sh.od;obtain ⟨ce, b6, aN⟩ := Kd.at_int (Kd.R_reads' ae.out).2.2 0 bn bo;cases b6;have cf : (0 < aj.length) = True := eq_true (by omega);(try rw [show ((0 : Int)).toNat = 0 from rfl] at aN);(try rw [Addr.add_zero'] at aN);replace bn := eq_true bn;replace bo := eq_true bo;go_wp2;go_ret;exact ⟨Sh.eR, Sh.bw⟩
        ·rw [if_neg bQ] at H
         cases H
       ·rw [if_neg bm] at H
        have c38b0 : ((aj.length : Int) == 1) = false := beq_eq_false_iff_ne.mpr bm;have c38b1 : ((aj.length : Int) != 1) = true := bne_iff_ne.mpr bm;obtain rfl := Option.some.inj H;obtain ⟨cz, cA, b7⟩ := Kd.R_slice ae.out;subst b7;go_wp2;go_ret;exact ⟨Sh.eR, Sh.bw⟩
def Qa6.f (k : Nat) (aa : Int) (ac : Int) (af : List (S77)) (ah : List (S82)) (l1 : List (S77)) : Option (Bool) := (Qac.f k aa ac l1).bind fun ae => (some (ae == 2))
theorem Qa6.mono : ∀ a0 a1 a2 a3 a4 k, LeO (Qa6.f k a0 a1 a2 a3 a4) (Qa6.f (k + 1) a0 a1 a2 a3 a4) := by
 intro a0 a1 a2 a3 a4 k;unfold Qa6.f;repeat' with_reducible first | apply Qac.mono | exact LeO.refl _ | exact LeO.none _ | apply LeO.ite | refine LeO.bind ?_ fun _ => ?_
theorem Qa6.calls (k : Nat) (ae : Int) (af : Int) (am : Option Addr) (ao : Nat) (aa : List (S77)) (ap : Option Addr) (aq : Nat) (ac : List (S82)) (A1 : Option Addr) (c1 : Nat) (l1 : List (S77)) (r : Bool) (w : World) (ai : Kd.C k77 w am aa.length aa) (aj : aa.length ≤ ao) (ak : Kd.C k82 w ap ac.length ac) (al : ac.length ≤ aq) (hr1 : Kd.C k77 w A1 l1.length l1) (aC : l1.length ≤ c1) (h : Qa6.f k ae af aa ac l1 = some r) :
  Calls Tryz.prog 72 #[.agg #[.int .i64 ae, .int .i64 af, .slice am aa.length ao, .slice ap ac.length aq], .slice A1 l1.length c1] w fun e w' => e = .returned (.bool r) ∧ Below w.heap.size w w' := by
 have aJ := Tryz.underlying33;have aD := am_ ai;have aE := am_ aj;clear ai aj;have aF := am_ ak;have aG := am_ al;clear ak al;have aK := am_ hr1;have aL := am_ aC;clear hr1 aC;have HB := am_ (Below.refl w.heap.size w);have H := h;clear h;unfold Qa6.f at H;obtain ⟨ar, A3, H⟩ := Sh.ba H;obtain rfl := Option.some.inj H;go_enter Tryz.func72, Tryz.ntmps72;go_wp2_with (first | ((with_reducible refine Sh.d 2 ?_); refine Sh.bz w (N := 2) (cs := #[.int .i64 ae, .int .i64 af, .slice am aa.length ao, .slice ap ac.length aq]) (t := 33) (h := ?_); clear HB; intro aH w4 ah aI HB; obtain ⟨au, av, aw, ax, ay, az, aA, aB⟩ := Sh.b4 ah.out) | ((with_reducible refine Sh.k 92 ?_); refine Sh.gB (some 10) Tryz.func92 #[.int .i64 ae, .int .i64 af, .slice A1 l1.length c1] (Qac.calls k ae af _ _ l1 ar _ (Sh.cB aK.out) aL.out A3.out) fun w6 hb => ?_; replace ah := Sh.ab ah hb; replace HB := Sh.hb hb; (try clear hb); (try clear hk)));go_ret;exact ⟨Sh.eR, Sh.bw⟩
mutual
def Qag.j0 : Nat → Bool → Int → Int → List (S77) → List (S82) → List (S77) → List (S100) → Option (Bool)
 | 0, _, _, _, _, _, _, _ => none
 | k + 1, aq, ae, ac, af, ah, ai, aa => if aq = true then (some false) else (Qag.l0 k aa (aa.length : Int) 0 ae ac af ah ai aa)
def Qag.l0 : Nat → List (S100) → Int → Int → Int → Int → List (S77) → List (S82) → List (S77) → List (S100) → Option (Bool)
 | 0, _, _, _, _, _, _, _, _, _ => none
 | k + 1, ak, al, aj, ae, ac, af, ah, ai, aa => if aj < al then (if 0 ≤ aj then (if aj < (ak.length : Int) then ((QaH.f ((rd_T100 ak aj).f0) 0 (wrap64 (ac - 1))).bind fun am => (if am = true then (if aj > 0 then (if 0 ≤ (wrap64 (aj - 1)) then (if (wrap64 (aj - 1)) < (aa.length : Int) then (if ((rd_T100 aa (wrap64 (aj - 1))).f0) ≥ ((rd_T100 ak aj).f0) then (some false) else ((Qac.f k ae ac ((rd_T100 ak aj).f1)).bind fun ao => (if ao = 1 then (Qag.l0 k ak al (wrap64 (aj + 1)) ae ac af ah ai aa) else (some false)))) else (none)) else (none)) else ((Qac.f k ae ac ((rd_T100 ak aj).f1)).bind fun ap => (if ap = 1 then (Qag.l0 k ak al (wrap64 (aj + 1)) ae ac af ah ai aa) else (some false)))) else (some false))) else (none)) else (none)) else (some true)
end
def Qag.f (k : Nat) (ac : Int) (aa : Int) (ae : List (S77)) (af : List (S82)) (ah : List (S77)) (ai : List (S100)) : Option (Bool) := (Qa6.f k ac aa ae af ah).bind fun aj => (if aj = true then (Qag.j0 k (decide ((ai.length : Int) > aa)) ac aa ae af ah ai) else (Qag.j0 k true ac aa ae af ah ai))
theorem Qag.mono_l : ∀ k, (∀ y0 y1 y2 y3 y4 y5 y6, LeO (Qag.j0 k y0 y1 y2 y3 y4 y5 y6) (Qag.j0 (k + 1) y0 y1 y2 y3 y4 y5 y6)) ∧ (∀ y0 y1 y2 y3 y4 y5 y6 y7 y8, LeO (Qag.l0 k y0 y1 y2 y3 y4 y5 y6 y7 y8) (Qag.l0 (k + 1) y0 y1 y2 y3 y4 y5 y6 y7 y8))
 | 0 => ⟨fun _ _ _ _ _ _ _ r h => by simp [Qag.j0] at h, fun _ _ _ _ _ _ _ _ _ r h => by simp [Qag.l0] at h⟩
 | k + 1 => by
  obtain ⟨aa, ac⟩ := Qag.mono_l k
  and_intros <;> intros
  all_goals (first | unfold Qag.j0 | unfold Qag.l0)
  all_goals repeat' with_reducible first | apply aa | apply ac | apply Qac.mono | apply Qa6.mono | exact LeO.refl _ | exact LeO.none _ | apply LeO.ite | refine LeO.bind ?_ fun _ => ?_
theorem Qag.mono : ∀ a0 a1 a2 a3 a4 a5 k, LeO (Qag.f k a0 a1 a2 a3 a4 a5) (Qag.f (k + 1) a0 a1 a2 a3 a4 a5) := by
 intro a0 a1 a2 a3 a4 a5 k;obtain ⟨aa, ac⟩ := Qag.mono_l k;unfold Qag.f;repeat' with_reducible first | apply aa | apply ac | apply Qac.mono | apply Qa6.mono | exact LeO.refl _ | exact LeO.none _ | apply LeO.ite | refine LeO.bind ?_ fun _ => ?_
def Qag.T6 : Bool × List (List Nat × List Nat) := (true, [([], []), ([0], [0]), ([], []), ([2], [2]), ([3], [3]), ([1, 4], [1, 4]), ([5], [5]), ([6, 5], [6]), ([7], [7]), ([8, 7], [7, 8]), ([9, 7, 7], [7, 9]), ([10], [10]), ([11, 10], [10, 11]), ([10], [10]), ([13, 10], [10, 13]), ([12, 14, 10], [10, 12, 14]), ([15, 10], [10, 15]), ([16, 10], [10, 16]), ([10], [10]), ([18, 10], [10, 18]), ([17, 19, 10], [10, 17, 19]), ([10, 20, 7], [7, 10, 20]), ([7, 21], [7, 21]), ([22, 10], [22]), ([23], [23]), ([24, 23], [23, 24]), ([23], [23]), ([26, 23], [23, 26]), ([23], [23]), ([28, 23], [23, 28]), ([25, 27, 29, 23, 23], [23, 25, 27, 29]), ([30, 23], [23, 30]), ([23, 31], [23, 31])])
def Qag.B6 : List Nat := [0, 1, 0, 4, 12, 31, 63, 127, 255, 511, 1023, 2047, 4095, 2047, 10239, 32767, 65535, 131071, 2047, 264191, 1048575, 2097151, 4194303, 8388607, 16777215, 33554431, 16777215, 83886079, 16777215, 285212671, 1073741823, 2147483647, 4294967295]
theorem Qag.tab6 : rtab .any (opsOf Tryz.f74 6) = Qag.T6 := by kernel_rfl
theorem Qag.bits6 : waitsOk Qag.T6.2 Qag.B6 = true := by kernel_rfl
theorem Qag.calls (k : Nat) (aB : Int) (ap : Int) (aN : Option Addr) (aO : Nat) (aD : List (S77)) (aP : Option Addr) (aQ : Nat) (aE : List (S82)) (aR : Option Addr) (aS : Nat) (aF : List (S77)) (bW : Option Addr) (aT : Nat) (ac : List (S100)) (r : Bool) (w : World) (cf : Kd.C k77 w aN aD.length aD) (cg : aD.length ≤ aO) (ch : Kd.C k82 w aP aE.length aE) (ci : aE.length ≤ aQ) (cj : Kd.C k77 w aR aF.length aF) (ck : aF.length ≤ aS) (cl : Kd.C k100 w bW ac.length ac) (cm : ac.length ≤ aT) (h : Qag.f k aB ap aD aE aF ac = some r) :
  Calls Tryz.prog 74 #[.agg #[.int .i64 aB, .int .i64 ap, .slice aN aD.length aO, .slice aP aE.length aQ], .agg #[.slice aR aF.length aS, .slice bW ac.length aT]] w fun e w' => e = .returned (.bool r) ∧ Below w.heap.size w w' := by
 have dZ := Tryz.underlying33;have d0 := Tryz.underlying82;have dn := Tryz.underlying100;have cn := am_ cf;have co := am_ cg;clear cf cg;have cp := am_ ch;have cq := am_ ci;clear ch ci;have cr := am_ cj;have ct := am_ ck;clear cj ck;have aU := am_ cl;have dp := am_ cm;clear cl cm;have HB := am_ (Below.refl w.heap.size w);have H := h;clear h;unfold Qag.f at H;have dk := am_ H;clear H;go_enter Tryz.func74, Tryz.ntmps74;go_upto_region 1 with (first | ((with_reducible refine Sh.d 2 ?_); (try (refine gate_guard (by rfl) ?_; dsimp only)); refine Sh.bz w (N := 2) (cs := #[.int .i64 aB, .int .i64 ap, .slice aN aD.length aO, .slice aP aE.length aQ]) (t := 33) (h := ?_); clear HB; intro ao w4 ae dq HB) | ((with_reducible refine Sh.d 3 ?_); (try (refine gate_guard (by rfl) ?_; dsimp only)); refine Sh.bx (N := 3) (cs := #[.slice aR aF.length aS, .slice bW ac.length aT]) (t := 82) (h := ?_); intro aK hg w5 hbox hb; have af := am_ hbox; have dt := Sh.ag w hg; replace HB := Sh.hb hb; have aW := am_ (Sh.nl hg ae.out); have aX := am_ (Sh.ng hg ae.out); replace ae := Sh.ab ae hb; clear hb hbox hg))
 (try simp only [Act.put, List.setIfInBounds_toArray, List.set_cons_zero, List.set_cons_succ]);go_cut [19] (fun d3 wc => ∃ (kq : Nat) (bl : Bool), d3 = .bool bl ∧ Aside0 (Qag.j0 kq bl aB ap aD aE aF ac = some r) ∧ Aside0 (kq ≤ k) ∧ Aside0 (wc.heap[ao]? = some (.cells #[.int .i64 aB, .int .i64 ap, (.slice aN aD.length aO), (.slice aP aE.length aQ)] 33 (0, 0))) ∧ Aside0 (wc.heap[aK]? = some (.cells #[(.slice aR aF.length aS), (.slice bW ac.length aT)] 82 (0, 0))) ∧ Aside0 (Below w.heap.size w wc))
 case first =>
  have H := dk.out;clear dk;obtain ⟨dl, A6, H⟩ := Sh.ba H;by_cases c7 : dl = true
  ·subst c7
   rw [if_pos rfl] at H;have H' := am_ H;clear H;have d4 := aW.out;have d5 := aX.out;have bX := Sh.bc ae.out 0;have bY := Sh.bc ae.out 1;have bZ := Sh.bc ae.out 2;have b0 := Sh.bc ae.out 3;have b1 := blk_frozen ae.out 0;have b6 := blk_frozen ae.out 1;have b7 := blk_frozen ae.out 2;have b8 := blk_frozen ae.out 3;have bm := Sh.bc af.out 0;have bn := Sh.bc af.out 1;have bo := blk_frozen af.out 0;have bp := blk_frozen af.out 1;go_wp2_with (first | ((with_reducible refine Sh.k 72 ?_); refine Sh.gB (some 10) Tryz.func72 #[.agg #[.int .i64 aB, .int .i64 ap, .slice aN aD.length aO, .slice aP aE.length aQ], .slice aR aF.length aS] (Qa6.calls k aB ap _ _ aD _ _ aE _ _ aF true _ (Sh.cB cn.out) co.out (Sh.cB cp.out) cq.out (Sh.cB cr.out) ct.out A6.out) fun ed hb => ?_; replace ae := Sh.ab ae hb; replace af := Sh.ab af hb; replace HB := Sh.hb hb; (try clear hb); obtain ⟨bq, br, bs, bu⟩ := Sh.b2 af.out; obtain ⟨bv, bA, bB, bC, bD, bE, bF, bG⟩ := Sh.b4 ae.out));go_meet
   case rel => exact ⟨_, (decide ((ac.length : Int) > ap)), (Sh.es), H', ⟨Sh.om⟩, ⟨by refine Sh.pl ?_; exact ae.out⟩, ⟨by refine Sh.pl ?_; exact af.out⟩, ⟨Sh.bw⟩⟩
  ·replace c7 := Bool.eq_false_iff.mpr c7
   subst c7;rw [Sh.nf] at H;have H' := am_ H;clear H;have du := aW.out;have dv := aX.out;have bH := Sh.bc ae.out 0;have bI := Sh.bc ae.out 1;have bJ := Sh.bc ae.out 2;have bK := Sh.bc ae.out 3;have bL := blk_frozen ae.out 0;have bM := blk_frozen ae.out 1;have bN := blk_frozen ae.out 2;have bO := blk_frozen ae.out 3;have bP := Sh.bc af.out 0;have bQ := Sh.bc af.out 1;have bR := blk_frozen af.out 0;have bS := blk_frozen af.out 1;go_wp2_with (first | ((with_reducible refine Sh.k 72 ?_); refine Sh.gB (some 10) Tryz.func72 #[.agg #[.int .i64 aB, .int .i64 ap, .slice aN aD.length aO, .slice aP aE.length aQ], .slice aR aF.length aS] (Qa6.calls k aB ap _ _ aD _ _ aE _ _ aF false _ (Sh.cB cn.out) co.out (Sh.cB cp.out) cq.out (Sh.cB cr.out) ct.out A6.out) fun ee hb => ?_; replace ae := Sh.ab ae hb; replace af := Sh.ab af hb; replace HB := Sh.hb hb; (try clear hb)));go_meet
   case rel => exact ⟨_, (true), (Sh.es), H', ⟨Sh.om⟩, ⟨by refine Sh.pl ?_; exact ae.out⟩, ⟨by refine Sh.pl ?_; exact af.out⟩, ⟨Sh.bw⟩⟩
 case rest =>
  clear dk;try clear bm
  try clear bn
  try clear bq
  try clear br
  try clear bv
  try clear bA
  try clear bB
  try clear bC
  try clear bH
  try clear bI
  try clear bJ
  try clear bK
  try clear bP
  try clear bQ
  try clear bX
  try clear bY
  try clear bZ
  try clear b0
  try clear bo
  try clear bp
  try clear bs
  try clear bu
  try clear bD
  try clear bE
  try clear bF
  try clear bG
  try clear bL
  try clear bM
  try clear bN
  try clear bO
  try clear bR
  try clear bS
  try clear b1
  try clear b6
  try clear b7
  try clear b8
  obtain ⟨kq, bl, rfl, HA, cI, ae, af, HB⟩ := hcut;cases kq with
  | zero => exact absurd HA.out (by simp [Qag.j0])
  | succ dw =>
   have H := HA.out;clear HA;simp only [Qag.j0] at H;by_cases cJ : bl = true
   ·subst cJ
    rw [if_pos rfl] at H;obtain rfl := Option.some.inj H;go_wp2;go_ret;exact ⟨Sh.eR, Sh.bw⟩
   ·replace cJ := Bool.eq_false_iff.mpr cJ
    subst cJ;rw [Sh.nf] at H;have H' := am_ H;clear H;have dx := aX.out;have dy := aW.out;have ca := Sh.bc af.out 0;have cb := Sh.bc af.out 1;have cd := blk_frozen af.out 0;have ce := blk_frozen af.out 1;go_wp2;go_loopg [23] dw (fun kq d6 w' => ∃ (aa : Int), d6 = .int .i64 aa ∧ Aside0 (Qag.l0 kq ac (ac.length : Int) aa aB ap aD aE aF ac = some r) ∧ Aside0 (kq ≤ dw) ∧ Aside0 (w'.heap[ao]? = some (.cells #[.int .i64 aB, .int .i64 ap, (.slice aN aD.length aO), (.slice aP aE.length aQ)] 33 (0, 0))) ∧ Aside0 (w'.heap[aK]? = some (.cells #[(.slice aR aF.length aS), (.slice bW ac.length aT)] 82 (0, 0))) ∧ Aside0 (Below w.heap.size w w'))
    case atStart => exact ⟨(0), (Sh.es), H', ⟨Nat.le_refl _⟩, ⟨by refine Sh.pl ?_; exact ae.out⟩, ⟨by refine Sh.pl ?_; exact af.out⟩, ⟨Sh.bw⟩⟩
    case round =>
     clear H';try clear bm
     try clear bn
     try clear bq
     try clear br
     try clear bv
     try clear bA
     try clear bB
     try clear bC
     try clear bH
     try clear bI
     try clear bJ
     try clear bK
     try clear bP
     try clear bQ
     try clear ca
     try clear cb
     try clear bX
     try clear bY
     try clear bZ
     try clear b0
     try clear bo
     try clear bp
     try clear bs
     try clear bu
     try clear bD
     try clear bE
     try clear bF
     try clear bG
     try clear bL
     try clear bM
     try clear bN
     try clear bO
     try clear bR
     try clear bS
     try clear cd
     try clear ce
     try clear b1
     try clear b6
     try clear b7
     try clear b8
     obtain ⟨aa, rfl, HA, cK, ae, af, HB⟩ := hrel;cases gk with
     | zero => exact absurd HA.out (by simp [Qag.l0])
     | succ k2 =>
      have H := HA.out;clear HA;simp only [Qag.l0] at H;by_cases cy : aa < (ac.length : Int)
      ·rw [if_pos cy] at H
       replace cy := decide_eq_true cy;by_cases cL : 0 ≤ aa
       ·rw [if_pos cL] at H
        replace cL := decide_eq_true cL;by_cases cM : aa < (ac.length : Int)
        ·rw [if_pos cM] at H
         replace cM := decide_eq_true cM;obtain ⟨dm, cu, H⟩ := Sh.ba H;by_cases cN : dm = true
         ·subst cN
          rw [if_pos rfl] at H;by_cases cz : aa > 0
          ·rw [if_pos cz] at H
           have c26b0 : decide (0 < aa) = true := decide_eq_true cz;clear cz;obtain ⟨aC, hj1⟩ : ∃ j_ : Int, (wrap64 (aa - 1)) = j_ := ⟨_, rfl⟩;replace H : (if 0 ≤ (aC) then (if (aC) < (ac.length : Int) then (if ((rd_T100 ac (aC)).f0) ≥ ((rd_T100 ac aa).f0) then (some false) else ((Qac.f k2 aB ap ((rd_T100 ac aa).f1)).bind fun bh => (if bh = 1 then (Qag.l0 k2 ac (ac.length : Int) (wrap64 (aa + 1)) aB ap aD aE aF ac) else (some false)))) else (none)) else (none)) = some r := by first | (rw [hj1] at H; exact H) | (simp only [hj1] at H ⊢; exact H)
           (try rw [hj1] at cu);have hji27w : (IntKind.i64.wrap (aa - 1)) = aC := (i64_w _).trans hj1;by_cases cO : 0 ≤ (aC)
           ·rw [if_pos cO] at H
            replace cO := decide_eq_true cO;by_cases cP : (aC) < (ac.length : Int)
            ·rw [if_pos cP] at H
             replace cP := decide_eq_true cP;by_cases cA : ((rd_T100 ac (aC)).f0) ≥ ((rd_T100 ac aa).f0)
             ·rw [if_pos cA] at H
              have c30b0 : decide (((rd_T100 ac aa).f0) ≤ ((rd_T100 ac (aC)).f0)) = true := decide_eq_true cA;clear cA;obtain rfl := Option.some.inj H;have aI : 0 ≤ (aa : Int) := Sh.od;have aJ : aa < (ac.length : Int) := Sh.od;obtain ⟨ay, ai, aj, aY, aq, ar, au, av⟩ := at_T100 aU.out aa aI aJ;cases aY;try replace aq := Sh.cw aq
              try replace ar := Sh.cw ar
              have aG := am_ av;have aH := am_ au;clear av au;replace aI := eq_true aI;replace aJ := eq_true aJ;try go_wp2_with (first | ((with_reducible refine Sh.d 6 ?_); (try (refine gate_guard (by rfl) ?_; dsimp only)); refine Sh.bx (N := 6) (cs := #[.int .i64 0, .slice none 0 0]) (t := 100) (h := ?_); intro ah hg cC hbox hb; have ak := am_ hbox; have bi := Sh.ag w hg; replace HB := Sh.hb hb; have al := am_ (Sh.nl hg ae.out); have aw := am_ (Sh.ng hg ae.out); replace ae := Sh.ab ae hb; have am := am_ (Sh.nl hg af.out); have ax := am_ (Sh.ng hg af.out); replace af := Sh.ab af hb; clear hb hbox hg; have dz := aw.out; have dA := al.out; have dB := ax.out; have dC := am.out; obtain ⟨cQ, cS, cT, cU⟩ := Sh.b2 ak.out))
              have aZ : Aside0 (((cC.setCell ⟨ah, 0, none⟩ (.int .i64 ((rd_T100 ac aa).f0))).setCell ⟨ah, 1, none⟩ (.slice ai ((rd_T100 ac aa).f1).length aj)).heap[ao]? = some (.cells #[.int .i64 aB, .int .i64 ap, .slice aN aD.length aO, .slice aP aE.length aQ] 33 (0, 0))) := ⟨by refine Sh.pl ?_; refine blk_far ?_ al.out _; refine Sh.pl ?_; refine blk_far ?_ al.out _; refine Sh.pl ?_; exact ae.out⟩;have a1 : Aside0 (((cC.setCell ⟨ah, 0, none⟩ (.int .i64 ((rd_T100 ac aa).f0))).setCell ⟨ah, 1, none⟩ (.slice ai ((rd_T100 ac aa).f1).length aj)).heap[aK]? = some (.cells #[.slice aR aF.length aS, .slice (some ay) ac.length aT] 82 (0, 0))) := ⟨by refine Sh.pl ?_; refine blk_far ?_ am.out _; refine Sh.pl ?_; refine blk_far ?_ am.out _; refine Sh.pl ?_; exact af.out⟩;have a2 : Aside0 (((cC.setCell ⟨ah, 0, none⟩ (.int .i64 ((rd_T100 ac aa).f0))).setCell ⟨ah, 1, none⟩ (.slice ai ((rd_T100 ac aa).f1).length aj)).heap[ah]? = some (.cells #[.int .i64 ((rd_T100 ac aa).f0), .slice ai ((rd_T100 ac aa).f1).length aj] 100 (0, 0))) := ⟨by refine Sh.pl ?_; refine blk_put (cs := #[.int .i64 ((rd_T100 ac aa).f0), .slice none 0 0]) ?_ 1 _ rfl; refine Sh.pl ?_; refine blk_put (cs := #[.int .i64 0, .slice none 0 0]) ?_ 0 _ rfl; refine Sh.pl ?_; exact ak.out⟩;have a6 : Aside0 (Below w.heap.size w ((cC.setCell ⟨ah, 0, none⟩ (.int .i64 ((rd_T100 ac aa).f0))).setCell ⟨ah, 1, none⟩ (.slice ai ((rd_T100 ac aa).f1).length aj))) := ⟨Sh.bw⟩;(try clear ae);(try clear af);(try clear ak);(try clear HB);generalize ((cC.setCell ⟨ah, 0, none⟩ (.int .i64 ((rd_T100 ac aa).f0))).setCell ⟨ah, 1, none⟩ (.slice ai ((rd_T100 ac aa).f1).length aj)) = d7 at aZ a1 a2 a6 ⊢;have ae := aZ;have af := a1;have ak := a2;have HB := a6;clear aZ a1 a2 a6;replace ae := am_ (blk_drew ae.out);replace af := am_ (blk_drew af.out);replace ak := am_ (blk_drew ak.out);replace HB := am_ (below_drew1 HB.out);have a7 : 0 ≤ ((aC) : Int) := Sh.od;have a8 : (aC) < (ac.length : Int) := Sh.od;obtain ⟨bj, bf, bg, b9, az, aA, aL, aM⟩ := at_T100 aU.out (aC) a7 a8;have bT := aA;have bU := az;obtain rfl : ay = bj := (by injection b9);try replace az := Sh.cw az
              try replace aA := Sh.cw aA
              have aV := am_ aM;have bV := am_ aL;clear aM aL;replace a7 := eq_true a7;replace a8 := eq_true a8;refine start_ (n := 33) (S := fun w' => w'.cell? ⟨ah, 0, none⟩ = some (.int .i64 ((rd_T100 ac aa).f0)) ∧ w'.cell? ⟨ah, 1, none⟩ = some (.slice ai ((rd_T100 ac aa).f1).length aj) ∧ w'.cell? ⟨ao, 0, none⟩ = some (.int .i64 aB) ∧ w'.cell? ⟨ao, 1, none⟩ = some (.int .i64 ap) ∧ w'.cell? ⟨ao, 2, none⟩ = some (.slice aN aD.length aO) ∧ w'.cell? ⟨ao, 3, none⟩ = some (.slice aP aE.length aQ) ∧ w'.cell? ⟨aK, 0, none⟩ = some (.slice aR aF.length aS) ∧ w'.cell? ⟨aK, 1, none⟩ = some (.slice (some ay) ac.length aT) ∧ w'.cell? (ay.add (((aC)).toNat * 2)) = some (.int .i64 ((rd_T100 ac (aC)).f0)) ∧ w'.cell? ⟨(ay.add (((aC)).toNat * 2)).block, (ay.add (((aC)).toNat * 2)).off + 1, none⟩ = some (.slice bf ((rd_T100 ac (aC)).f1).length bg)) (ds := []) (Sh.nm 33 0) (by kernel_rfl) rfl rfl Sh.cs (fun hHeld => ?_); refine with_tabW Qag.tab6 Qag.bits6 (fun HT_ HW_ => ?_);generalize d7.drew = ef at ae af ak HB aV az aA hHeld ⊢;refine Sh.qA 0 ?_; refine Sh.qA 2 ?_; refine Sh.qT 1 hHeld ?_; refine Sh.qT 3 hHeld ?_; refine Sh.qA 4 ?_;refine Sh.oC 5 Tryz.func73 #[.int .i64 ((rd_T100 ac aa).f0), .int .i64 0, .int .i64 (wrap64 (ap - 1))] fun K hK => ?_;with_reducible refine (QaH.calls ((rd_T100 ac aa).f0) 0 (wrap64 (ap - 1)) true _ cu.out).mono ?_
              rintro e w' ⟨rfl, ⟨nd, rfl⟩⟩;refine ⟨_, rfl, ?_⟩;refine Sh.kN hK Sh.cs fun hHeld => ?_;clear hK K;refine Sh.qA 6 ?_; refine Sh.qA 7 ?_; refine Sh.qA 8 ?_; refine Sh.qA 9 ?_; refine Sh.qA 10 ?_; refine Sh.qA 11 ?_; refine Sh.qA 13 ?_; refine Sh.qA 14 ?_; refine Sh.qA 18 ?_; refine Sh.qT 12 hHeld ?_; refine Sh.qA 15 ?_; refine Sh.qA 16 ?_; refine Sh.qT 17 hHeld ?_; refine Sh.qT 19 hHeld ?_; refine Sh.qA 20 ?_; refine Sh.qA 21 ?_; refine Sh.qA 22 ?_; refine Sh.qA 23 ?_; refine Sh.qU 24 ?_; refine Sh.qU 25 ?_; refine Sh.qU 26 ?_; refine Sh.qU 27 ?_; refine Sh.qU 28 ?_; refine Sh.qU 29 ?_; refine Sh.qU 30 ?_; refine Sh.qU 31 ?_; refine Sh.qA 32 ?_;refine done_ (done_of HT_.out (by kernel_rfl)) ?_;try go_wp2
              go_ret;exact ⟨by first | rfl | (simp [errW_none, errW_some] <;> rfl) | (simp only [← hj1]; first | rfl | (simp [errW_none, errW_some] <;> rfl)) | (simp [*, errW_none, errW_some] <;> rfl), Sh.bw⟩
             ·rw [if_neg cA] at H
              have c30b0 : decide (((rd_T100 ac aa).f0) ≤ ((rd_T100 ac (aC)).f0)) = false := decide_eq_false cA;clear cA;obtain ⟨bh, dD, H⟩ := Sh.ba H;by_cases cv : bh = 1
              ·rw [if_pos cv] at H
               have c38b0 : (bh == 1) = true := beq_iff_eq.mpr cv;have c38b1 : (bh != 1) = false := bne_eq_false_iff_eq.mpr cv;clear cv;have H' := am_ H;clear H;have aI : 0 ≤ (aa : Int) := Sh.od;have aJ : aa < (ac.length : Int) := Sh.od;obtain ⟨ay, ai, aj, aY, aq, ar, au, av⟩ := at_T100 aU.out aa aI aJ;cases aY;try replace aq := Sh.cw aq
               try replace ar := Sh.cw ar
               have aG := am_ av;have aH := am_ au;clear av au;replace aI := eq_true aI;replace aJ := eq_true aJ;try go_wp2_with (first | ((with_reducible refine Sh.d 6 ?_); (try (refine gate_guard (by rfl) ?_; dsimp only)); refine Sh.bx (N := 6) (cs := #[.int .i64 0, .slice none 0 0]) (t := 100) (h := ?_); intro ah hg cD hbox hb; have ak := am_ hbox; have bi := Sh.ag w hg; replace HB := Sh.hb hb; have al := am_ (Sh.nl hg ae.out); have aw := am_ (Sh.ng hg ae.out); replace ae := Sh.ab ae hb; have am := am_ (Sh.nl hg af.out); have ax := am_ (Sh.ng hg af.out); replace af := Sh.ab af hb; clear hb hbox hg; have dE := aw.out; have dF := al.out; have dG := ax.out; have dH := am.out; obtain ⟨cV, cW, cX, cY⟩ := Sh.b2 ak.out))
               have aZ : Aside0 (((cD.setCell ⟨ah, 0, none⟩ (.int .i64 ((rd_T100 ac aa).f0))).setCell ⟨ah, 1, none⟩ (.slice ai ((rd_T100 ac aa).f1).length aj)).heap[ao]? = some (.cells #[.int .i64 aB, .int .i64 ap, .slice aN aD.length aO, .slice aP aE.length aQ] 33 (0, 0))) := ⟨by refine Sh.pl ?_; refine blk_far ?_ al.out _; refine Sh.pl ?_; refine blk_far ?_ al.out _; refine Sh.pl ?_; exact ae.out⟩;have a1 : Aside0 (((cD.setCell ⟨ah, 0, none⟩ (.int .i64 ((rd_T100 ac aa).f0))).setCell ⟨ah, 1, none⟩ (.slice ai ((rd_T100 ac aa).f1).length aj)).heap[aK]? = some (.cells #[.slice aR aF.length aS, .slice (some ay) ac.length aT] 82 (0, 0))) := ⟨by refine Sh.pl ?_; refine blk_far ?_ am.out _; refine Sh.pl ?_; refine blk_far ?_ am.out _; refine Sh.pl ?_; exact af.out⟩;have a2 : Aside0 (((cD.setCell ⟨ah, 0, none⟩ (.int .i64 ((rd_T100 ac aa).f0))).setCell ⟨ah, 1, none⟩ (.slice ai ((rd_T100 ac aa).f1).length aj)).heap[ah]? = some (.cells #[.int .i64 ((rd_T100 ac aa).f0), .slice ai ((rd_T100 ac aa).f1).length aj] 100 (0, 0))) := ⟨by refine Sh.pl ?_; refine blk_put (cs := #[.int .i64 ((rd_T100 ac aa).f0), .slice none 0 0]) ?_ 1 _ rfl; refine Sh.pl ?_; refine blk_put (cs := #[.int .i64 0, .slice none 0 0]) ?_ 0 _ rfl; refine Sh.pl ?_; exact ak.out⟩;have a6 : Aside0 (Below w.heap.size w ((cD.setCell ⟨ah, 0, none⟩ (.int .i64 ((rd_T100 ac aa).f0))).setCell ⟨ah, 1, none⟩ (.slice ai ((rd_T100 ac aa).f1).length aj))) := ⟨Sh.bw⟩;(try clear ae);(try clear af);(try clear ak);(try clear HB);generalize ((cD.setCell ⟨ah, 0, none⟩ (.int .i64 ((rd_T100 ac aa).f0))).setCell ⟨ah, 1, none⟩ (.slice ai ((rd_T100 ac aa).f1).length aj)) = d8 at aZ a1 a2 a6 ⊢;have ae := aZ;have af := a1;have ak := a2;have HB := a6;clear aZ a1 a2 a6;replace ae := am_ (blk_drew ae.out);replace af := am_ (blk_drew af.out);replace ak := am_ (blk_drew ak.out);replace HB := am_ (below_drew1 HB.out);have a7 : 0 ≤ ((aC) : Int) := Sh.od;have a8 : (aC) < (ac.length : Int) := Sh.od;obtain ⟨bj, bf, bg, b9, az, aA, aL, aM⟩ := at_T100 aU.out (aC) a7 a8;have bT := aA;have bU := az;obtain rfl : ay = bj := (by injection b9);try replace az := Sh.cw az
               try replace aA := Sh.cw aA
               have aV := am_ aM;have bV := am_ aL;clear aM aL;replace a7 := eq_true a7;replace a8 := eq_true a8;refine start_ (n := 33) (S := fun w' => w'.cell? ⟨ah, 0, none⟩ = some (.int .i64 ((rd_T100 ac aa).f0)) ∧ w'.cell? ⟨ah, 1, none⟩ = some (.slice ai ((rd_T100 ac aa).f1).length aj) ∧ w'.cell? ⟨ao, 0, none⟩ = some (.int .i64 aB) ∧ w'.cell? ⟨ao, 1, none⟩ = some (.int .i64 ap) ∧ w'.cell? ⟨ao, 2, none⟩ = some (.slice aN aD.length aO) ∧ w'.cell? ⟨ao, 3, none⟩ = some (.slice aP aE.length aQ) ∧ w'.cell? ⟨aK, 0, none⟩ = some (.slice aR aF.length aS) ∧ w'.cell? ⟨aK, 1, none⟩ = some (.slice (some ay) ac.length aT) ∧ w'.cell? (ay.add (((aC)).toNat * 2)) = some (.int .i64 ((rd_T100 ac (aC)).f0)) ∧ w'.cell? ⟨(ay.add (((aC)).toNat * 2)).block, (ay.add (((aC)).toNat * 2)).off + 1, none⟩ = some (.slice bf ((rd_T100 ac (aC)).f1).length bg)) (ds := []) (Sh.nm 33 0) (by kernel_rfl) rfl rfl Sh.cs (fun hHeld => ?_); refine with_tabW Qag.tab6 Qag.bits6 (fun HT_ HW_ => ?_);generalize d8.drew = eg at ae af ak HB aV az aA hHeld ⊢;refine Sh.qA 0 ?_; refine Sh.qA 2 ?_; refine Sh.qT 1 hHeld ?_; refine Sh.qT 3 hHeld ?_; refine Sh.qA 4 ?_;refine Sh.oC 5 Tryz.func73 #[.int .i64 ((rd_T100 ac aa).f0), .int .i64 0, .int .i64 (wrap64 (ap - 1))] fun K hK => ?_;with_reducible refine (QaH.calls ((rd_T100 ac aa).f0) 0 (wrap64 (ap - 1)) true _ cu.out).mono ?_
               rintro e w' ⟨rfl, ⟨nd, rfl⟩⟩;refine ⟨_, rfl, ?_⟩;refine Sh.kN hK Sh.cs fun hHeld => ?_;clear hK K;refine Sh.qA 6 ?_; refine Sh.qA 7 ?_; refine Sh.qA 8 ?_; refine Sh.qA 9 ?_; refine Sh.qA 10 ?_; refine Sh.qA 11 ?_; refine Sh.qA 13 ?_; refine Sh.qA 14 ?_; refine Sh.qA 18 ?_; refine Sh.qT 12 hHeld ?_; refine Sh.qA 15 ?_; refine Sh.qA 16 ?_; refine Sh.qT 17 hHeld ?_; refine Sh.qT 19 hHeld ?_; refine Sh.qA 20 ?_; refine Sh.qA 21 ?_; refine Sh.qA 22 ?_; refine Sh.qA 23 ?_; refine Sh.qA 24 ?_; refine Sh.qA 26 ?_; refine Sh.qA 28 ?_; refine Sh.qT 25 hHeld ?_; refine Sh.qT 27 hHeld ?_; refine Sh.qT 29 hHeld ?_;refine Sh.oC 30 Tryz.func92 #[.int .i64 aB, .int .i64 ap, .slice ai ((rd_T100 ac aa).f1).length aj] fun K hK => ?_;with_reducible refine (Qac.calls k2 aB ap _ _ ((rd_T100 ac aa).f1) bh _ (Sh.cB aG.out) aH.out dD.out).mono ?_
               rintro e eh ⟨rfl, hb⟩;refine ⟨_, rfl, ?_⟩;replace ae := Sh.ab ae hb;replace af := Sh.ab af hb;replace ak := Sh.ab ak hb;replace HB := Sh.hb hb;(try clear hb);refine Sh.kN hK Sh.cs fun hHeld => ?_;clear hK K;refine Sh.qA 31 ?_; refine Sh.qA 32 ?_;refine done_ (done_of HT_.out (by kernel_rfl)) ?_;try go_wp2
               go_roundg k2
               case measure => have := cI.out; have := cK.out; omega
               case rel => exact ⟨(wrap64 (aa + 1)), (Sh.es), H', ⟨by have := cI.out; have := cK.out; omega⟩, ⟨by refine Sh.pl ?_; exact ae.out⟩, ⟨by refine Sh.pl ?_; exact af.out⟩, ⟨Sh.bw⟩⟩
              ·rw [if_neg cv] at H
               have c38b0 : (bh == 1) = false := beq_eq_false_iff_ne.mpr cv;have c38b1 : (bh != 1) = true := bne_iff_ne.mpr cv;obtain rfl := Option.some.inj H;have aI : 0 ≤ (aa : Int) := Sh.od;have aJ : aa < (ac.length : Int) := Sh.od;obtain ⟨ay, ai, aj, aY, aq, ar, au, av⟩ := at_T100 aU.out aa aI aJ;cases aY;try replace aq := Sh.cw aq
               try replace ar := Sh.cw ar
               have aG := am_ av;have aH := am_ au;clear av au;replace aI := eq_true aI;replace aJ := eq_true aJ;try go_wp2_with (first | ((with_reducible refine Sh.d 6 ?_); (try (refine gate_guard (by rfl) ?_; dsimp only)); refine Sh.bx (N := 6) (cs := #[.int .i64 0, .slice none 0 0]) (t := 100) (h := ?_); intro ah hg cE hbox hb; have ak := am_ hbox; have bi := Sh.ag w hg; replace HB := Sh.hb hb; have al := am_ (Sh.nl hg ae.out); have aw := am_ (Sh.ng hg ae.out); replace ae := Sh.ab ae hb; have am := am_ (Sh.nl hg af.out); have ax := am_ (Sh.ng hg af.out); replace af := Sh.ab af hb; clear hb hbox hg; have dI := aw.out; have dJ := al.out; have dK := ax.out; have dL := am.out; obtain ⟨cZ, c4, c5, c6⟩ := Sh.b2 ak.out))
               have aZ : Aside0 (((cE.setCell ⟨ah, 0, none⟩ (.int .i64 ((rd_T100 ac aa).f0))).setCell ⟨ah, 1, none⟩ (.slice ai ((rd_T100 ac aa).f1).length aj)).heap[ao]? = some (.cells #[.int .i64 aB, .int .i64 ap, .slice aN aD.length aO, .slice aP aE.length aQ] 33 (0, 0))) := ⟨by refine Sh.pl ?_; refine blk_far ?_ al.out _; refine Sh.pl ?_; refine blk_far ?_ al.out _; refine Sh.pl ?_; exact ae.out⟩;have a1 : Aside0 (((cE.setCell ⟨ah, 0, none⟩ (.int .i64 ((rd_T100 ac aa).f0))).setCell ⟨ah, 1, none⟩ (.slice ai ((rd_T100 ac aa).f1).length aj)).heap[aK]? = some (.cells #[.slice aR aF.length aS, .slice (some ay) ac.length aT] 82 (0, 0))) := ⟨by refine Sh.pl ?_; refine blk_far ?_ am.out _; refine Sh.pl ?_; refine blk_far ?_ am.out _; refine Sh.pl ?_; exact af.out⟩;have a2 : Aside0 (((cE.setCell ⟨ah, 0, none⟩ (.int .i64 ((rd_T100 ac aa).f0))).setCell ⟨ah, 1, none⟩ (.slice ai ((rd_T100 ac aa).f1).length aj)).heap[ah]? = some (.cells #[.int .i64 ((rd_T100 ac aa).f0), .slice ai ((rd_T100 ac aa).f1).length aj] 100 (0, 0))) := ⟨by refine Sh.pl ?_; refine blk_put (cs := #[.int .i64 ((rd_T100 ac aa).f0), .slice none 0 0]) ?_ 1 _ rfl; refine Sh.pl ?_; refine blk_put (cs := #[.int .i64 0, .slice none 0 0]) ?_ 0 _ rfl; refine Sh.pl ?_; exact ak.out⟩;have a6 : Aside0 (Below w.heap.size w ((cE.setCell ⟨ah, 0, none⟩ (.int .i64 ((rd_T100 ac aa).f0))).setCell ⟨ah, 1, none⟩ (.slice ai ((rd_T100 ac aa).f1).length aj))) := ⟨Sh.bw⟩;(try clear ae);(try clear af);(try clear ak);(try clear HB);generalize ((cE.setCell ⟨ah, 0, none⟩ (.int .i64 ((rd_T100 ac aa).f0))).setCell ⟨ah, 1, none⟩ (.slice ai ((rd_T100 ac aa).f1).length aj)) = d9 at aZ a1 a2 a6 ⊢;have ae := aZ;have af := a1;have ak := a2;have HB := a6;clear aZ a1 a2 a6;replace ae := am_ (blk_drew ae.out);replace af := am_ (blk_drew af.out);replace ak := am_ (blk_drew ak.out);replace HB := am_ (below_drew1 HB.out);have a7 : 0 ≤ ((aC) : Int) := Sh.od;have a8 : (aC) < (ac.length : Int) := Sh.od;obtain ⟨bj, bf, bg, b9, az, aA, aL, aM⟩ := at_T100 aU.out (aC) a7 a8;have bT := aA;have bU := az;obtain rfl : ay = bj := (by injection b9);try replace az := Sh.cw az
               try replace aA := Sh.cw aA
               have aV := am_ aM;have bV := am_ aL;clear aM aL;replace a7 := eq_true a7;replace a8 := eq_true a8;refine start_ (n := 33) (S := fun w' => w'.cell? ⟨ah, 0, none⟩ = some (.int .i64 ((rd_T100 ac aa).f0)) ∧ w'.cell? ⟨ah, 1, none⟩ = some (.slice ai ((rd_T100 ac aa).f1).length aj) ∧ w'.cell? ⟨ao, 0, none⟩ = some (.int .i64 aB) ∧ w'.cell? ⟨ao, 1, none⟩ = some (.int .i64 ap) ∧ w'.cell? ⟨ao, 2, none⟩ = some (.slice aN aD.length aO) ∧ w'.cell? ⟨ao, 3, none⟩ = some (.slice aP aE.length aQ) ∧ w'.cell? ⟨aK, 0, none⟩ = some (.slice aR aF.length aS) ∧ w'.cell? ⟨aK, 1, none⟩ = some (.slice (some ay) ac.length aT) ∧ w'.cell? (ay.add (((aC)).toNat * 2)) = some (.int .i64 ((rd_T100 ac (aC)).f0)) ∧ w'.cell? ⟨(ay.add (((aC)).toNat * 2)).block, (ay.add (((aC)).toNat * 2)).off + 1, none⟩ = some (.slice bf ((rd_T100 ac (aC)).f1).length bg)) (ds := []) (Sh.nm 33 0) (by kernel_rfl) rfl rfl Sh.cs (fun hHeld => ?_); refine with_tabW Qag.tab6 Qag.bits6 (fun HT_ HW_ => ?_);generalize d9.drew = ei at ae af ak HB aV az aA hHeld ⊢;refine Sh.qA 0 ?_; refine Sh.qA 2 ?_; refine Sh.qT 1 hHeld ?_; refine Sh.qT 3 hHeld ?_; refine Sh.qA 4 ?_;refine Sh.oC 5 Tryz.func73 #[.int .i64 ((rd_T100 ac aa).f0), .int .i64 0, .int .i64 (wrap64 (ap - 1))] fun K hK => ?_;with_reducible refine (QaH.calls ((rd_T100 ac aa).f0) 0 (wrap64 (ap - 1)) true _ cu.out).mono ?_
               rintro e w' ⟨rfl, ⟨nd, rfl⟩⟩;refine ⟨_, rfl, ?_⟩;refine Sh.kN hK Sh.cs fun hHeld => ?_;clear hK K;refine Sh.qA 6 ?_; refine Sh.qA 7 ?_; refine Sh.qA 8 ?_; refine Sh.qA 9 ?_; refine Sh.qA 10 ?_; refine Sh.qA 11 ?_; refine Sh.qA 13 ?_; refine Sh.qA 14 ?_; refine Sh.qA 18 ?_; refine Sh.qT 12 hHeld ?_; refine Sh.qA 15 ?_; refine Sh.qA 16 ?_; refine Sh.qT 17 hHeld ?_; refine Sh.qT 19 hHeld ?_; refine Sh.qA 20 ?_; refine Sh.qA 21 ?_; refine Sh.qA 22 ?_; refine Sh.qA 23 ?_; refine Sh.qA 24 ?_; refine Sh.qA 26 ?_; refine Sh.qA 28 ?_; refine Sh.qT 25 hHeld ?_; refine Sh.qT 27 hHeld ?_; refine Sh.qT 29 hHeld ?_;refine Sh.oC 30 Tryz.func92 #[.int .i64 aB, .int .i64 ap, .slice ai ((rd_T100 ac aa).f1).length aj] fun K hK => ?_;with_reducible refine (Qac.calls k2 aB ap _ _ ((rd_T100 ac aa).f1) bh _ (Sh.cB aG.out) aH.out dD.out).mono ?_
               rintro e ej ⟨rfl, hb⟩;refine ⟨_, rfl, ?_⟩;replace ae := Sh.ab ae hb;replace af := Sh.ab af hb;replace ak := Sh.ab ak hb;replace HB := Sh.hb hb;(try clear hb);refine Sh.kN hK Sh.cs fun hHeld => ?_;clear hK K;refine Sh.qA 31 ?_; refine Sh.qA 32 ?_;refine done_ (done_of HT_.out (by kernel_rfl)) ?_;try go_wp2
               go_ret;exact ⟨by first | rfl | (simp [errW_none, errW_some] <;> rfl) | (simp only [← hj1]; first | rfl | (simp [errW_none, errW_some] <;> rfl)) | (simp [*, errW_none, errW_some] <;> rfl), Sh.bw⟩
            ·rw [if_neg cP] at H
             cases H
           ·rw [if_neg cO] at H
            cases H
          ·rw [if_neg cz] at H
           have c26b0 : decide (0 < aa) = false := decide_eq_false cz;clear cz;obtain ⟨bk, dM, H⟩ := Sh.ba H;by_cases cx : bk = 1
           ·rw [if_pos cx] at H
            have c54b0 : (bk == 1) = true := beq_iff_eq.mpr cx;have c54b1 : (bk != 1) = false := bne_eq_false_iff_eq.mpr cx;clear cx;have H' := am_ H;clear H;have aI : 0 ≤ (aa : Int) := Sh.od;have aJ : aa < (ac.length : Int) := Sh.od;obtain ⟨ay, ai, aj, aY, aq, ar, au, av⟩ := at_T100 aU.out aa aI aJ;cases aY;try replace aq := Sh.cw aq
            try replace ar := Sh.cw ar
            have aG := am_ av;have aH := am_ au;clear av au;replace aI := eq_true aI;replace aJ := eq_true aJ;try go_wp2_with (first | ((with_reducible refine Sh.d 6 ?_); (try (refine gate_guard (by rfl) ?_; dsimp only)); refine Sh.bx (N := 6) (cs := #[.int .i64 0, .slice none 0 0]) (t := 100) (h := ?_); intro ah hg cF hbox hb; have ak := am_ hbox; have bi := Sh.ag w hg; replace HB := Sh.hb hb; have al := am_ (Sh.nl hg ae.out); have aw := am_ (Sh.ng hg ae.out); replace ae := Sh.ab ae hb; have am := am_ (Sh.nl hg af.out); have ax := am_ (Sh.ng hg af.out); replace af := Sh.ab af hb; clear hb hbox hg; have dN := aw.out; have dO := al.out; have dP := ax.out; have dQ := am.out; obtain ⟨c8, c9, da, db⟩ := Sh.b2 ak.out))
            have aZ : Aside0 (((cF.setCell ⟨ah, 0, none⟩ (.int .i64 ((rd_T100 ac aa).f0))).setCell ⟨ah, 1, none⟩ (.slice ai ((rd_T100 ac aa).f1).length aj)).heap[ao]? = some (.cells #[.int .i64 aB, .int .i64 ap, .slice aN aD.length aO, .slice aP aE.length aQ] 33 (0, 0))) := ⟨by refine Sh.pl ?_; refine blk_far ?_ al.out _; refine Sh.pl ?_; refine blk_far ?_ al.out _; refine Sh.pl ?_; exact ae.out⟩;have a1 : Aside0 (((cF.setCell ⟨ah, 0, none⟩ (.int .i64 ((rd_T100 ac aa).f0))).setCell ⟨ah, 1, none⟩ (.slice ai ((rd_T100 ac aa).f1).length aj)).heap[aK]? = some (.cells #[.slice aR aF.length aS, .slice (some ay) ac.length aT] 82 (0, 0))) := ⟨by refine Sh.pl ?_; refine blk_far ?_ am.out _; refine Sh.pl ?_; refine blk_far ?_ am.out _; refine Sh.pl ?_; exact af.out⟩;have a2 : Aside0 (((cF.setCell ⟨ah, 0, none⟩ (.int .i64 ((rd_T100 ac aa).f0))).setCell ⟨ah, 1, none⟩ (.slice ai ((rd_T100 ac aa).f1).length aj)).heap[ah]? = some (.cells #[.int .i64 ((rd_T100 ac aa).f0), .slice ai ((rd_T100 ac aa).f1).length aj] 100 (0, 0))) := ⟨by refine Sh.pl ?_; refine blk_put (cs := #[.int .i64 ((rd_T100 ac aa).f0), .slice none 0 0]) ?_ 1 _ rfl; refine Sh.pl ?_; refine blk_put (cs := #[.int .i64 0, .slice none 0 0]) ?_ 0 _ rfl; refine Sh.pl ?_; exact ak.out⟩;have a6 : Aside0 (Below w.heap.size w ((cF.setCell ⟨ah, 0, none⟩ (.int .i64 ((rd_T100 ac aa).f0))).setCell ⟨ah, 1, none⟩ (.slice ai ((rd_T100 ac aa).f1).length aj))) := ⟨Sh.bw⟩;(try clear ae);(try clear af);(try clear ak);(try clear HB);generalize ((cF.setCell ⟨ah, 0, none⟩ (.int .i64 ((rd_T100 ac aa).f0))).setCell ⟨ah, 1, none⟩ (.slice ai ((rd_T100 ac aa).f1).length aj)) = ea at aZ a1 a2 a6 ⊢;have ae := aZ;have af := a1;have ak := a2;have HB := a6;clear aZ a1 a2 a6;replace ae := am_ (blk_drew ae.out);replace af := am_ (blk_drew af.out);replace ak := am_ (blk_drew ak.out);replace HB := am_ (below_drew1 HB.out);refine start_ (n := 33) (S := fun w' => w'.cell? ⟨ah, 0, none⟩ = some (.int .i64 ((rd_T100 ac aa).f0)) ∧ w'.cell? ⟨ah, 1, none⟩ = some (.slice ai ((rd_T100 ac aa).f1).length aj) ∧ w'.cell? ⟨ao, 0, none⟩ = some (.int .i64 aB) ∧ w'.cell? ⟨ao, 1, none⟩ = some (.int .i64 ap) ∧ w'.cell? ⟨ao, 2, none⟩ = some (.slice aN aD.length aO) ∧ w'.cell? ⟨ao, 3, none⟩ = some (.slice aP aE.length aQ)) (ds := []) (Sh.nm 33 0) (by kernel_rfl) rfl rfl Sh.cs (fun hHeld => ?_); refine with_tabW Qag.tab6 Qag.bits6 (fun HT_ HW_ => ?_);generalize ea.drew = ek at ae af ak HB hHeld ⊢;refine Sh.qA 0 ?_; refine Sh.qA 2 ?_; refine Sh.qT 1 hHeld ?_; refine Sh.qT 3 hHeld ?_; refine Sh.qA 4 ?_;refine Sh.oC 5 Tryz.func73 #[.int .i64 ((rd_T100 ac aa).f0), .int .i64 0, .int .i64 (wrap64 (ap - 1))] fun K hK => ?_;with_reducible refine (QaH.calls ((rd_T100 ac aa).f0) 0 (wrap64 (ap - 1)) true _ cu.out).mono ?_
            rintro e w' ⟨rfl, ⟨nd, rfl⟩⟩;refine ⟨_, rfl, ?_⟩;refine Sh.kN hK Sh.cs fun hHeld => ?_;clear hK K;refine Sh.qA 6 ?_; refine Sh.qA 7 ?_; refine Sh.qA 8 ?_; refine Sh.qA 9 ?_; refine Sh.qA 10 ?_; refine Sh.qU 11 ?_; refine Sh.qU 12 ?_; refine Sh.qU 13 ?_; refine Sh.qU 14 ?_; refine Sh.qU 15 ?_; refine Sh.qU 16 ?_; refine Sh.qU 17 ?_; refine Sh.qU 18 ?_; refine Sh.qU 19 ?_; refine Sh.qU 20 ?_; refine Sh.qA 21 ?_; refine Sh.qA 22 ?_; refine Sh.qA 23 ?_; refine Sh.qA 24 ?_; refine Sh.qA 26 ?_; refine Sh.qA 28 ?_; refine Sh.qT 25 hHeld ?_; refine Sh.qT 27 hHeld ?_; refine Sh.qT 29 hHeld ?_;refine Sh.oC 30 Tryz.func92 #[.int .i64 aB, .int .i64 ap, .slice ai ((rd_T100 ac aa).f1).length aj] fun K hK => ?_;with_reducible refine (Qac.calls k2 aB ap _ _ ((rd_T100 ac aa).f1) bk _ (Sh.cB aG.out) aH.out dM.out).mono ?_
            rintro e el ⟨rfl, hb⟩;refine ⟨_, rfl, ?_⟩;replace ae := Sh.ab ae hb;replace af := Sh.ab af hb;replace ak := Sh.ab ak hb;replace HB := Sh.hb hb;(try clear hb);refine Sh.kN hK Sh.cs fun hHeld => ?_;clear hK K;refine Sh.qA 31 ?_; refine Sh.qA 32 ?_;refine done_ (done_of HT_.out (by kernel_rfl)) ?_;try go_wp2
            go_roundg k2
            case measure => have := cI.out; have := cK.out; omega
            case rel => exact ⟨(wrap64 (aa + 1)), (Sh.es), H', ⟨by have := cI.out; have := cK.out; omega⟩, ⟨by refine Sh.pl ?_; exact ae.out⟩, ⟨by refine Sh.pl ?_; exact af.out⟩, ⟨Sh.bw⟩⟩
           ·rw [if_neg cx] at H
            have c54b0 : (bk == 1) = false := beq_eq_false_iff_ne.mpr cx;have c54b1 : (bk != 1) = true := bne_iff_ne.mpr cx;obtain rfl := Option.some.inj H;have aI : 0 ≤ (aa : Int) := Sh.od;have aJ : aa < (ac.length : Int) := Sh.od;obtain ⟨ay, ai, aj, aY, aq, ar, au, av⟩ := at_T100 aU.out aa aI aJ;cases aY;try replace aq := Sh.cw aq
            try replace ar := Sh.cw ar
            have aG := am_ av;have aH := am_ au;clear av au;replace aI := eq_true aI;replace aJ := eq_true aJ;try go_wp2_with (first | ((with_reducible refine Sh.d 6 ?_); (try (refine gate_guard (by rfl) ?_; dsimp only)); refine Sh.bx (N := 6) (cs := #[.int .i64 0, .slice none 0 0]) (t := 100) (h := ?_); intro ah hg cG hbox hb; have ak := am_ hbox; have bi := Sh.ag w hg; replace HB := Sh.hb hb; have al := am_ (Sh.nl hg ae.out); have aw := am_ (Sh.ng hg ae.out); replace ae := Sh.ab ae hb; have am := am_ (Sh.nl hg af.out); have ax := am_ (Sh.ng hg af.out); replace af := Sh.ab af hb; clear hb hbox hg; have dR := aw.out; have dS := al.out; have dT := ax.out; have dU := am.out; obtain ⟨dc, dd, de, df⟩ := Sh.b2 ak.out))
            have aZ : Aside0 (((cG.setCell ⟨ah, 0, none⟩ (.int .i64 ((rd_T100 ac aa).f0))).setCell ⟨ah, 1, none⟩ (.slice ai ((rd_T100 ac aa).f1).length aj)).heap[ao]? = some (.cells #[.int .i64 aB, .int .i64 ap, .slice aN aD.length aO, .slice aP aE.length aQ] 33 (0, 0))) := ⟨by refine Sh.pl ?_; refine blk_far ?_ al.out _; refine Sh.pl ?_; refine blk_far ?_ al.out _; refine Sh.pl ?_; exact ae.out⟩;have a1 : Aside0 (((cG.setCell ⟨ah, 0, none⟩ (.int .i64 ((rd_T100 ac aa).f0))).setCell ⟨ah, 1, none⟩ (.slice ai ((rd_T100 ac aa).f1).length aj)).heap[aK]? = some (.cells #[.slice aR aF.length aS, .slice (some ay) ac.length aT] 82 (0, 0))) := ⟨by refine Sh.pl ?_; refine blk_far ?_ am.out _; refine Sh.pl ?_; refine blk_far ?_ am.out _; refine Sh.pl ?_; exact af.out⟩;have a2 : Aside0 (((cG.setCell ⟨ah, 0, none⟩ (.int .i64 ((rd_T100 ac aa).f0))).setCell ⟨ah, 1, none⟩ (.slice ai ((rd_T100 ac aa).f1).length aj)).heap[ah]? = some (.cells #[.int .i64 ((rd_T100 ac aa).f0), .slice ai ((rd_T100 ac aa).f1).length aj] 100 (0, 0))) := ⟨by refine Sh.pl ?_; refine blk_put (cs := #[.int .i64 ((rd_T100 ac aa).f0), .slice none 0 0]) ?_ 1 _ rfl; refine Sh.pl ?_; refine blk_put (cs := #[.int .i64 0, .slice none 0 0]) ?_ 0 _ rfl; refine Sh.pl ?_; exact ak.out⟩;have a6 : Aside0 (Below w.heap.size w ((cG.setCell ⟨ah, 0, none⟩ (.int .i64 ((rd_T100 ac aa).f0))).setCell ⟨ah, 1, none⟩ (.slice ai ((rd_T100 ac aa).f1).length aj))) := ⟨Sh.bw⟩;(try clear ae);(try clear af);(try clear ak);(try clear HB);generalize ((cG.setCell ⟨ah, 0, none⟩ (.int .i64 ((rd_T100 ac aa).f0))).setCell ⟨ah, 1, none⟩ (.slice ai ((rd_T100 ac aa).f1).length aj)) = eb at aZ a1 a2 a6 ⊢;have ae := aZ;have af := a1;have ak := a2;have HB := a6;clear aZ a1 a2 a6;replace ae := am_ (blk_drew ae.out);replace af := am_ (blk_drew af.out);replace ak := am_ (blk_drew ak.out);replace HB := am_ (below_drew1 HB.out);refine start_ (n := 33) (S := fun w' => w'.cell? ⟨ah, 0, none⟩ = some (.int .i64 ((rd_T100 ac aa).f0)) ∧ w'.cell? ⟨ah, 1, none⟩ = some (.slice ai ((rd_T100 ac aa).f1).length aj) ∧ w'.cell? ⟨ao, 0, none⟩ = some (.int .i64 aB) ∧ w'.cell? ⟨ao, 1, none⟩ = some (.int .i64 ap) ∧ w'.cell? ⟨ao, 2, none⟩ = some (.slice aN aD.length aO) ∧ w'.cell? ⟨ao, 3, none⟩ = some (.slice aP aE.length aQ)) (ds := []) (Sh.nm 33 0) (by kernel_rfl) rfl rfl Sh.cs (fun hHeld => ?_); refine with_tabW Qag.tab6 Qag.bits6 (fun HT_ HW_ => ?_);generalize eb.drew = em at ae af ak HB hHeld ⊢;refine Sh.qA 0 ?_; refine Sh.qA 2 ?_; refine Sh.qT 1 hHeld ?_; refine Sh.qT 3 hHeld ?_; refine Sh.qA 4 ?_;refine Sh.oC 5 Tryz.func73 #[.int .i64 ((rd_T100 ac aa).f0), .int .i64 0, .int .i64 (wrap64 (ap - 1))] fun K hK => ?_;with_reducible refine (QaH.calls ((rd_T100 ac aa).f0) 0 (wrap64 (ap - 1)) true _ cu.out).mono ?_
            rintro e w' ⟨rfl, ⟨nd, rfl⟩⟩;refine ⟨_, rfl, ?_⟩;refine Sh.kN hK Sh.cs fun hHeld => ?_;clear hK K;refine Sh.qA 6 ?_; refine Sh.qA 7 ?_; refine Sh.qA 8 ?_; refine Sh.qA 9 ?_; refine Sh.qA 10 ?_; refine Sh.qU 11 ?_; refine Sh.qU 12 ?_; refine Sh.qU 13 ?_; refine Sh.qU 14 ?_; refine Sh.qU 15 ?_; refine Sh.qU 16 ?_; refine Sh.qU 17 ?_; refine Sh.qU 18 ?_; refine Sh.qU 19 ?_; refine Sh.qU 20 ?_; refine Sh.qA 21 ?_; refine Sh.qA 22 ?_; refine Sh.qA 23 ?_; refine Sh.qA 24 ?_; refine Sh.qA 26 ?_; refine Sh.qA 28 ?_; refine Sh.qT 25 hHeld ?_; refine Sh.qT 27 hHeld ?_; refine Sh.qT 29 hHeld ?_;refine Sh.oC 30 Tryz.func92 #[.int .i64 aB, .int .i64 ap, .slice ai ((rd_T100 ac aa).f1).length aj] fun K hK => ?_;with_reducible refine (Qac.calls k2 aB ap _ _ ((rd_T100 ac aa).f1) bk _ (Sh.cB aG.out) aH.out dM.out).mono ?_
            rintro e en ⟨rfl, hb⟩;refine ⟨_, rfl, ?_⟩;replace ae := Sh.ab ae hb;replace af := Sh.ab af hb;replace ak := Sh.ab ak hb;replace HB := Sh.hb hb;(try clear hb);refine Sh.kN hK Sh.cs fun hHeld => ?_;clear hK K;refine Sh.qA 31 ?_; refine Sh.qA 32 ?_;refine done_ (done_of HT_.out (by kernel_rfl)) ?_;try go_wp2
            go_ret;exact ⟨Sh.eR, Sh.bw⟩
         ·replace cN := Bool.eq_false_iff.mpr cN
          subst cN;rw [Sh.nf] at H;obtain rfl := Option.some.inj H;have aI : 0 ≤ (aa : Int) := Sh.od;have aJ : aa < (ac.length : Int) := Sh.od;obtain ⟨ay, ai, aj, aY, aq, ar, au, av⟩ := at_T100 aU.out aa aI aJ;cases aY;try replace aq := Sh.cw aq
          try replace ar := Sh.cw ar
          have aG := am_ av;have aH := am_ au;clear av au;replace aI := eq_true aI;replace aJ := eq_true aJ;try go_wp2_with (first | ((with_reducible refine Sh.d 6 ?_); (try (refine gate_guard (by rfl) ?_; dsimp only)); refine Sh.bx (N := 6) (cs := #[.int .i64 0, .slice none 0 0]) (t := 100) (h := ?_); intro ah hg cH hbox hb; have ak := am_ hbox; have bi := Sh.ag w hg; replace HB := Sh.hb hb; have al := am_ (Sh.nl hg ae.out); have aw := am_ (Sh.ng hg ae.out); replace ae := Sh.ab ae hb; have am := am_ (Sh.nl hg af.out); have ax := am_ (Sh.ng hg af.out); replace af := Sh.ab af hb; clear hb hbox hg; have dV := aw.out; have dW := al.out; have dX := ax.out; have dY := am.out; obtain ⟨dg, dh, di, dj⟩ := Sh.b2 ak.out))
          have aZ : Aside0 (((cH.setCell ⟨ah, 0, none⟩ (.int .i64 ((rd_T100 ac aa).f0))).setCell ⟨ah, 1, none⟩ (.slice ai ((rd_T100 ac aa).f1).length aj)).heap[ao]? = some (.cells #[.int .i64 aB, .int .i64 ap, .slice aN aD.length aO, .slice aP aE.length aQ] 33 (0, 0))) := ⟨by refine Sh.pl ?_; refine blk_far ?_ al.out _; refine Sh.pl ?_; refine blk_far ?_ al.out _; refine Sh.pl ?_; exact ae.out⟩;have a1 : Aside0 (((cH.setCell ⟨ah, 0, none⟩ (.int .i64 ((rd_T100 ac aa).f0))).setCell ⟨ah, 1, none⟩ (.slice ai ((rd_T100 ac aa).f1).length aj)).heap[aK]? = some (.cells #[.slice aR aF.length aS, .slice (some ay) ac.length aT] 82 (0, 0))) := ⟨by refine Sh.pl ?_; refine blk_far ?_ am.out _; refine Sh.pl ?_; refine blk_far ?_ am.out _; refine Sh.pl ?_; exact af.out⟩;have a2 : Aside0 (((cH.setCell ⟨ah, 0, none⟩ (.int .i64 ((rd_T100 ac aa).f0))).setCell ⟨ah, 1, none⟩ (.slice ai ((rd_T100 ac aa).f1).length aj)).heap[ah]? = some (.cells #[.int .i64 ((rd_T100 ac aa).f0), .slice ai ((rd_T100 ac aa).f1).length aj] 100 (0, 0))) := ⟨by refine Sh.pl ?_; refine blk_put (cs := #[.int .i64 ((rd_T100 ac aa).f0), .slice none 0 0]) ?_ 1 _ rfl; refine Sh.pl ?_; refine blk_put (cs := #[.int .i64 0, .slice none 0 0]) ?_ 0 _ rfl; refine Sh.pl ?_; exact ak.out⟩;have a6 : Aside0 (Below w.heap.size w ((cH.setCell ⟨ah, 0, none⟩ (.int .i64 ((rd_T100 ac aa).f0))).setCell ⟨ah, 1, none⟩ (.slice ai ((rd_T100 ac aa).f1).length aj))) := ⟨Sh.bw⟩;(try clear ae);(try clear af);(try clear ak);(try clear HB);generalize ((cH.setCell ⟨ah, 0, none⟩ (.int .i64 ((rd_T100 ac aa).f0))).setCell ⟨ah, 1, none⟩ (.slice ai ((rd_T100 ac aa).f1).length aj)) = ec at aZ a1 a2 a6 ⊢;have ae := aZ;have af := a1;have ak := a2;have HB := a6;clear aZ a1 a2 a6;replace ae := am_ (blk_drew ae.out);replace af := am_ (blk_drew af.out);replace ak := am_ (blk_drew ak.out);replace HB := am_ (below_drew1 HB.out);refine start_ (n := 33) (S := fun w' => w'.cell? ⟨ah, 0, none⟩ = some (.int .i64 ((rd_T100 ac aa).f0)) ∧ w'.cell? ⟨ah, 1, none⟩ = some (.slice ai ((rd_T100 ac aa).f1).length aj) ∧ w'.cell? ⟨ao, 0, none⟩ = some (.int .i64 aB) ∧ w'.cell? ⟨ao, 1, none⟩ = some (.int .i64 ap) ∧ w'.cell? ⟨ao, 2, none⟩ = some (.slice aN aD.length aO) ∧ w'.cell? ⟨ao, 3, none⟩ = some (.slice aP aE.length aQ)) (ds := []) (Sh.nm 33 0) (by kernel_rfl) rfl rfl Sh.cs (fun hHeld => ?_); refine with_tabW Qag.tab6 Qag.bits6 (fun HT_ HW_ => ?_);generalize ec.drew = eo at ae af ak HB hHeld ⊢;refine Sh.qA 0 ?_; refine Sh.qA 2 ?_; refine Sh.qT 1 hHeld ?_; refine Sh.qT 3 hHeld ?_; refine Sh.qA 4 ?_;refine Sh.oC 5 Tryz.func73 #[.int .i64 ((rd_T100 ac aa).f0), .int .i64 0, .int .i64 (wrap64 (ap - 1))] fun K hK => ?_;with_reducible refine (QaH.calls ((rd_T100 ac aa).f0) 0 (wrap64 (ap - 1)) false _ cu.out).mono ?_
          rintro e w' ⟨rfl, ⟨nd, rfl⟩⟩;refine ⟨_, rfl, ?_⟩;refine Sh.kN hK Sh.cs fun hHeld => ?_;clear hK K;refine Sh.qA 6 ?_; refine Sh.qA 7 ?_; refine Sh.qU 8 ?_; refine Sh.qU 9 ?_; refine Sh.qU 10 ?_; refine Sh.qU 11 ?_; refine Sh.qU 12 ?_; refine Sh.qU 13 ?_; refine Sh.qU 14 ?_; refine Sh.qU 15 ?_; refine Sh.qU 16 ?_; refine Sh.qU 17 ?_; refine Sh.qU 18 ?_; refine Sh.qU 19 ?_; refine Sh.qU 20 ?_; refine Sh.qU 21 ?_; refine Sh.qA 22 ?_; refine Sh.qA 23 ?_; refine Sh.qU 24 ?_; refine Sh.qU 25 ?_; refine Sh.qU 26 ?_; refine Sh.qU 27 ?_; refine Sh.qU 28 ?_; refine Sh.qU 29 ?_; refine Sh.qU 30 ?_; refine Sh.qU 31 ?_; refine Sh.qA 32 ?_;refine done_ (done_of HT_.out (by kernel_rfl)) ?_;try go_wp2
          go_ret;exact ⟨Sh.eR, Sh.bw⟩
        ·rw [if_neg cM] at H
         cases H
       ·rw [if_neg cL] at H
        cases H
      ·rw [if_neg cy] at H
       replace cy := decide_eq_false cy;obtain rfl := Option.some.inj H;go_wp2;go_ret;exact ⟨Sh.eR, Sh.bw⟩
end Go.Proofs.YtdbfcmoifpgnbaaGreat.P
