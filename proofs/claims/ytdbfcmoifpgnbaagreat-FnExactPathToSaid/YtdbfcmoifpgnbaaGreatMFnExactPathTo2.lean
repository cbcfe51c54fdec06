/- Go functions of this seat as Lean functions, and the proofs that the calls come to what these say; printed by a program of this session. No condition. -/
import Derived.Test.YtdbfcmoifpgnbaaGreatP0
import Derived.Test.YtdbfcmoifpgnbaaGreatMFnExactPathTo1
set_option linter.unusedVariables false
set_option linter.unusedSimpArgs false
set_option maxHeartbeats 40000000
set_option maxRecDepth 100000
namespace Go.Proofs.YtdbfcmoifpgnbaaGreat.P
open Go.RowKit Go.Proofs.YtdbfcmoifpgnbaaGreatW.PrintWords Go.Proofs.YtdbfcmoifpgnbaaGreatW.PrintLast Go.Proofs.YtdbfcmoifpgnbaaGreatW.PrintMore Go.Proofs.YtdbfcmoifpgnbaaGreat.Hof
attribute [local go_sem] max2_int min2_int max_two min_two max_three min_three max_four min_four
mutual
def Qax.j0 : Nat → Bool → Int → Int → List (S77) → List (S82) → Option (Bool)
 | 0, _, _, _, _, _ => none
 | k + 1, al, ac, ae, af, aa => if al = true then (some false) else (Qax.l0 k aa (aa.length : Int) 0 ac ae af aa)
def Qax.l0 : Nat → List (S82) → Int → Int → Int → Int → List (S77) → List (S82) → Option (Bool)
 | 0, _, _, _, _, _, _, _ => none
 | k + 1, ai, ak, ah, ac, ae, af, aa => if ah < ak then (if 0 ≤ ah then (if ah < (ai.length : Int) then ((Qag.f k ac ae af aa ((rd_T82 ai ah).f0) ((rd_T82 ai ah).f1)).bind fun aj => (if aj = true then (Qax.l0 k ai ak (wrap64 (ah + 1)) ac ae af aa) else (some false))) else (none)) else (none)) else (some true)
end
def Qax.f (k : Nat) (ae : Int) (af : Int) (aa : List (S77)) (ac : List (S82)) : Option (Bool) := (Qa6.f k ae af aa ac aa).bind fun ah => (if ah = true then ((QaH.f (ac.length : Int) 1 6).bind fun ai => (Qax.j0 k (!ai) ae af aa ac)) else (Qax.j0 k true ae af aa ac))
theorem Qax.mono_l : ∀ k, (∀ y0 y1 y2 y3 y4, LeO (Qax.j0 k y0 y1 y2 y3 y4) (Qax.j0 (k + 1) y0 y1 y2 y3 y4)) ∧ (∀ y0 y1 y2 y3 y4 y5 y6, LeO (Qax.l0 k y0 y1 y2 y3 y4 y5 y6) (Qax.l0 (k + 1) y0 y1 y2 y3 y4 y5 y6))
 | 0 => ⟨fun _ _ _ _ _ r h => by simp [Qax.j0] at h, fun _ _ _ _ _ _ _ r h => by simp [Qax.l0] at h⟩
 | k + 1 => by
  obtain ⟨aa, ac⟩ := Qax.mono_l k
  and_intros <;> intros
  all_goals (first | unfold Qax.j0 | unfold Qax.l0)
  all_goals repeat' with_reducible first | apply aa | apply ac | apply Qa6.mono | apply Qag.mono | exact LeO.refl _ | exact LeO.none _ | apply LeO.ite | refine LeO.bind ?_ fun _ => ?_
theorem Qax.mono : ∀ a0 a1 a2 a3 k, LeO (Qax.f k a0 a1 a2 a3) (Qax.f (k + 1) a0 a1 a2 a3) := by
 intro a0 a1 a2 a3 k;obtain ⟨aa, ac⟩ := Qax.mono_l k;unfold Qax.f;repeat' with_reducible first | apply aa | apply ac | apply Qa6.mono | apply Qag.mono | exact LeO.refl _ | exact LeO.none _ | apply LeO.ite | refine LeO.bind ?_ fun _ => ?_
theorem Qax.calls (k : Nat) (ai : Int) (aj : Int) (av : Option Addr) (aw : Nat) (ah : List (S77)) (aK : Option Addr) (ay : Nat) (ac : List (S82)) (r : Bool) (w : World) (bC : Kd.C k77 w av ah.length ah) (bD : ah.length ≤ aw) (bE : Kd.C k82 w aK ac.length ac) (bF : ac.length ≤ ay) (h : Qax.f k ai aj ah ac = some r) :
  Calls Tryz.prog 57 #[.agg #[.int .i64 ai, .int .i64 aj, .slice av ah.length aw, .slice aK ac.length ay]] w fun e w' => e = .returned (.bool r) ∧ Below w.heap.size w w' := by
 have cu := Tryz.underlying33;have cv := Tryz.underlying82;have aC := am_ bC;have aD := am_ bD;clear bC bD;have aE := am_ bE;have aN := am_ bF;clear bE bF;have HB := am_ (Below.refl w.heap.size w);have H := h;clear h;unfold Qax.f at H;have ch := am_ H;clear H;go_enter Tryz.func57, Tryz.ntmps57;go_upto_region 1 with (first | ((with_reducible refine Sh.d 1 ?_); (try (refine gate_guard (by rfl) ?_; dsimp only)); refine Sh.bz w (N := 1) (cs := #[.int .i64 ai, .int .i64 aj, .slice av ah.length aw, .slice aK ac.length ay]) (t := 33) (h := ?_); clear HB; intro aO w3 aa ck HB))
 (try simp only [Act.put, List.setIfInBounds_toArray, List.set_cons_zero, List.set_cons_succ]);go_cut [16] (fun cx wc => ∃ (kq : Nat) (aP : Bool), cx = .bool aP ∧ Aside0 (Qax.j0 kq aP ai aj ah ac = some r) ∧ Aside0 (kq ≤ k) ∧ Aside0 (wc.heap[aO]? = some (.cells #[.int .i64 ai, .int .i64 aj, (.slice av ah.length aw), (.slice aK ac.length ay)] 33 (0, 0))) ∧ Aside0 (Below w.heap.size w wc))
 case first =>
  have H := ch.out;clear ch;obtain ⟨ci, A4, H⟩ := Sh.ba H;by_cases c5 : ci = true
  ·subst c5
   rw [if_pos rfl] at H;obtain ⟨bI, A6, H⟩ := Sh.ba H;have H' := am_ H;clear H;have aY := Sh.bc aa.out 0;have aZ := Sh.bc aa.out 1;have a1 := Sh.bc aa.out 2;have a2 := Sh.bc aa.out 3;have a6 := blk_frozen aa.out 0;have a7 := blk_frozen aa.out 1;have a8 := blk_frozen aa.out 2;have bf := blk_frozen aa.out 3;go_wp2_with (first | ((with_reducible refine Sh.k 72 ?_); refine Sh.gB (some 8) Tryz.func72 #[.agg #[.int .i64 ai, .int .i64 aj, .slice av ah.length aw, .slice aK ac.length ay], .slice av ah.length aw] (Qa6.calls k ai aj _ _ ah _ _ ac _ _ ah true _ (Sh.cB aC.out) aD.out (Sh.cB aE.out) aN.out (Sh.cB aC.out) aD.out A4.out) fun w8 hb => ?_; replace aa := Sh.ab aa hb; replace HB := Sh.hb hb; (try clear hb); obtain ⟨bg, bh, bi, bj, bk, bl, bm, bn⟩ := Sh.b4 aa.out) | (go_at_call 73; (with_reducible refine (QaH.calls (ac.length : Int) 1 6 bI _ A6.out).mono ?_); rintro e w' ⟨rfl, ⟨nd, rfl⟩⟩));go_meet
   case rel => exact ⟨_, (!bI), (Sh.es), H', ⟨Sh.om⟩, ⟨by refine Sh.pl ?_; exact aa.out⟩, ⟨Sh.bw⟩⟩
  ·replace c5 := Bool.eq_false_iff.mpr c5
   subst c5;rw [Sh.nf] at H;have H' := am_ H;clear H;have aQ := Sh.bc aa.out 0;have aR := Sh.bc aa.out 1;have aS := Sh.bc aa.out 2;have aT := Sh.bc aa.out 3;have aU := blk_frozen aa.out 0;have aV := blk_frozen aa.out 1;have aW := blk_frozen aa.out 2;have aX := blk_frozen aa.out 3;go_wp2_with (first | ((with_reducible refine Sh.k 72 ?_); refine Sh.gB (some 8) Tryz.func72 #[.agg #[.int .i64 ai, .int .i64 aj, .slice av ah.length aw, .slice aK ac.length ay], .slice av ah.length aw] (Qa6.calls k ai aj _ _ ah _ _ ac _ _ ah false _ (Sh.cB aC.out) aD.out (Sh.cB aE.out) aN.out (Sh.cB aC.out) aD.out A4.out) fun cz hb => ?_; replace aa := Sh.ab aa hb; replace HB := Sh.hb hb; (try clear hb)));go_meet
   case rel => exact ⟨_, (true), (Sh.es), H', ⟨Sh.om⟩, ⟨by refine Sh.pl ?_; exact aa.out⟩, ⟨Sh.bw⟩⟩
 case rest =>
  clear ch;try clear aQ
  try clear aR
  try clear aS
  try clear aT
  try clear aY
  try clear aZ
  try clear a1
  try clear a2
  try clear bg
  try clear bh
  try clear bi
  try clear bj
  try clear aU
  try clear aV
  try clear aW
  try clear aX
  try clear a6
  try clear a7
  try clear a8
  try clear bf
  try clear bk
  try clear bl
  try clear bm
  try clear bn
  obtain ⟨kq, aP, rfl, HA, cl, aa, HB⟩ := hcut;cases kq with
  | zero => exact absurd HA.out (by simp [Qax.j0])
  | succ cm =>
   have H := HA.out;clear HA;simp only [Qax.j0] at H;by_cases bK : aP = true
   ·subst bK
    rw [if_pos rfl] at H;obtain rfl := Option.some.inj H;go_wp2;go_ret;exact ⟨Sh.eR, Sh.bw⟩
   ·replace bK := Bool.eq_false_iff.mpr bK
    subst bK;rw [Sh.nf] at H;have H' := am_ H;clear H;have bp := Sh.bc aa.out 0;have bq := Sh.bc aa.out 1;have br := Sh.bc aa.out 2;have bs := Sh.bc aa.out 3;have bu := blk_frozen aa.out 0;have bv := blk_frozen aa.out 1;have bA := blk_frozen aa.out 2;have bB := blk_frozen aa.out 3;go_wp2;go_loopg [20] cm (fun kq cy w' => ∃ (ae : Int), cy = .int .i64 ae ∧ Aside0 (Qax.l0 kq ac (ac.length : Int) ae ai aj ah ac = some r) ∧ Aside0 (kq ≤ cm) ∧ Aside0 (w'.heap[aO]? = some (.cells #[.int .i64 ai, .int .i64 aj, (.slice av ah.length aw), (.slice aK ac.length ay)] 33 (0, 0))) ∧ Aside0 (Below w.heap.size w w'))
    case atStart => exact ⟨(0), (Sh.es), H', ⟨Nat.le_refl _⟩, ⟨by refine Sh.pl ?_; exact aa.out⟩, ⟨Sh.bw⟩⟩
    case round =>
     clear H';try clear aQ
     try clear aR
     try clear aS
     try clear aT
     try clear bp
     try clear bq
     try clear br
     try clear bs
     try clear aY
     try clear aZ
     try clear a1
     try clear a2
     try clear bg
     try clear bh
     try clear bi
     try clear bj
     try clear aU
     try clear aV
     try clear aW
     try clear aX
     try clear bu
     try clear bv
     try clear bA
     try clear bB
     try clear a6
     try clear a7
     try clear a8
     try clear bf
     try clear bk
     try clear bl
     try clear bm
     try clear bn
     obtain ⟨ae, rfl, HA, cn, aa, HB⟩ := hrel;cases gk with
     | zero => exact absurd HA.out (by simp [Qax.l0])
     | succ k2 =>
      have H := HA.out;clear HA;simp only [Qax.l0] at H;by_cases bH : ae < (ac.length : Int)
      ·rw [if_pos bH] at H
       replace bH := decide_eq_true bH;by_cases bL : 0 ≤ ae
       ·rw [if_pos bL] at H
        replace bL := decide_eq_true bL;by_cases bM : ae < (ac.length : Int)
        ·rw [if_pos bM] at H
         replace bM := decide_eq_true bM;obtain ⟨cj, co, H⟩ := Sh.ba H;by_cases bN : cj = true
         ·subst bN
          rw [if_pos rfl] at H;have H' := am_ H;clear H;have aL : 0 ≤ (ae : Int) := Sh.od;have aM : ae < (ac.length : Int) := Sh.od;obtain ⟨aJ, ak, al, az, aA, bG, am, ao, ap, aq, ar, au⟩ := at_T82 aE.out ae aL aM;cases bG;try replace am := Sh.cw am
          try replace ao := Sh.cw ao
          have aF := am_ aq;have aG := am_ ap;clear aq ap;have aH := am_ au;have aI := am_ ar;clear au ar;replace aL := eq_true aL;replace aM := eq_true aM;go_wp2_with (first | ((with_reducible refine Sh.d 4 ?_); (try (refine gate_guard (by rfl) ?_; dsimp only)); refine Sh.bx (N := 4) (cs := #[.slice none 0 0, .slice none 0 0]) (t := 82) (h := ?_); intro bo hg cA hbox hb; have aB := am_ hbox; have bJ := Sh.ag w hg; replace HB := Sh.hb hb; have af := am_ (Sh.nl hg aa.out); have ax := am_ (Sh.ng hg aa.out); replace aa := Sh.ab aa hb; clear hb hbox hg; have cp := ax.out; have cq := af.out; obtain ⟨bO, bP, bQ, bR⟩ := Sh.b2 aB.out; obtain ⟨bS, bT, bU, bV, bW, bX, bY, bZ⟩ := Sh.b4 aa.out) | ((with_reducible refine Sh.k 74 ?_); refine Sh.gB (some 26) Tryz.func74 #[.agg #[.int .i64 ai, .int .i64 aj, .slice av ah.length aw, .slice (some aJ) ac.length ay], .agg #[.slice ak ((rd_T82 ac ae).f0).length al, .slice az ((rd_T82 ac ae).f1).length aA]] (Qag.calls k2 ai aj _ _ ah _ _ ac _ _ ((rd_T82 ac ae).f0) _ _ ((rd_T82 ac ae).f1) true _ (Sh.cB aC.out) aD.out (Sh.cB aE.out) aN.out (Sh.cB aF.out) aG.out (Sh.cB aH.out) aI.out co.out) fun cC hb => ?_; replace aa := am_ (blk_below (g := aO) (o := .cells #[.int .i64 ai, .int .i64 aj, .slice av ah.length aw, .slice (some aJ) ac.length ay] 33 (0, 0)) (by refine Sh.pl ?_; refine blk_far ?_ af.out _; refine Sh.pl ?_; refine blk_far ?_ af.out _; refine Sh.pl ?_; exact aa.out) hb); replace aB := am_ (blk_below (g := bo) (o := .cells #[.slice ak ((rd_T82 ac ae).f0).length al, .slice az ((rd_T82 ac ae).f1).length aA] 82 (0, 0)) (by refine Sh.pl ?_; refine blk_put (cs := #[.slice ak ((rd_T82 ac ae).f0).length al, .slice none 0 0]) ?_ 1 _ rfl; refine Sh.pl ?_; refine blk_put (cs := #[.slice none 0 0, .slice none 0 0]) ?_ 0 _ rfl; refine Sh.pl ?_; exact aB.out) hb); replace HB := Sh.hb hb; (try clear hb)));go_roundg k2
          case measure => have := cl.out; have := cn.out; omega
          case rel => exact ⟨(wrap64 (ae + 1)), (Sh.es), H', ⟨by have := cl.out; have := cn.out; omega⟩, ⟨by refine Sh.pl ?_; exact aa.out⟩, ⟨Sh.bw⟩⟩
         ·replace bN := Bool.eq_false_iff.mpr bN
          subst bN;rw [Sh.nf] at H;obtain rfl := Option.some.inj H;have aL : 0 ≤ (ae : Int) := Sh.od;have aM : ae < (ac.length : Int) := Sh.od;obtain ⟨aJ, ak, al, az, aA, bG, am, ao, ap, aq, ar, au⟩ := at_T82 aE.out ae aL aM;cases bG;try replace am := Sh.cw am
          try replace ao := Sh.cw ao
          have aF := am_ aq;have aG := am_ ap;clear aq ap;have aH := am_ au;have aI := am_ ar;clear au ar;replace aL := eq_true aL;replace aM := eq_true aM;go_wp2_with (first | ((with_reducible refine Sh.d 4 ?_); (try (refine gate_guard (by rfl) ?_; dsimp only)); refine Sh.bx (N := 4) (cs := #[.slice none 0 0, .slice none 0 0]) (t := 82) (h := ?_); intro bo hg cD hbox hb; have aB := am_ hbox; have bJ := Sh.ag w hg; replace HB := Sh.hb hb; have af := am_ (Sh.nl hg aa.out); have ax := am_ (Sh.ng hg aa.out); replace aa := Sh.ab aa hb; clear hb hbox hg; have cr := ax.out; have ct := af.out; obtain ⟨b0, b1, b6, b7⟩ := Sh.b2 aB.out; obtain ⟨b8, b9, ca, cb, cd, ce, cf, cg⟩ := Sh.b4 aa.out) | ((with_reducible refine Sh.k 74 ?_); refine Sh.gB (some 26) Tryz.func74 #[.agg #[.int .i64 ai, .int .i64 aj, .slice av ah.length aw, .slice (some aJ) ac.length ay], .agg #[.slice ak ((rd_T82 ac ae).f0).length al, .slice az ((rd_T82 ac ae).f1).length aA]] (Qag.calls k2 ai aj _ _ ah _ _ ac _ _ ((rd_T82 ac ae).f0) _ _ ((rd_T82 ac ae).f1) false _ (Sh.cB aC.out) aD.out (Sh.cB aE.out) aN.out (Sh.cB aF.out) aG.out (Sh.cB aH.out) aI.out co.out) fun cE hb => ?_; replace aa := am_ (blk_below (g := aO) (o := .cells #[.int .i64 ai, .int .i64 aj, .slice av ah.length aw, .slice (some aJ) ac.length ay] 33 (0, 0)) (by refine Sh.pl ?_; refine blk_far ?_ af.out _; refine Sh.pl ?_; refine blk_far ?_ af.out _; refine Sh.pl ?_; exact aa.out) hb); replace aB := am_ (blk_below (g := bo) (o := .cells #[.slice ak ((rd_T82 ac ae).f0).length al, .slice az ((rd_T82 ac ae).f1).length aA] 82 (0, 0)) (by refine Sh.pl ?_; refine blk_put (cs := #[.slice ak ((rd_T82 ac ae).f0).length al, .slice none 0 0]) ?_ 1 _ rfl; refine Sh.pl ?_; refine blk_put (cs := #[.slice none 0 0, .slice none 0 0]) ?_ 0 _ rfl; refine Sh.pl ?_; exact aB.out) hb); replace HB := Sh.hb hb; (try clear hb)));go_ret;exact ⟨Sh.eR, Sh.bw⟩
        ·rw [if_neg bM] at H
         cases H
       ·rw [if_neg bL] at H
        cases H
      ·rw [if_neg bH] at H
       replace bH := decide_eq_false bH;obtain rfl := Option.some.inj H;go_wp2;go_ret;exact ⟨Sh.eR, Sh.bw⟩
def Qbf.f (k : Nat) (aa : Int) (ac : Int) (ae : List (S77)) (af : List (S82)) : Option (Bool) := (Qax.f k aa ac ae af).bind fun ah => (if ah = true then (some (decide ((wrap64 (aa * ac)) ≤ 5))) else (some false))
theorem Qbf.mono : ∀ a0 a1 a2 a3 k, LeO (Qbf.f k a0 a1 a2 a3) (Qbf.f (k + 1) a0 a1 a2 a3) := by
 intro a0 a1 a2 a3 k;unfold Qbf.f;repeat' with_reducible first | apply Qax.mono | exact LeO.refl _ | exact LeO.none _ | apply LeO.ite | refine LeO.bind ?_ fun _ => ?_
theorem Qbf.calls (k : Nat) (af : Int) (ah : Int) (ai : Option Addr) (aj : Nat) (ac : List (S77)) (ak : Option Addr) (al : Nat) (ae : List (S82)) (r : Bool) (w : World) (am : Kd.C k77 w ai ac.length ac) (ao : ac.length ≤ aj) (ap : Kd.C k82 w ak ae.length ae) (aq : ae.length ≤ al) (h : Qbf.f k af ah ac ae = some r) :
  Calls Tryz.prog 30 #[.agg #[.int .i64 af, .int .i64 ah, .slice ai ac.length aj, .slice ak ae.length al]] w fun e w' => e = .returned (.bool r) ∧ Below w.heap.size w w' := by
 have aY := Tryz.underlying33;have ar := am_ am;have au := am_ ao;clear am ao;have av := am_ ap;have aw := am_ aq;clear ap aq;have HB := am_ (Below.refl w.heap.size w);have H := h;clear h;unfold Qbf.f at H;obtain ⟨az, A2, H⟩ := Sh.ba H;by_cases c3 : az = true
 ·subst c3
  rw [if_pos rfl] at H;obtain rfl := Option.some.inj H;go_enter Tryz.func30, Tryz.ntmps30;go_wp2_with (first | ((with_reducible refine Sh.d 1 ?_); refine Sh.bz w (N := 1) (cs := #[.int .i64 af, .int .i64 ah, .slice ai ac.length aj, .slice ak ae.length al]) (t := 33) (h := ?_); clear HB; intro ax w4 aa ay HB; obtain ⟨aA, aB, aC, aD, aE, aF, aG, aH⟩ := Sh.b4 aa.out) | ((with_reducible refine Sh.k 57 ?_); refine Sh.gB (some 4) Tryz.func57 #[.agg #[.int .i64 af, .int .i64 ah, .slice ai ac.length aj, .slice ak ae.length al]] (Qax.calls k af ah _ _ ac _ _ ae true _ (Sh.cB ar.out) au.out (Sh.cB av.out) aw.out A2.out) fun w6 hb => ?_; replace aa := Sh.ab aa hb; replace HB := Sh.hb hb; (try clear hb); obtain ⟨aI, aJ, aK, aL, aM, aN, aO, aP⟩ := Sh.b4 aa.out));go_ret;exact ⟨Sh.eR, Sh.bw⟩
 ·replace c3 := Bool.eq_false_iff.mpr c3
  subst c3;rw [Sh.nf] at H;obtain rfl := Option.some.inj H;go_enter Tryz.func30, Tryz.ntmps30;go_wp2_with (first | ((with_reducible refine Sh.d 1 ?_); refine Sh.bz w (N := 1) (cs := #[.int .i64 af, .int .i64 ah, .slice ai ac.length aj, .slice ak ae.length al]) (t := 33) (h := ?_); clear HB; intro ax w8 aa ay HB; obtain ⟨aQ, aR, aS, aT, aU, aV, aW, aX⟩ := Sh.b4 aa.out) | ((with_reducible refine Sh.k 57 ?_); refine Sh.gB (some 4) Tryz.func57 #[.agg #[.int .i64 af, .int .i64 ah, .slice ai ac.length aj, .slice ak ae.length al]] (Qax.calls k af ah _ _ ac _ _ ae false _ (Sh.cB ar.out) au.out (Sh.cB av.out) aw.out A2.out) fun aZ hb => ?_; replace aa := Sh.ab aa hb; replace HB := Sh.hb hb; (try clear hb)));go_ret;exact ⟨Sh.eR, Sh.bw⟩
def QaI.l0 : Nat → Int → List Int → Int → Int → Option (Bool)
 | 0, _, _, _, _ => none
 | k + 1, x1, x7, x8, x9 => if x9 < x8 then (if 0 ≤ x9 then (if x9 < (x7.length : Int) then (if (rd x7 x9) = x1 then (some true) else (QaI.l0 k x1 x7 x8 (wrap64 (x9 + 1)))) else (none)) else (none)) else (some false)
def QaI.f (k : Nat) (l0 : List Int) (a1 : Int) : Option (Bool) := QaI.l0 k a1 l0 (l0.length : Int) 0
theorem QaI.mono_l : ∀ k, (∀ y0 y1 y2 y3, LeO (QaI.l0 k y0 y1 y2 y3) (QaI.l0 (k + 1) y0 y1 y2 y3))
 | 0 => fun _ _ _ _ r h => by simp [QaI.l0] at h
 | k + 1 => by
  have aa := QaI.mono_l k
  ·intro y0 y1 y2 y3
   unfold QaI.l0
   repeat' with_reducible first | apply aa | exact LeO.refl _ | exact LeO.none _ | apply LeO.ite | refine LeO.bind ?_ fun _ => ?_
theorem QaI.mono : ∀ a0 a1 k, LeO (QaI.f k a0 a1) (QaI.f (k + 1) a0 a1) := by
 intro a0 a1 k;have aa := QaI.mono_l k;unfold QaI.f;repeat' with_reducible first | apply aa | exact LeO.refl _ | exact LeO.none _ | apply LeO.ite | refine LeO.bind ?_ fun _ => ?_
theorem QaI.calls (k : Nat) (A0 : Option Addr) (c0 : Nat) (l0 : List Int) (a1 : Int) (r : Bool) (w : World) (aj : Kd.C (Kd.int .i64) w A0 l0.length l0) (hc0 : l0.length ≤ c0) (h : QaI.f k l0 a1 = some r) :
  Calls Tryz.prog 31 #[.slice A0 l0.length c0, .int .i64 a1] w fun e w' => e = .returned (.bool r) ∧ Drawn0 w w' := by
 have ak := am_ aj;have am := am_ hc0;clear aj hc0;have H := h;clear h;unfold QaI.f at H;have H' := am_ H;clear H;go_enter Tryz.func31, Tryz.ntmps31;go_wp2;go_loopg [9] k (fun kq v9 w' => ∃ (aa : Int), v9 = .int .i64 aa ∧ Aside0 (QaI.l0 kq a1 l0 (l0.length : Int) aa = some r) ∧ Aside0 (kq ≤ k) ∧ Drawn0 w w')
 case atStart => exact ⟨(0), (Sh.es), H', ⟨Nat.le_refl _⟩, Sh.dr⟩
 case round =>
  clear H';obtain ⟨aa, rfl, HA, al, ⟨m1, rfl⟩⟩ := hrel;cases gk with
  | zero => exact absurd HA.out (by simp [QaI.l0])
  | succ k1 =>
   have H := HA.out;clear HA;simp only [QaI.l0] at H;by_cases c3 : aa < (l0.length : Int)
   ·rw [if_pos c3] at H
    replace c3 := decide_eq_true c3;by_cases c4 : 0 ≤ aa
    ·rw [if_pos c4] at H
     replace c4 := decide_eq_true c4;by_cases c5 : aa < (l0.length : Int)
     ·rw [if_pos c5] at H
      replace c5 := decide_eq_true c5;by_cases c6 : (rd l0 aa) = a1
      ·rw [if_pos c6] at H
       have c6b0 : ((rd l0 aa) == a1) = true := beq_iff_eq.mpr c6;have c6b1 : ((rd l0 aa) != a1) = false := bne_eq_false_iff_eq.mpr c6;clear c6;obtain rfl := Option.some.inj H;have ac : 0 ≤ (aa : Int) := Sh.od;have ae : aa < (l0.length : Int) := Sh.od;obtain ⟨ai, ah, af⟩ := Kd.at_int ak.out aa ac ae;cases ah;replace ac := eq_true ac;replace ae := eq_true ae;go_wp2;go_ret;exact ⟨Sh.es, Sh.dr⟩
      ·rw [if_neg c6] at H
       have c6b0 : ((rd l0 aa) == a1) = false := beq_eq_false_iff_ne.mpr c6;have c6b1 : ((rd l0 aa) != a1) = true := bne_iff_ne.mpr c6;have H' := am_ H;clear H;have ac : 0 ≤ (aa : Int) := Sh.od;have ae : aa < (l0.length : Int) := Sh.od;obtain ⟨ai, ah, af⟩ := Kd.at_int ak.out aa ac ae;cases ah;replace ac := eq_true ac;replace ae := eq_true ae;go_wp2;go_roundg k1
       case measure => have := al.out; omega
       case rel => exact ⟨(wrap64 (aa + 1)), (Sh.es), H', ⟨by have := al.out; omega⟩, Sh.dr⟩
     ·rw [if_neg c5] at H
      cases H
    ·rw [if_neg c4] at H
     cases H
   ·rw [if_neg c3] at H
    replace c3 := decide_eq_false c3;obtain rfl := Option.some.inj H;go_wp2;go_ret;exact ⟨Sh.es, Sh.dr⟩
def QaD.l0 : Nat → List Int → Int → Int → Option (List Int)
 | 0, _, _, _ => none
 | k + 1, x0, x1, x5 => if x5 < (x0.length : Int) then (if 0 ≤ x5 then (if (rd x0 x5) < x1 then (QaD.l0 k x0 x1 (wrap64 (x5 + 1))) else (if (rd x0 x5) = x1 then (some x0) else ((some (([] : List Int) : List Int)).bind fun aa => (if x5 ≤ (x0.length : Int) then ((some (x0.take (x5 : Int).toNat : List Int)).bind fun ac => (if aa.length + ac.length < 17592186044416 then ((some (aa ++ ac : List Int)).bind fun ae => (if ae.length < 17592186044416 then ((some (ae ++ [x1] : List Int)).bind fun af => ((some (x0.drop (x5 : Int).toNat : List Int)).bind fun ah => (if af.length + ah.length < 17592186044416 then (some (af ++ ah)) else (none)))) else (none))) else (none))) else (none))))) else (none)) else ((some (([] : List Int) : List Int)).bind fun ai => (if 0 ≤ x5 then (if x5 ≤ (x0.length : Int) then ((some (x0.take (x5 : Int).toNat : List Int)).bind fun aj => (if ai.length + aj.length < 17592186044416 then ((some (ai ++ aj : List Int)).bind fun ak => (if ak.length < 17592186044416 then ((some (ak ++ [x1] : List Int)).bind fun al => ((some (x0.drop (x5 : Int).toNat : List Int)).bind fun am => (if al.length + am.length < 17592186044416 then (some (al ++ am)) else (none)))) else (none))) else (none))) else (none)) else (none)))
def QaD.f (k : Nat) (l0 : List Int) (a1 : Int) : Option (List Int) := QaD.l0 k l0 a1 0
theorem QaD.mono_l : ∀ k, (∀ y0 y1 y2, LeO (QaD.l0 k y0 y1 y2) (QaD.l0 (k + 1) y0 y1 y2))
 | 0 => fun _ _ _ r h => by simp [QaD.l0] at h
 | k + 1 => by
  have aa := QaD.mono_l k
  ·intro y0 y1 y2
   unfold QaD.l0
   repeat' with_reducible first | apply aa | exact LeO.refl _ | exact LeO.none _ | apply LeO.ite | refine LeO.bind ?_ fun _ => ?_
theorem QaD.mono : ∀ a0 a1 k, LeO (QaD.f k a0 a1) (QaD.f (k + 1) a0 a1) := by
 intro a0 a1 k;have aa := QaD.mono_l k;unfold QaD.f;repeat' with_reducible first | apply aa | exact LeO.refl _ | exact LeO.none _ | apply LeO.ite | refine LeO.bind ?_ fun _ => ?_
theorem QaD.calls (k : Nat) (ai : Nat → Prop) (aA : Value) (l0 : List Int) (a1 : Int) (r : List Int) (w0 w : World) (hB : Below w0.heap.size w0 w) (dc : Kd.R (Kd.int .i64) 3 w w0.heap.size ai aA l0) (h : QaD.f k l0 a1 = some r) :
  Calls Tryz.prog 39 #[aA, .int .i64 a1] w fun e w' => ∃ cV : Value, e = .returned (cV) ∧ Kd.R (Kd.int .i64) 3 w' w0.heap.size (fun k_ => (ai k_ ∨ w.heap.size ≤ k_)) cV r ∧ Below w0.heap.size w0 w' ∧ Kept w w' (fun k_ => ai k_) := by
 have dd := am_ (show Kd.R (Kd.int .i64) 3 w w0.heap.size (fun k_ => (ai k_ ∨ w.heap.size ≤ k_)) aA l0 from Kd.R_mono dc (fun k_ hk => (.inl hk)));have HK := am_ (Kept.refl w (fun k_ => ai k_));have dA := am_ hB.size;have HB := am_ hB;clear hB;have H := h;clear h;unfold QaD.f at H;have H' := am_ H;clear H;go_enter Tryz.func39, Tryz.ntmps39;go_wp2;go_loopg [5] k (fun kq v5 w' => ∃ (aa : Int), v5 = .int .i64 aa ∧ Aside0 (QaD.l0 kq l0 a1 aa = some r) ∧ Aside0 (kq ≤ k) ∧ Aside0 (Kd.R (Kd.int .i64) 3 w' w0.heap.size (fun k_ => (ai k_ ∨ w.heap.size ≤ k_)) aA l0) ∧ Aside0 (Kept w w' (fun k_ => ai k_)) ∧ Aside0 (Below w0.heap.size w0 w'))
 case atStart => exact ⟨(0), (Sh.es), H', ⟨Nat.le_refl _⟩, ⟨Sh.rl dd.out⟩, ⟨by repeat (first | (with_reducible first | exact HK.out | apply Kept.alloc | apply Kept.drewN | apply Kept.drew) | exact HK.out)⟩, ⟨Sh.bw⟩⟩
 case round =>
  clear H';obtain ⟨aa, rfl, HA, cW, ac, HK, HB⟩ := hrel;cases gk with
  | zero => exact absurd HA.out (by simp [QaD.l0])
  | succ k1 =>
   have H := HA.out;clear HA;simp only [QaD.l0] at H;by_cases c3 : aa < (l0.length : Int)
   ·rw [if_pos c3] at H
    replace c3 := decide_eq_true c3;by_cases c4 : 0 ≤ aa
    ·rw [if_pos c4] at H
     replace c4 := decide_eq_true c4;by_cases c5 : (rd l0 aa) < a1
     ·rw [if_pos c5] at H
      replace c5 := decide_eq_true c5;have H' := am_ H;clear H;obtain ⟨dB, dC, de⟩ := Kd.R_slice ac.out;subst de;have aw : 0 ≤ (aa : Int) := Sh.od;have ax : aa < (l0.length : Int) := Sh.od;obtain ⟨ae, bl, bg⟩ := Kd.at_int (Kd.R_reads' ac.out).2.2 aa aw ax;cases bl;replace aw := eq_true aw;replace ax := eq_true ax;go_wp2;go_roundg k1
      case measure => have := cW.out; omega
      case rel => exact ⟨(wrap64 (aa + 1)), (Sh.es), H', ⟨by have := cW.out; omega⟩, ⟨Sh.rl ac.out⟩, ⟨by repeat (first | (with_reducible first | exact HK.out | apply Kept.alloc | apply Kept.drewN | apply Kept.drew) | exact HK.out)⟩, ⟨Sh.bw⟩⟩
     ·rw [if_neg c5] at H
      replace c5 := decide_eq_false c5;by_cases c7 : (rd l0 aa) = a1
      ·rw [if_pos c7] at H
       have c7b0 : ((rd l0 aa) == a1) = true := beq_iff_eq.mpr c7;have c7b1 : ((rd l0 aa) != a1) = false := bne_eq_false_iff_eq.mpr c7;clear c7;obtain rfl := Option.some.inj H;obtain ⟨dD, dE, df⟩ := Kd.R_slice ac.out;subst df;have aw : 0 ≤ (aa : Int) := Sh.od;have ax : aa < (l0.length : Int) := Sh.od;obtain ⟨ae, bl, bg⟩ := Kd.at_int (Kd.R_reads' ac.out).2.2 aa aw ax;cases bl;replace aw := eq_true aw;replace ax := eq_true ax;have a6 : 0 ≤ (aa : Int) := Sh.od;have a7 : aa < (l0.length : Int) := Sh.od;obtain ⟨bm, bP, bC⟩ := Kd.at_int (Kd.R_reads' ac.out).2.2 aa a6 a7;obtain rfl : ae = bm := (by injection bP);replace a6 := eq_true a6;replace a7 := eq_true a7;go_wp2;go_ret;exact ⟨_, Sh.eR, Sh.rl ac.out, Sh.bw, by repeat (first | (with_reducible first | exact HK.out | apply Kept.alloc | apply Kept.drewN | apply Kept.drew) | exact HK.out)⟩
      ·rw [if_neg c7] at H
       have c7b0 : ((rd l0 aa) == a1) = false := beq_eq_false_iff_ne.mpr c7;have c7b1 : ((rd l0 aa) != a1) = true := bne_iff_ne.mpr c7;obtain ⟨a8, aC⟩ : ∃ y_ : List Int, y_ = (([] : List Int)) := ⟨_, rfl⟩;replace H : (if aa ≤ (l0.length : Int) then ((some (l0.take (aa : Int).toNat : List Int)).bind fun ak => (if a8.length + ak.length < 17592186044416 then ((some (a8 ++ ak : List Int)).bind fun ay => (if ay.length < 17592186044416 then ((some (ay ++ [a1] : List Int)).bind fun al => ((some (l0.drop (aa : Int).toNat : List Int)).bind fun af => (if al.length + af.length < 17592186044416 then (some (al ++ af)) else (none)))) else (none))) else (none))) else (none)) = some r := by first | (rw [aC]; with_reducible exact H) | (have aj := (Option.bind_some _ _).symm.trans H; rw [aC]; with_reducible exact aj) | (have aj := (Option.bind_some _ _).symm.trans H; with_reducible exact aj) | with_reducible exact H | (rw [aC]; exact H) | exact H
       have bH := am_ aC;clear aC;have c9b0 := eq_true (of_decide_eq_true (by first | (with_reducible assumption) | assumption) : 0 ≤ aa);by_cases bY : aa ≤ (l0.length : Int)
       ·rw [if_pos bY] at H
        have c10b0 := eq_true bY;have c10b1 := decide_eq_true bY;clear bY;obtain ⟨ak, aD⟩ : ∃ y_ : List Int, y_ = (l0.take (aa : Int).toNat) := ⟨_, rfl⟩;replace H : (if a8.length + ak.length < 17592186044416 then ((some (a8 ++ ak : List Int)).bind fun ay => (if ay.length < 17592186044416 then ((some (ay ++ [a1] : List Int)).bind fun al => ((some (l0.drop (aa : Int).toNat : List Int)).bind fun af => (if al.length + af.length < 17592186044416 then (some (al ++ af)) else (none)))) else (none))) else (none)) = some r := by first | (rw [aD]; with_reducible exact H) | (have aj := (Option.bind_some _ _).symm.trans H; rw [aD]; with_reducible exact aj) | (have aj := (Option.bind_some _ _).symm.trans H; with_reducible exact aj) | with_reducible exact H | (rw [aD]; exact H) | exact H
        have aE := am_ aD;clear aD;by_cases cr : a8.length + ak.length < 17592186044416
        ·rw [if_pos cr] at H
         have bZ := am_ cr;clear cr;obtain ⟨ay, aG⟩ : ∃ y_ : List Int, y_ = (a8 ++ ak) := ⟨_, rfl⟩;replace H : (if ay.length < 17592186044416 then ((some (ay ++ [a1] : List Int)).bind fun al => ((some (l0.drop (aa : Int).toNat : List Int)).bind fun af => (if al.length + af.length < 17592186044416 then (some (al ++ af)) else (none)))) else (none)) = some r := by first | (rw [aG]; with_reducible exact H) | (have aj := (Option.bind_some _ _).symm.trans H; rw [aG]; with_reducible exact aj) | (have aj := (Option.bind_some _ _).symm.trans H; with_reducible exact aj) | with_reducible exact H | (rw [aG]; exact H) | exact H
         have b0 := am_ aG;clear aG;by_cases ct : ay.length < 17592186044416
         ·rw [if_pos ct] at H
          have b1 := am_ ct;clear ct;obtain ⟨al, aH⟩ : ∃ y_ : List Int, y_ = (ay ++ [a1]) := ⟨_, rfl⟩;replace H : ((some (l0.drop (aa : Int).toNat : List Int)).bind fun af => (if al.length + af.length < 17592186044416 then (some (al ++ af)) else (none))) = some r := by first | (rw [aH]; with_reducible exact H) | (have aj := (Option.bind_some _ _).symm.trans H; rw [aH]; with_reducible exact aj) | (have aj := (Option.bind_some _ _).symm.trans H; with_reducible exact aj) | with_reducible exact H | (rw [aH]; exact H) | exact H
          have b6 := am_ aH;clear aH;have c13b0 := eq_true (of_decide_eq_true (by first | (with_reducible assumption) | assumption) : 0 ≤ aa);have c14b0 := eq_true (of_decide_eq_true (by first | (with_reducible assumption) | assumption) : aa ≤ (l0.length : Int));obtain ⟨af, aI⟩ : ∃ y_ : List Int, y_ = (l0.drop (aa : Int).toNat) := ⟨_, rfl⟩;replace H : (if al.length + af.length < 17592186044416 then (some (al ++ af)) else (none)) = some r := by first | (rw [aI]; with_reducible exact H) | (have aj := (Option.bind_some _ _).symm.trans H; rw [aI]; with_reducible exact aj) | (have aj := (Option.bind_some _ _).symm.trans H; with_reducible exact aj) | with_reducible exact H | (rw [aI]; exact H) | exact H
          have bn := am_ aI;clear aI;by_cases cu : al.length + af.length < 17592186044416
          ·rw [if_pos cu] at H
           have b7 := am_ cu;clear cu;obtain ⟨cz, aJ⟩ : ∃ y_ : List Int, y_ = (al ++ af) := ⟨_, rfl⟩;replace H : (some cz) = some r := by first | (rw [aJ]; with_reducible exact H) | (have aj := (Option.bind_some _ _).symm.trans H; rw [aJ]; with_reducible exact aj) | (have aj := (Option.bind_some _ _).symm.trans H; with_reducible exact aj) | with_reducible exact H | (rw [aJ]; exact H) | exact H
           have b8 := am_ aJ;clear aJ;obtain rfl := Option.some.inj H;obtain ⟨dg, ar, cA⟩ := Kd.R_slice ac.out;subst cA;have aw : 0 ≤ (aa : Int) := Sh.od;have ax : aa < (l0.length : Int) := Sh.od;obtain ⟨ae, bl, bg⟩ := Kd.at_int (Kd.R_reads' ac.out).2.2 aa aw ax;cases bl;replace aw := eq_true aw;replace ax := eq_true ax;have a6 : 0 ≤ (aa : Int) := Sh.od;have a7 : aa < (l0.length : Int) := Sh.od;obtain ⟨bm, bP, bC⟩ := Kd.at_int (Kd.R_reads' ac.out).2.2 aa a6 a7;obtain rfl : ae = bm := (by injection bP);replace a6 := eq_true a6;replace a7 := eq_true a7;go_wp2_with (first | ((with_reducible refine Sh.d 34 ?_); refine Kd.R_lit (Kd.int .i64) _ 3 ?hg (N := 34) ?hd (xs := ([] : List Int)) (inner := []) (ok := fun _ => True) (okp := fun _ => True) ?hr ?hp (fun _ hk => hk) trivial (Below.refl _ _) (Nat.le_refl _) (by simp) ?_; (case hd => rfl); (case hg => rfl); (case hr => first | (go_simp; done) | (go_simp; rfl)); (case hp => exact (Reps.none _ _)); intro cC dF bj hb hg_ hnew_; clear hg_ hnew_; (first | rw [← bH.out] at bj | (simp only [Int.reduceToNat] at bj; rw [← bH.out] at bj)); have bo := am_ (Kd.R_lower (Kd.R_new' (Kd.R_newM (M := fun k_ => (ai k_ ∨ w.heap.size ≤ k_)) bj (by first | exact HK.out.1 | exact (show Kept w _ (fun k_ => ai k_) from by repeat (first | (with_reducible first | exact HK.out | apply Kept.alloc | apply Kept.drewN | apply Kept.drew) | exact HK.out)).1) (fun k_ h_ => .inr h_)) (Kd.R_lt (Sh.rl ac.out))) (below_size Sh.bw)); replace ac := am_ (Kd.R_elder' (Sh.rl ac.out) (Kd.R_base bj) hb); replace HK := am_ (Kept.below (S := (fun k_ => ai k_)) (by repeat (first | (with_reducible first | exact HK.out | apply Kept.alloc | apply Kept.drewN | apply Kept.drew) | exact HK.out)) hb); replace HB := Sh.hb hb; clear hb bj; have cD : (aa : Int) ≤ ((l0.length : Int) : Int) := Sh.od; obtain ⟨dh, bI, _, b9, _⟩ := info_parts info3; have hroom19 : l0.length ≤ ar := (Kd.R_reads' ac.out).2.1; have ca : Kd.C (Kd.int .i64) _ (some ae) l0.length l0 := (Kd.R_reads' ac.out).2.2; have hcut19 := cut_to (P := Tryz.prog) 27 3 .i64 Tryz.underlying27 bI (some ae) l0.length ar aa (of_decide_eq_true (by first | (with_reducible assumption) | assumption)) cD hroom19; have bQ := Kd.C_take (m := (aa : Int).toNat) ca (by omega); have bR : ak.length = (aa : Int).toNat := (by rw [aE.out, List.length_take]; omega); rw [← aE.out] at bQ; rw [← bR] at hcut19; have ap := am_ bQ; have cX := am_ (show ak.length ≤ ar from by omega); clear bQ ca hroom19 bI b9; have di := am_ bR; clear bR; have bS := am_ (show (aa : Int).toNat ≤ l0.length from by omega); replace cD := eq_true cD) | ((with_reducible refine gate_builtin (b := .append) (xs := #[.tmp 34, .tmp 37]) rfl ?_); at_builtin; refine Kd.R_append_rows (Kd.int .i64) (w0 := w0) w0.heap.size rfl (.tmp 34) (.tmp 37) 27 3 (.int .i64 0) 8 rfl Tryz.underlying27 info3 rfl (by decide) (by omega) cC a8 ak _ _ _ (fun k_ => (ai k_ ∨ w.heap.size ≤ k_) ∧ some k_ ≠ (.slice (some ae) l0.length ar : Value).ownBlock) (fun _ => False) rfl rfl ?aO ?aR (fun _ _ h => h) (fun _ h => h.elim) ?aF ?aB ?aS ?aL ?_; (case aR => repeat (first | exact (by repeat (first | (with_reducible exact ap.out) | (with_reducible first | refine Kd.C_alloc ?_ _ | refine Kd.C_drewN ?_ _ | refine Kd.C_drew ?_) | exact ap.out)) | (with_reducible first | refine Kd.C_alloc ?_ _ | refine Kd.C_drewN ?_ _ | refine Kd.C_drew ?_))); (case aB => exact Sh.bw); (case aF => exact (fun k_ hk => ⟨(.inr (Nat.le_trans (by first | exact HK.out.1 | exact (show Kept w _ (fun k_ => ai k_) from by repeat (first | (with_reducible first | exact HK.out | apply Kept.alloc | apply Kept.drewN | apply Kept.drew) | exact HK.out)).1) hk)), Kd.fresh' (Kd.R_lt (Sh.rl ac.out)) k_ hk⟩)); (case aO => exact (Sh.rl (Kd.R_mono bo.out (fun _ h => ⟨h.1.1, h.2⟩)))); (case aS => exact (below_size Sh.bw)); (case aL => have := bZ.out; omega); intro cE dj ho hb hg hat; rw [← b0.out] at ho; have aK := am_ (Kd.R_after (ok := (fun k_ => (ai k_ ∨ w.heap.size ≤ k_))) (Sh.rl ac.out) hg hat); have aM := am_ hb; have aN := am_ (Kept.of_grown (S := (fun k_ => ai k_)) hg (by repeat (first | (with_reducible first | exact HK.out | apply Kept.alloc | apply Kept.drewN | apply Kept.drew) | exact HK.out)) (fun k_ e_ => (bo.out.1 k_ e_).1.1)); have aQ := am_ ((show Kd.C (Kd.int .i64) dj (some ae) ak.length ak from by rw [aE.out]; exact Kd.C_take (m := (aa : Int).toNat) ((Kd.R_reads' (Kd.R_after (ok := (fun k_ => (ai k_ ∨ w.heap.size ≤ k_))) (Sh.rl ac.out) hg hat)).2.2) bS.out)); have aT := am_ ho; clear ac; clear HB; clear HK; clear ap; clear bo; have ac := aK; have HB := aM; have HK := aN; have ap := aQ; have bp := aT; clear aK aM aN aQ aT; clear ho hb hg hat) | ((with_reducible refine gate_builtin (b := .append) (xs := #[.tmp 39, .tmp 41]) rfl ?_); at_builtin; refine Kd.R_append (Kd.int .i64) (w0 := w0) w0.heap.size rfl (.tmp 39) (.tmp 41) 27 3 (.int .i64 0) 8 rfl Tryz.underlying27 info3 rfl (by decide) (by omega) cE ay a1 [.int .i64 a1] (fun k_ => (ai k_ ∨ w.heap.size ≤ k_) ∧ some k_ ≠ (.slice (some ae) l0.length ar : Value).ownBlock) (fun _ => False) rfl rfl ?aP (fun _ hk => hk.elim) ?aF ?aO ?aB ?aS ?aL ?_; (case aP => exact rfl); (case aB => exact Sh.bw); (case aF => exact (fun k_ hk => ⟨(.inr (Nat.le_trans (by first | exact HK.out.1 | exact (show Kept w _ (fun k_ => ai k_) from by repeat (first | (with_reducible first | exact HK.out | apply Kept.alloc | apply Kept.drewN | apply Kept.drew) | exact HK.out)).1) hk)), Kd.fresh' (Kd.R_lt (Sh.rl ac.out)) k_ hk⟩)); (case aO => exact (Sh.rl bp.out)); (case aS => exact (below_size Sh.bw)); (case aL => have := b1.out; omega); intro cF dk ho hb hg hat; rw [← b6.out] at ho; have aK := am_ (Kd.R_after (ok := (fun k_ => (ai k_ ∨ w.heap.size ≤ k_))) (Sh.rl ac.out) hg hat); have aM := am_ hb; have aN := am_ (Kept.of_grown (S := (fun k_ => ai k_)) hg (by repeat (first | (with_reducible first | exact HK.out | apply Kept.alloc | apply Kept.drewN | apply Kept.drew) | exact HK.out)) (fun k_ e_ => (bp.out.1 k_ e_).1)); have aQ := am_ ((show Kd.C (Kd.int .i64) dk (some ae) ak.length ak from by rw [aE.out]; exact Kd.C_take (m := (aa : Int).toNat) ((Kd.R_reads' (Kd.R_after (ok := (fun k_ => (ai k_ ∨ w.heap.size ≤ k_))) (Sh.rl ac.out) hg hat)).2.2) bS.out)); have aT := am_ ho; clear ac; clear HB; clear HK; clear ap; clear bp; have ac := aK; have HB := aM; have HK := aN; have ap := aQ; have bq := aT; clear aK aM aN aQ aT; clear ho hb hg hat; have cG : (aa : Int) ≤ ((l0.length : Int) : Int) := Sh.od; obtain ⟨dl, bJ, _, bK, _⟩ := info_parts info3; have hroom22 : l0.length ≤ ar := (Kd.R_reads' ac.out).2.1; have cb : Kd.C (Kd.int .i64) _ (some ae) l0.length l0 := (Kd.R_reads' ac.out).2.2; have cH : (0 : Int) ≤ (aa : Int) := Sh.od; have hcut22 := cut_from (P := Tryz.prog) 27 3 .i64 Tryz.underlying27 bJ 1 bK (some ae) l0.length ar aa cH cG; have br := Kd.C_drop (m := (aa : Int).toNat) (c := ar) cb (by omega) hroom22; obtain ⟨cY, bD⟩ : ∃ A1, A1 = (if ar = (aa : Int).toNat then (some ae) else ((some ae) : Option Addr).map (·.add ((aa : Int).toNat * 1))) := ⟨_, rfl⟩; obtain ⟨dm, bT⟩ : ∃ c1, c1 = ar - (aa : Int).toNat := ⟨_, rfl⟩; have bE : af.length = l0.length - (aa : Int).toNat := (by rw [bn.out, List.length_drop] <;> omega); rw [show (l0).drop (aa : Int).toNat = af from bn.out.symm] at br; replace br : Kd.C (Kd.int .i64) _ cY af.length af := (by rw [bD]; exact br); rw [← bE, ← bD, ← bT] at hcut22; have bh := am_ br; have cZ := am_ (show af.length ≤ dm from by rw [bE, bT]; exact Nat.sub_le_sub_right hroom22 _); clear br cb hroom22 bJ bK bT; have dn := am_ bE; have cI := am_ bD; clear bE bD; have cJ := am_ (show (aa : Int).toNat ≤ l0.length from by omega); replace cG := eq_true cG) | ((with_reducible refine gate_builtin (b := .append) (xs := #[.tmp 43, .tmp 46]) rfl ?_); at_builtin; refine Kd.R_append_rows (Kd.int .i64) (w0 := w0) w0.heap.size rfl (.tmp 43) (.tmp 46) 27 3 (.int .i64 0) 8 rfl Tryz.underlying27 info3 rfl (by decide) (by omega) cF al af _ _ _ (fun k_ => (ai k_ ∨ w.heap.size ≤ k_) ∧ some k_ ≠ (.slice (some ae) l0.length ar : Value).ownBlock) (fun _ => False) rfl rfl ?aO ?aR (fun _ _ h => h) (fun _ h => h.elim) ?aF ?aB ?aS ?aL ?_; (case aR => repeat (first | exact (by repeat (first | (with_reducible exact bh.out) | (with_reducible first | refine Kd.C_alloc ?_ _ | refine Kd.C_drewN ?_ _ | refine Kd.C_drew ?_) | exact bh.out)) | (with_reducible first | refine Kd.C_alloc ?_ _ | refine Kd.C_drewN ?_ _ | refine Kd.C_drew ?_))); (case aB => exact Sh.bw); (case aF => exact (fun k_ hk => ⟨(.inr (Nat.le_trans (by first | exact HK.out.1 | exact (show Kept w _ (fun k_ => ai k_) from by repeat (first | (with_reducible first | exact HK.out | apply Kept.alloc | apply Kept.drewN | apply Kept.drew) | exact HK.out)).1) hk)), Kd.fresh' (Kd.R_lt (Sh.rl ac.out)) k_ hk⟩)); (case aO => exact (Sh.rl bq.out)); (case aS => exact (below_size Sh.bw)); (case aL => have := b7.out; omega); intro dp c6 ho hb hg hat; rw [← b8.out] at ho; have aK := am_ (Kd.R_after (ok := (fun k_ => (ai k_ ∨ w.heap.size ≤ k_))) (Sh.rl ac.out) hg hat); have aM := am_ hb; have aN := am_ (Kept.of_grown (S := (fun k_ => ai k_)) hg (by repeat (first | (with_reducible first | exact HK.out | apply Kept.alloc | apply Kept.drewN | apply Kept.drew) | exact HK.out)) (fun k_ e_ => (bq.out.1 k_ e_).1)); have aQ := am_ ((show Kd.C (Kd.int .i64) c6 (some ae) ak.length ak from by rw [aE.out]; exact Kd.C_take (m := (aa : Int).toNat) ((Kd.R_reads' (Kd.R_after (ok := (fun k_ => (ai k_ ∨ w.heap.size ≤ k_))) (Sh.rl ac.out) hg hat)).2.2) bS.out)); have aT := am_ ((show Kd.C (Kd.int .i64) c6 cY af.length af from by rw [bn.out, cI.out]; exact Kd.C_drop (m := (aa : Int).toNat) (c := ar) ((Kd.R_reads' (Kd.R_after (ok := (fun k_ => (ai k_ ∨ w.heap.size ≤ k_))) (Sh.rl ac.out) hg hat)).2.2) cJ.out ((Kd.R_reads' (Kd.R_after (ok := (fun k_ => (ai k_ ∨ w.heap.size ≤ k_))) (Sh.rl ac.out) hg hat)).2.1))); have cd := am_ ho; clear ac; clear HB; clear HK; clear ap; clear bh; clear bq; have ac := aK; have HB := aM; have HK := aN; have ap := aQ; have bh := aT; have ce := cd; clear aK aM aN aQ aT cd; clear ho hb hg hat))
           go_ret;exact ⟨_, Sh.eR, Sh.rl (Kd.R_mono ce.out (fun _ hk => hk.1)), Sh.bw, by repeat (first | (with_reducible first | exact HK.out | apply Kept.alloc | apply Kept.drewN | apply Kept.drew) | exact HK.out)⟩
          ·rw [if_neg cu] at H
           cases H
         ·rw [if_neg ct] at H
          cases H
        ·rw [if_neg cr] at H
         cases H
       ·rw [if_neg bY] at H
        cases H
    ·rw [if_neg c4] at H
     cases H
   ·rw [if_neg c3] at H
    replace c3 := decide_eq_false c3;obtain ⟨bf, aU⟩ : ∃ y_ : List Int, y_ = (([] : List Int)) := ⟨_, rfl⟩;replace H : (if 0 ≤ aa then (if aa ≤ (l0.length : Int) then ((some (l0.take (aa : Int).toNat : List Int)).bind fun am => (if bf.length + am.length < 17592186044416 then ((some (bf ++ am : List Int)).bind fun az => (if az.length < 17592186044416 then ((some (az ++ [a1] : List Int)).bind fun ao => ((some (l0.drop (aa : Int).toNat : List Int)).bind fun ah => (if ao.length + ah.length < 17592186044416 then (some (ao ++ ah)) else (none)))) else (none))) else (none))) else (none)) else (none)) = some r := by first | (rw [aU]; with_reducible exact H) | (have aj := (Option.bind_some _ _).symm.trans H; rw [aU]; with_reducible exact aj) | (have aj := (Option.bind_some _ _).symm.trans H; with_reducible exact aj) | with_reducible exact H | (rw [aU]; exact H) | exact H
    have bL := am_ aU;clear aU;by_cases cf : 0 ≤ aa
    ·rw [if_pos cf] at H
     have c24b0 := eq_true cf;have c24b1 := decide_eq_true cf;clear cf;by_cases cg : aa ≤ (l0.length : Int)
     ·rw [if_pos cg] at H
      have c25b0 := eq_true cg;have c25b1 := decide_eq_true cg;clear cg;obtain ⟨am, aV⟩ : ∃ y_ : List Int, y_ = (l0.take (aa : Int).toNat) := ⟨_, rfl⟩;replace H : (if bf.length + am.length < 17592186044416 then ((some (bf ++ am : List Int)).bind fun az => (if az.length < 17592186044416 then ((some (az ++ [a1] : List Int)).bind fun ao => ((some (l0.drop (aa : Int).toNat : List Int)).bind fun ah => (if ao.length + ah.length < 17592186044416 then (some (ao ++ ah)) else (none)))) else (none))) else (none)) = some r := by first | (rw [aV]; with_reducible exact H) | (have aj := (Option.bind_some _ _).symm.trans H; rw [aV]; with_reducible exact aj) | (have aj := (Option.bind_some _ _).symm.trans H; with_reducible exact aj) | with_reducible exact H | (rw [aV]; exact H) | exact H
      have aW := am_ aV;clear aV;by_cases cv : bf.length + am.length < 17592186044416
      ·rw [if_pos cv] at H
       have ch := am_ cv;clear cv;obtain ⟨az, aX⟩ : ∃ y_ : List Int, y_ = (bf ++ am) := ⟨_, rfl⟩;replace H : (if az.length < 17592186044416 then ((some (az ++ [a1] : List Int)).bind fun ao => ((some (l0.drop (aa : Int).toNat : List Int)).bind fun ah => (if ao.length + ah.length < 17592186044416 then (some (ao ++ ah)) else (none)))) else (none)) = some r := by first | (rw [aX]; with_reducible exact H) | (have aj := (Option.bind_some _ _).symm.trans H; rw [aX]; with_reducible exact aj) | (have aj := (Option.bind_some _ _).symm.trans H; with_reducible exact aj) | with_reducible exact H | (rw [aX]; exact H) | exact H
       have ci := am_ aX;clear aX;by_cases cx : az.length < 17592186044416
       ·rw [if_pos cx] at H
        have cj := am_ cx;clear cx;obtain ⟨ao, aY⟩ : ∃ y_ : List Int, y_ = (az ++ [a1]) := ⟨_, rfl⟩;replace H : ((some (l0.drop (aa : Int).toNat : List Int)).bind fun ah => (if ao.length + ah.length < 17592186044416 then (some (ao ++ ah)) else (none))) = some r := by first | (rw [aY]; with_reducible exact H) | (have aj := (Option.bind_some _ _).symm.trans H; rw [aY]; with_reducible exact aj) | (have aj := (Option.bind_some _ _).symm.trans H; with_reducible exact aj) | with_reducible exact H | (rw [aY]; exact H) | exact H
        have ck := am_ aY;clear aY;have c28b0 := eq_true (of_decide_eq_true (by first | (with_reducible assumption) | assumption) : 0 ≤ aa);have c29b0 := eq_true (of_decide_eq_true (by first | (with_reducible assumption) | assumption) : aa ≤ (l0.length : Int));obtain ⟨ah, aZ⟩ : ∃ y_ : List Int, y_ = (l0.drop (aa : Int).toNat) := ⟨_, rfl⟩;replace H : (if ao.length + ah.length < 17592186044416 then (some (ao ++ ah)) else (none)) = some r := by first | (rw [aZ]; with_reducible exact H) | (have aj := (Option.bind_some _ _).symm.trans H; rw [aZ]; with_reducible exact aj) | (have aj := (Option.bind_some _ _).symm.trans H; with_reducible exact aj) | with_reducible exact H | (rw [aZ]; exact H) | exact H
        have bs := am_ aZ;clear aZ;by_cases cy : ao.length + ah.length < 17592186044416
        ·rw [if_pos cy] at H
         have cl := am_ cy;clear cy;obtain ⟨cK, a2⟩ : ∃ y_ : List Int, y_ = (ao ++ ah) := ⟨_, rfl⟩;replace H : (some cK) = some r := by first | (rw [a2]; with_reducible exact H) | (have aj := (Option.bind_some _ _).symm.trans H; rw [a2]; with_reducible exact aj) | (have aj := (Option.bind_some _ _).symm.trans H; with_reducible exact aj) | with_reducible exact H | (rw [a2]; exact H) | exact H
         have cm := am_ a2;clear a2;obtain rfl := Option.some.inj H;obtain ⟨au, av, cL⟩ := Kd.R_slice ac.out;subst cL;go_wp2_with (first | ((with_reducible refine Sh.d 34 ?_); refine Kd.R_lit (Kd.int .i64) _ 3 ?hg (N := 34) ?hd (xs := ([] : List Int)) (inner := []) (ok := fun _ => True) (okp := fun _ => True) ?hr ?hp (fun _ hk => hk) trivial (Below.refl _ _) (Nat.le_refl _) (by simp) ?_; (case hd => rfl); (case hg => rfl); (case hr => first | (go_simp; done) | (go_simp; rfl)); (case hp => exact (Reps.none _ _)); intro cM dG bk hb hg_ hnew_; clear hg_ hnew_; (first | rw [← bL.out] at bk | (simp only [Int.reduceToNat] at bk; rw [← bL.out] at bk)); have bu := am_ (Kd.R_lower (Kd.R_new' (Kd.R_newM (M := fun k_ => (ai k_ ∨ w.heap.size ≤ k_)) bk (by first | exact HK.out.1 | exact (show Kept w _ (fun k_ => ai k_) from by repeat (first | (with_reducible first | exact HK.out | apply Kept.alloc | apply Kept.drewN | apply Kept.drew) | exact HK.out)).1) (fun k_ h_ => .inr h_)) (Kd.R_lt (Sh.rl ac.out))) (below_size Sh.bw)); replace ac := am_ (Kd.R_elder' (Sh.rl ac.out) (Kd.R_base bk) hb); replace HK := am_ (Kept.below (S := (fun k_ => ai k_)) (by repeat (first | (with_reducible first | exact HK.out | apply Kept.alloc | apply Kept.drewN | apply Kept.drew) | exact HK.out)) hb); replace HB := Sh.hb hb; clear hb bk; have cN : (aa : Int) ≤ ((l0.length : Int) : Int) := Sh.od; obtain ⟨dq, bM, _, cn, _⟩ := info_parts info3; have hroom34 : l0.length ≤ av := (Kd.R_reads' ac.out).2.1; have co : Kd.C (Kd.int .i64) _ au l0.length l0 := (Kd.R_reads' ac.out).2.2; have hcut34 := cut_to (P := Tryz.prog) 27 3 .i64 Tryz.underlying27 bM au l0.length av aa (of_decide_eq_true (by first | (with_reducible assumption) | assumption)) cN hroom34; have bU := Kd.C_take (m := (aa : Int).toNat) co (by omega); have bV : am.length = (aa : Int).toNat := (by rw [aW.out, List.length_take]; omega); rw [← aW.out] at bU; rw [← bV] at hcut34; have aq := am_ bU; have c8 := am_ (show am.length ≤ av from by omega); clear bU co hroom34 bM cn; have dt := am_ bV; clear bV; have bW := am_ (show (aa : Int).toNat ≤ l0.length from by omega); replace cN := eq_true cN) | ((with_reducible refine gate_builtin (b := .append) (xs := #[.tmp 34, .tmp 37]) rfl ?_); at_builtin; refine Kd.R_append_rows (Kd.int .i64) (w0 := w0) w0.heap.size rfl (.tmp 34) (.tmp 37) 27 3 (.int .i64 0) 8 rfl Tryz.underlying27 info3 rfl (by decide) (by omega) cM bf am _ _ _ (fun k_ => (ai k_ ∨ w.heap.size ≤ k_) ∧ some k_ ≠ (.slice au l0.length av : Value).ownBlock) (fun _ => False) rfl rfl ?aO ?aR (fun _ _ h => h) (fun _ h => h.elim) ?aF ?aB ?aS ?aL ?_; (case aR => repeat (first | exact (by repeat (first | (with_reducible exact aq.out) | (with_reducible first | refine Kd.C_alloc ?_ _ | refine Kd.C_drewN ?_ _ | refine Kd.C_drew ?_) | exact aq.out)) | (with_reducible first | refine Kd.C_alloc ?_ _ | refine Kd.C_drewN ?_ _ | refine Kd.C_drew ?_))); (case aB => exact Sh.bw); (case aF => exact (fun k_ hk => ⟨(.inr (Nat.le_trans (by first | exact HK.out.1 | exact (show Kept w _ (fun k_ => ai k_) from by repeat (first | (with_reducible first | exact HK.out | apply Kept.alloc | apply Kept.drewN | apply Kept.drew) | exact HK.out)).1) hk)), Kd.fresh' (Kd.R_lt (Sh.rl ac.out)) k_ hk⟩)); (case aO => exact (Sh.rl (Kd.R_mono bu.out (fun _ h => ⟨h.1.1, h.2⟩)))); (case aS => exact (below_size Sh.bw)); (case aL => have := ch.out; omega); intro cO du ho hb hg hat; rw [← ci.out] at ho; have aK := am_ (Kd.R_after (ok := (fun k_ => (ai k_ ∨ w.heap.size ≤ k_))) (Sh.rl ac.out) hg hat); have aM := am_ hb; have aN := am_ (Kept.of_grown (S := (fun k_ => ai k_)) hg (by repeat (first | (with_reducible first | exact HK.out | apply Kept.alloc | apply Kept.drewN | apply Kept.drew) | exact HK.out)) (fun k_ e_ => (bu.out.1 k_ e_).1.1)); have aQ := am_ ((show Kd.C (Kd.int .i64) du au am.length am from by rw [aW.out]; exact Kd.C_take (m := (aa : Int).toNat) ((Kd.R_reads' (Kd.R_after (ok := (fun k_ => (ai k_ ∨ w.heap.size ≤ k_))) (Sh.rl ac.out) hg hat)).2.2) bW.out)); have aT := am_ ho; clear ac; clear HB; clear HK; clear aq; clear bu; have ac := aK; have HB := aM; have HK := aN; have aq := aQ; have bv := aT; clear aK aM aN aQ aT; clear ho hb hg hat) | ((with_reducible refine gate_builtin (b := .append) (xs := #[.tmp 39, .tmp 41]) rfl ?_); at_builtin; refine Kd.R_append (Kd.int .i64) (w0 := w0) w0.heap.size rfl (.tmp 39) (.tmp 41) 27 3 (.int .i64 0) 8 rfl Tryz.underlying27 info3 rfl (by decide) (by omega) cO az a1 [.int .i64 a1] (fun k_ => (ai k_ ∨ w.heap.size ≤ k_) ∧ some k_ ≠ (.slice au l0.length av : Value).ownBlock) (fun _ => False) rfl rfl ?aP (fun _ hk => hk.elim) ?aF ?aO ?aB ?aS ?aL ?_; (case aP => exact rfl); (case aB => exact Sh.bw); (case aF => exact (fun k_ hk => ⟨(.inr (Nat.le_trans (by first | exact HK.out.1 | exact (show Kept w _ (fun k_ => ai k_) from by repeat (first | (with_reducible first | exact HK.out | apply Kept.alloc | apply Kept.drewN | apply Kept.drew) | exact HK.out)).1) hk)), Kd.fresh' (Kd.R_lt (Sh.rl ac.out)) k_ hk⟩)); (case aO => exact (Sh.rl bv.out)); (case aS => exact (below_size Sh.bw)); (case aL => have := cj.out; omega); intro cP dv ho hb hg hat; rw [← ck.out] at ho; have aK := am_ (Kd.R_after (ok := (fun k_ => (ai k_ ∨ w.heap.size ≤ k_))) (Sh.rl ac.out) hg hat); have aM := am_ hb; have aN := am_ (Kept.of_grown (S := (fun k_ => ai k_)) hg (by repeat (first | (with_reducible first | exact HK.out | apply Kept.alloc | apply Kept.drewN | apply Kept.drew) | exact HK.out)) (fun k_ e_ => (bv.out.1 k_ e_).1)); have aQ := am_ ((show Kd.C (Kd.int .i64) dv au am.length am from by rw [aW.out]; exact Kd.C_take (m := (aa : Int).toNat) ((Kd.R_reads' (Kd.R_after (ok := (fun k_ => (ai k_ ∨ w.heap.size ≤ k_))) (Sh.rl ac.out) hg hat)).2.2) bW.out)); have aT := am_ ho; clear ac; clear HB; clear HK; clear aq; clear bv; have ac := aK; have HB := aM; have HK := aN; have aq := aQ; have bA := aT; clear aK aM aN aQ aT; clear ho hb hg hat; have cQ : (aa : Int) ≤ ((l0.length : Int) : Int) := Sh.od; obtain ⟨dw, bN, _, bO, _⟩ := info_parts info3; have hroom37 : l0.length ≤ av := (Kd.R_reads' ac.out).2.1; have cp : Kd.C (Kd.int .i64) _ au l0.length l0 := (Kd.R_reads' ac.out).2.2; have cS : (0 : Int) ≤ (aa : Int) := Sh.od; have hcut37 := cut_from (P := Tryz.prog) 27 3 .i64 Tryz.underlying27 bN 1 bO au l0.length av aa cS cQ; have bB := Kd.C_drop (m := (aa : Int).toNat) (c := av) cp (by omega) hroom37; obtain ⟨c9, bF⟩ : ∃ A1, A1 = (if av = (aa : Int).toNat then au else (au : Option Addr).map (·.add ((aa : Int).toNat * 1))) := ⟨_, rfl⟩; obtain ⟨dx, bX⟩ : ∃ c1, c1 = av - (aa : Int).toNat := ⟨_, rfl⟩; have bG : ah.length = l0.length - (aa : Int).toNat := (by rw [bs.out, List.length_drop] <;> omega); rw [show (l0).drop (aa : Int).toNat = ah from bs.out.symm] at bB; replace bB : Kd.C (Kd.int .i64) _ c9 ah.length ah := (by rw [bF]; exact bB); rw [← bG, ← bF, ← bX] at hcut37; have bi := am_ bB; have da := am_ (show ah.length ≤ dx from by rw [bG, bX]; exact Nat.sub_le_sub_right hroom37 _); clear bB cp hroom37 bN bO bX; have dy := am_ bG; have cT := am_ bF; clear bG bF; have cU := am_ (show (aa : Int).toNat ≤ l0.length from by omega); replace cQ := eq_true cQ) | ((with_reducible refine gate_builtin (b := .append) (xs := #[.tmp 43, .tmp 46]) rfl ?_); at_builtin; refine Kd.R_append_rows (Kd.int .i64) (w0 := w0) w0.heap.size rfl (.tmp 43) (.tmp 46) 27 3 (.int .i64 0) 8 rfl Tryz.underlying27 info3 rfl (by decide) (by omega) cP ao ah _ _ _ (fun k_ => (ai k_ ∨ w.heap.size ≤ k_) ∧ some k_ ≠ (.slice au l0.length av : Value).ownBlock) (fun _ => False) rfl rfl ?aO ?aR (fun _ _ h => h) (fun _ h => h.elim) ?aF ?aB ?aS ?aL ?_; (case aR => repeat (first | exact (by repeat (first | (with_reducible exact bi.out) | (with_reducible first | refine Kd.C_alloc ?_ _ | refine Kd.C_drewN ?_ _ | refine Kd.C_drew ?_) | exact bi.out)) | (with_reducible first | refine Kd.C_alloc ?_ _ | refine Kd.C_drewN ?_ _ | refine Kd.C_drew ?_))); (case aB => exact Sh.bw); (case aF => exact (fun k_ hk => ⟨(.inr (Nat.le_trans (by first | exact HK.out.1 | exact (show Kept w _ (fun k_ => ai k_) from by repeat (first | (with_reducible first | exact HK.out | apply Kept.alloc | apply Kept.drewN | apply Kept.drew) | exact HK.out)).1) hk)), Kd.fresh' (Kd.R_lt (Sh.rl ac.out)) k_ hk⟩)); (case aO => exact (Sh.rl bA.out)); (case aS => exact (below_size Sh.bw)); (case aL => have := cl.out; omega); intro dz db ho hb hg hat; rw [← cm.out] at ho; have aK := am_ (Kd.R_after (ok := (fun k_ => (ai k_ ∨ w.heap.size ≤ k_))) (Sh.rl ac.out) hg hat); have aM := am_ hb; have aN := am_ (Kept.of_grown (S := (fun k_ => ai k_)) hg (by repeat (first | (with_reducible first | exact HK.out | apply Kept.alloc | apply Kept.drewN | apply Kept.drew) | exact HK.out)) (fun k_ e_ => (bA.out.1 k_ e_).1)); have aQ := am_ ((show Kd.C (Kd.int .i64) db au am.length am from by rw [aW.out]; exact Kd.C_take (m := (aa : Int).toNat) ((Kd.R_reads' (Kd.R_after (ok := (fun k_ => (ai k_ ∨ w.heap.size ≤ k_))) (Sh.rl ac.out) hg hat)).2.2) bW.out)); have aT := am_ ((show Kd.C (Kd.int .i64) db c9 ah.length ah from by rw [bs.out, cT.out]; exact Kd.C_drop (m := (aa : Int).toNat) (c := av) ((Kd.R_reads' (Kd.R_after (ok := (fun k_ => (ai k_ ∨ w.heap.size ≤ k_))) (Sh.rl ac.out) hg hat)).2.2) cU.out ((Kd.R_reads' (Kd.R_after (ok := (fun k_ => (ai k_ ∨ w.heap.size ≤ k_))) (Sh.rl ac.out) hg hat)).2.1))); have cd := am_ ho; clear ac; clear HB; clear HK; clear aq; clear bi; clear bA; have ac := aK; have HB := aM; have HK := aN; have aq := aQ; have bi := aT; have cq := cd; clear aK aM aN aQ aT cd; clear ho hb hg hat))
         go_ret;exact ⟨_, Sh.eR, Sh.rl (Kd.R_mono cq.out (fun _ hk => hk.1)), Sh.bw, by repeat (first | (with_reducible first | exact HK.out | apply Kept.alloc | apply Kept.drewN | apply Kept.drew) | exact HK.out)⟩
        ·rw [if_neg cy] at H
         cases H
       ·rw [if_neg cx] at H
        cases H
      ·rw [if_neg cv] at H
       cases H
     ·rw [if_neg cg] at H
      cases H
    ·rw [if_neg cf] at H
     cases H
def QbM.f (l0 : List Int) : Option (List Int) := (some (([] : List Int) : List Int)).bind fun aa => (if aa.length + l0.length < 17592186044416 then (some (aa ++ l0)) else (none))
theorem QbM.calls (A0 : Option Addr) (c0 : Nat) (l0 : List Int) (r : List Int) (w : World) (aq : Kd.C (Kd.int .i64) w A0 l0.length l0) (hc0 : l0.length ≤ c0) (h : QbM.f l0 = some r) :
  Calls Tryz.prog 58 #[.slice A0 l0.length c0] w fun e w' => ∃ ar : Value, e = .returned (ar) ∧ Kd.R (Kd.int .i64) 3 w' w.heap.size (fun _ => True) ar r ∧ Below w.heap.size w w' := by
 have aw := am_ aq;have ay := am_ hc0;clear aq hc0;have HB := am_ (Below.refl w.heap.size w);have H := h;clear h;unfold QbM.f at H;obtain ⟨ae, aa⟩ : ∃ y_ : List Int, y_ = (([] : List Int)) := ⟨_, rfl⟩;replace H : (if ae.length + l0.length < 17592186044416 then (some (ae ++ l0)) else (none)) = some r := by first | (rw [aa]; with_reducible exact H) | (have ai := (Option.bind_some _ _).symm.trans H; rw [aa]; with_reducible exact ai) | (have ai := (Option.bind_some _ _).symm.trans H; with_reducible exact ai) | with_reducible exact H | (rw [aa]; exact H) | exact H
 have af := am_ aa;clear aa;by_cases c2 : ae.length + l0.length < 17592186044416
 ·rw [if_pos c2] at H
  have am := am_ c2;clear c2;obtain ⟨ao, ac⟩ : ∃ y_ : List Int, y_ = (ae ++ l0) := ⟨_, rfl⟩;replace H : (some ao) = some r := by first | (rw [ac]; with_reducible exact H) | (have ai := (Option.bind_some _ _).symm.trans H; rw [ac]; with_reducible exact ai) | (have ai := (Option.bind_some _ _).symm.trans H; with_reducible exact ai) | with_reducible exact H | (rw [ac]; exact H) | exact H
  have aj := am_ ac;clear ac;obtain rfl := Option.some.inj H;go_enter Tryz.func58, Tryz.ntmps58;go_wp2_with (first | ((with_reducible refine Sh.d 3 ?_); refine Kd.R_lit (Kd.int .i64) _ 3 ?hg (N := 3) ?hd (xs := ([] : List Int)) (inner := []) (ok := fun _ => True) (okp := fun _ => True) ?hr ?hp (fun _ hk => hk) trivial (Below.refl _ _) (Nat.le_refl _) (by simp) ?_; (case hd => rfl); (case hg => rfl); (case hr => first | (go_simp; done) | (go_simp; rfl)); (case hp => exact (Reps.none _ _)); intro ap w3 ak hb hg_ hnew_; clear hg_ hnew_; (first | rw [← af.out] at ak | (simp only [Int.reduceToNat] at ak; rw [← af.out] at ak)); have ah := am_ (Kd.R_lower ak (below_size Sh.bw)); replace HB := Sh.hb hb; clear hb ak) | ((with_reducible refine gate_builtin (b := .append) (xs := #[.tmp 3, .tmp 4]) rfl ?_); at_builtin; refine Kd.R_append_rows (Kd.int .i64) (w0 := w) w.heap.size rfl (.tmp 3) (.tmp 4) 27 3 (.int .i64 0) 8 rfl Tryz.underlying27 info3 rfl (by decide) (by omega) ap ae l0 _ _ _ (fun _ => True) (fun _ => False) rfl rfl ?aO ?aR (fun _ _ h => h) (fun _ h => h.elim) ?aF ?aB ?aS ?aL ?_; (case aR => repeat (first | exact (Kd.C_below aw.out HB.out) | (with_reducible first | refine Kd.C_alloc ?_ _ | refine Kd.C_drewN ?_ _ | refine Kd.C_drew ?_))); (case aB => exact Sh.bw); (case aF => exact (fun _ _ => trivial)); (case aO => exact (Sh.rl ah.out)); (case aS => exact (below_size Sh.bw)); (case aL => have := am.out; omega); intro ax w5 ho hb hg hat; rw [← aj.out] at ho; have au := am_ hb; have av := am_ ho; clear HB; clear ah; have HB := au; have al := av; clear au av; clear ho hb hg hat));go_ret;exact ⟨_, Sh.eR, Sh.rl al.out, Sh.bw⟩
 ·rw [if_neg c2] at H
  cases H
def QaJ.l0 : Nat → List Int → List Int → Int → Int → Option (List Int)
 | 0, _, _, _, _ => none
 | k + 1, x5, ac, af, aa => if aa < af then (if 0 ≤ aa then (if aa < (ac.length : Int) then ((QaD.f k x5 (rd ac aa)).bind fun ae => (QaJ.l0 k ae ac af (wrap64 (aa + 1)))) else (none)) else (none)) else (some x5)
def QaJ.f (k : Nat) (l0 : List Int) (l1 : List Int) : Option (List Int) := (QbM.f l0).bind fun aa => (QaJ.l0 k aa l1 (l1.length : Int) 0)
theorem QaJ.mono_l : ∀ k, (∀ y0 y1 y2 y3, LeO (QaJ.l0 k y0 y1 y2 y3) (QaJ.l0 (k + 1) y0 y1 y2 y3))
 | 0 => fun _ _ _ _ r h => by simp [QaJ.l0] at h
 | k + 1 => by
  have aa := QaJ.mono_l k
  ·intro y0 y1 y2 y3
   unfold QaJ.l0
   repeat' with_reducible first | apply aa | apply QaD.mono | exact LeO.refl _ | exact LeO.none _ | apply LeO.ite | refine LeO.bind ?_ fun _ => ?_
theorem QaJ.mono : ∀ a0 a1 k, LeO (QaJ.f k a0 a1) (QaJ.f (k + 1) a0 a1) := by
 intro a0 a1 k;have aa := QaJ.mono_l k;unfold QaJ.f;repeat' with_reducible first | apply aa | apply QaD.mono | exact LeO.refl _ | exact LeO.none _ | apply LeO.ite | refine LeO.bind ?_ fun _ => ?_
theorem QaJ.calls (k : Nat) (A0 : Option Addr) (c0 : Nat) (l0 : List Int) (A1 : Option Addr) (c1 : Nat) (l1 : List Int) (r : List Int) (w : World) (au : Kd.C (Kd.int .i64) w A0 l0.length l0) (hc0 : l0.length ≤ c0) (hr1 : Kd.C (Kd.int .i64) w A1 l1.length l1) (av : l1.length ≤ c1) (h : QaJ.f k l0 l1 = some r) :
  Calls Tryz.prog 33 #[.slice A0 l0.length c0, .slice A1 l1.length c1] w fun e w' => ∃ aw : Value, e = .returned (aw) ∧ Kd.R (Kd.int .i64) 3 w' w.heap.size (fun _ => True) aw r ∧ Below w.heap.size w w' := by
 have aB := am_ au;have aC := am_ hc0;clear au hc0;have aD := am_ hr1;have aI := am_ av;clear hr1 av;have HB := am_ (Below.refl w.heap.size w);have H := h;clear h;unfold QaJ.f at H;obtain ⟨aj, A3, H⟩ := Sh.ba H;have H' := am_ H;clear H;go_enter Tryz.func33, Tryz.ntmps33;go_wp2_with (first | ((with_reducible refine Sh.k 58 ?_); refine Sh.gL (some 9) Tryz.func58 #[.slice A0 l0.length c0] (h := ?_); (with_reducible refine (QbM.calls _ _ l0 aj _ ?side1 ?side2 A3.out).mono ?_); (case side1 => repeat (first | exact aB.out | (with_reducible first | refine Kd.C_alloc ?_ _ | refine Kd.C_drewN ?_ _ | refine Kd.C_drew ?_))); (case side2 => exact aC.out); rintro e w4 ⟨aE, rfl, ak, hb⟩; refine ⟨_, rfl, ?_⟩; have al := am_ (Kd.R_lower ak (below_size Sh.bw)); replace HB := Sh.hb hb; (try clear hb); (try clear hk); (try clear ak)));go_loopg [5, 12] k (fun kq v5 aF w' => ∃ (ac : List Int) (aa : Int), aF = .int .i64 aa ∧ Aside0 (QaJ.l0 kq ac l1 (l1.length : Int) aa = some r) ∧ Aside0 (kq ≤ k) ∧ Aside0 (Kd.R (Kd.int .i64) 3 w' w.heap.size (fun _ => True) v5 ac) ∧ Aside0 (Below w.heap.size w w'))
 case atStart => exact ⟨(aj), (0), (Sh.es), H', ⟨Nat.le_refl _⟩, ⟨Sh.rl al.out⟩, ⟨Sh.bw⟩⟩
 case round =>
  clear H';obtain ⟨ac, aa, rfl, HA, ax, af, HB⟩ := hrel;cases gk with
  | zero => exact absurd HA.out (by simp [QaJ.l0])
  | succ k1 =>
   have H := HA.out;clear HA;simp only [QaJ.l0] at H;by_cases c5 : aa < (l1.length : Int)
   ·rw [if_pos c5] at H
    replace c5 := decide_eq_true c5;by_cases c6 : 0 ≤ aa
    ·rw [if_pos c6] at H
     replace c6 := decide_eq_true c6;by_cases c7 : aa < (l1.length : Int)
     ·rw [if_pos c7] at H
      replace c7 := decide_eq_true c7;obtain ⟨am, A8, H⟩ := Sh.ba H;have H' := am_ H;clear H;have ah : 0 ≤ (aa : Int) := Sh.od;have ai : aa < (l1.length : Int) := Sh.od;obtain ⟨ay, ap, ae⟩ := Kd.at_int aD.out aa ah ai;cases ap;try replace ae := Sh.cw ae
      replace ah := eq_true ah;replace ai := eq_true ai;obtain ⟨aq, ar, aG⟩ := Kd.R_slice af.out;subst aG;go_wp2_with (first | ((with_reducible refine Sh.k 39 ?_); refine Sh.gL (some 18) Tryz.func39 #[.slice aq ac.length ar, .int .i64 (rd l1 aa)] (h := ?_); (with_reducible refine (QaD.calls k1 (fun k_ => some k_ = (.slice aq ac.length ar : Value).ownBlock) (.slice aq ac.length ar) ac (rd l1 aa) am w _ ?side1 ?side2 A8.out).mono ?_); (case side1 => repeat (first | (with_reducible first | exact HB.out | apply below_alloc | apply pw_below_drewN | apply below_drew1) | exact HB.out)); (case side2 => exact Kd.R_tight rfl af.out); rintro e aJ ⟨aH, rfl, ak, hb, hkp⟩; refine ⟨_, rfl, ?_⟩; have az := am_ (Kd.R_mono (ok' := fun k_ => True) ak (fun k_ hk_ => trivial)); have aA := am_ hb; clear HB; clear af; have ao := az; have HB := aA; clear az aA; (try clear hb); (try clear hkp); (try clear ak)));go_roundg k1
      case measure => have := ax.out; omega
      case rel => exact ⟨(am), (wrap64 (aa + 1)), (Sh.es), H', ⟨by have := ax.out; omega⟩, ⟨Sh.rl ao.out⟩, ⟨Sh.bw⟩⟩
     ·rw [if_neg c7] at H
      cases H
    ·rw [if_neg c6] at H
     cases H
   ·rw [if_neg c5] at H
    replace c5 := decide_eq_false c5;obtain rfl := Option.some.inj H;go_wp2;go_ret;exact ⟨_, Sh.eR, Sh.rl af.out, Sh.bw⟩
def QaS.l0 : Nat → List Int → List Int → List (S82) → Int → Int → Int → Int → List (S77) → List (S82) → Option (List Int)
 | 0, _, _, _, _, _, _, _, _, _ => none
 | k + 1, x1, x5, x9, ai, ah, aa, ac, ae, af => if ah < ai then (if 0 ≤ ah then (if ah < (x9.length : Int) then ((Qa7.f k aa ac ae af ((rd_T82 x9 ah).f0) x1).bind fun aj => (if aj = true then (if x5.length < 17592186044416 then (QaS.l0 k x1 (x5 ++ [ah]) x9 ai (wrap64 (ah + 1)) aa ac ae af) else (none)) else (QaS.l0 k x1 x5 x9 ai (wrap64 (ah + 1)) aa ac ae af))) else (none)) else (none)) else (some x5)
def QaS.f (k : Nat) (ac : Int) (ae : Int) (af : List (S77)) (aa : List (S82)) (l1 : List Int) : Option (List Int) := QaS.l0 k l1 ([] : List Int) aa (aa.length : Int) 0 ac ae af aa
theorem QaS.mono_l : ∀ k, (∀ y0 y1 y2 y3 y4 y5 y6 y7 y8, LeO (QaS.l0 k y0 y1 y2 y3 y4 y5 y6 y7 y8) (QaS.l0 (k + 1) y0 y1 y2 y3 y4 y5 y6 y7 y8))
 | 0 => fun _ _ _ _ _ _ _ _ _ r h => by simp [QaS.l0] at h
 | k + 1 => by
  have aa := QaS.mono_l k
  ·intro y0 y1 y2 y3 y4 y5 y6 y7 y8
   unfold QaS.l0
   repeat' with_reducible first | apply aa | apply Qa7.mono | exact LeO.refl _ | exact LeO.none _ | apply LeO.ite | refine LeO.bind ?_ fun _ => ?_
theorem QaS.mono : ∀ a0 a1 a2 a3 a4 k, LeO (QaS.f k a0 a1 a2 a3 a4) (QaS.f (k + 1) a0 a1 a2 a3 a4) := by
 intro a0 a1 a2 a3 a4 k;have aa := QaS.mono_l k;unfold QaS.f;repeat' with_reducible first | apply aa | apply Qa7.mono | exact LeO.refl _ | exact LeO.none _ | apply LeO.ite | refine LeO.bind ?_ fun _ => ?_
theorem QaS.calls (k : Nat) (av : Int) (aw : Int) (aD : Option Addr) (aE : Nat) (ak : List (S77)) (aT : Option Addr) (aG : Nat) (ac : List (S82)) (A1 : Option Addr) (c1 : Nat) (l1 : List Int) (r : List Int) (w : World) (aW : Kd.C k77 w aD ak.length ak) (aX : ak.length ≤ aE) (aY : Kd.C k82 w aT ac.length ac) (aZ : ac.length ≤ aG) (hr1 : Kd.C (Kd.int .u64) w A1 l1.length l1) (b6 : l1.length ≤ c1) (h : QaS.f k av aw ak ac l1 = some r) :
  Calls Tryz.prog 38 #[.agg #[.int .i64 av, .int .i64 aw, .slice aD ak.length aE, .slice aT ac.length aG], .slice A1 l1.length c1] w fun e w' => ∃ b7 : Value, e = .returned (b7) ∧ Kd.R (Kd.int .i64) 3 w' w.heap.size (fun _ => True) b7 r ∧ Below w.heap.size w w' := by
 have cg := Tryz.underlying33;have ch := Tryz.underlying82;have a1 := am_ aW;have a2 := am_ aX;clear aW aX;have aQ := am_ aY;have a6 := am_ aZ;clear aY aZ;have b8 := am_ hr1;have b9 := am_ b6;clear hr1 b6;have HB := am_ (Below.refl w.heap.size w);have H := h;clear h;unfold QaS.f at H;have H' := am_ H;clear H;go_enter Tryz.func38, Tryz.ntmps38;go_wp2_with (first | ((with_reducible refine Sh.d 2 ?_); refine Sh.bz w (N := 2) (cs := #[.int .i64 av, .int .i64 aw, .slice aD ak.length aE, .slice aT ac.length aG]) (t := 33) (h := ?_); clear HB; intro aR w3 ae ca HB; obtain ⟨bh, bi, bj, bk, bl, bm, bn, bo⟩ := Sh.b4 ae.out));go_loopg [5, 11] k (fun kq v5 ci w' => ∃ (aK : List Int) (aa : Int), ci = .int .i64 aa ∧ Aside0 (QaS.l0 kq l1 aK ac (ac.length : Int) aa av aw ak ac = some r) ∧ Aside0 (kq ≤ k) ∧ Aside0 (Kd.R (Kd.int .i64) 3 w' w.heap.size (fun _ => True) v5 aK) ∧ Aside0 (w'.heap[aR]? = some (.cells #[.int .i64 av, .int .i64 aw, (.slice aD ak.length aE), (.slice aT ac.length aG)] 33 (0, 0))) ∧ Aside0 (Below w.heap.size w w'))
 case atStart => exact ⟨(([] : List Int)), (0), (Sh.es), H', ⟨Nat.le_refl _⟩, ⟨by first | exact Kd.R_nil _ _ _ _ _ | exact Kd.N_nil _ _ _ _ _ | exact Kd.V_nil _ _ _ _ _ | exact Kd.Q_nil _ _ _ _ _ | exact Kd.S_nil _ _ _ _ _⟩, ⟨by refine Sh.pl ?_; exact ae.out⟩, ⟨Sh.bw⟩⟩
 case round =>
  clear H';try clear bh
  try clear bi
  try clear bj
  try clear bk
  try clear bl
  try clear bm
  try clear bn
  try clear bo
  obtain ⟨aK, aa, rfl, HA, bA, al, ae, HB⟩ := hrel;cases gk with
  | zero => exact absurd HA.out (by simp [QaS.l0])
  | succ k1 =>
   have H := HA.out;clear HA;simp only [QaS.l0] at H;by_cases c5 : aa < (ac.length : Int)
   ·rw [if_pos c5] at H
    replace c5 := decide_eq_true c5;by_cases c6 : 0 ≤ aa
    ·rw [if_pos c6] at H
     replace c6 := decide_eq_true c6;by_cases c7 : aa < (ac.length : Int)
     ·rw [if_pos c7] at H
      replace c7 := decide_eq_true c7;obtain ⟨b0, A8, H⟩ := Sh.ba H;by_cases c9 : b0 = true
      ·subst c9
       rw [if_pos rfl] at H;by_cases bB : aK.length < 17592186044416
       ·rw [if_pos bB] at H
        have bq := am_ bB;clear bB;obtain ⟨br, aJ⟩ : ∃ y_ : List Int, y_ = (aK ++ [aa]) := ⟨_, rfl⟩;replace H : (QaS.l0 k1 l1 br ac (ac.length : Int) (wrap64 (aa + 1)) av aw ak ac) = some r := by first | (rw [aJ]; with_reducible exact H) | (have b1 := (Option.bind_some _ _).symm.trans H; rw [aJ]; with_reducible exact b1) | (have b1 := (Option.bind_some _ _).symm.trans H; with_reducible exact b1) | with_reducible exact H | (rw [aJ]; exact H) | exact H
        have bs := am_ aJ;clear aJ;have H' := am_ H;clear H;have aM : 0 ≤ (aa : Int) := Sh.od;have aN : aa < (ac.length : Int) := Sh.od;obtain ⟨aC, ai, aj, ax, ay, bp, am, ao, ap, aq, ar, au⟩ := at_T82 aQ.out aa aM aN;cases bp;try replace am := Sh.cw am
        try replace ao := Sh.cw ao
        have aH := am_ aq;have aI := am_ ap;clear aq ap;have aU := am_ au;have aV := am_ ar;clear au ar;replace aM := eq_true aM;replace aN := eq_true aN;go_wp2_with (first | ((with_reducible refine Sh.d 7 ?_); refine Sh.bx (N := 7) (cs := #[.slice none 0 0, .slice none 0 0]) (t := 82) (h := ?_); intro aA hg ck hbox hb; replace al := am_ (Kd.R_below (Sh.rl al.out) hb); have ah := am_ hbox; have bu := Sh.ag w hg; replace HB := Sh.hb hb; have af := am_ (Sh.nl hg ae.out); have az := am_ (Sh.ng hg ae.out); replace ae := Sh.ab ae hb; clear hb hbox hg; have cb := az.out; have cd := af.out; obtain ⟨bC, bD, bE, bF⟩ := Sh.b2 ah.out; obtain ⟨bG, bH, bI, bJ, bK, bL, bM, bN⟩ := Sh.b4 ae.out) | ((with_reducible refine Sh.k 36 ?_); refine Sh.gB (some 20) Tryz.func36 #[.agg #[.int .i64 av, .int .i64 aw, .slice aD ak.length aE, .slice (some aC) ac.length aG], .slice ai ((rd_T82 ac aa).f0).length aj, .slice A1 l1.length c1] (Qa7.calls k1 av aw _ _ ak _ _ ac _ _ ((rd_T82 ac aa).f0) _ _ l1 true _ (Sh.cB a1.out) a2.out (Sh.cB aQ.out) a6.out (Sh.cB aH.out) aI.out (Sh.cB b8.out) b9.out A8.out) fun cl hb => ?_; have a7 := am_ (Kd.R_below (Sh.rl (Kd.R_mono (Kd.R_far (p := ⟨aA, 1, none⟩) (Kd.R_far (p := ⟨aA, 0, none⟩) (Kd.R_types al.out ah.out (by decide)) (fun _ hk => hk.2) (.slice ai ((rd_T82 ac aa).f0).length aj)) (fun _ hk => hk.2) (.slice ax ((rd_T82 ac aa).f1).length ay)) (fun _ h_ => h_.1))) hb); have a8 := am_ (blk_below (g := aR) (o := .cells #[.int .i64 av, .int .i64 aw, .slice aD ak.length aE, .slice (some aC) ac.length aG] 33 (0, 0)) (by refine Sh.pl ?_; refine blk_far ?_ af.out _; refine Sh.pl ?_; refine blk_far ?_ af.out _; refine Sh.pl ?_; exact ae.out) hb); have bf := am_ (blk_below (g := aA) (o := .cells #[.slice ai ((rd_T82 ac aa).f0).length aj, .slice ax ((rd_T82 ac aa).f1).length ay] 82 (0, 0)) (by refine Sh.pl ?_; refine blk_put (cs := #[.slice ai ((rd_T82 ac aa).f0).length aj, .slice none 0 0]) ?_ 1 _ rfl; refine Sh.pl ?_; refine blk_put (cs := #[.slice none 0 0, .slice none 0 0]) ?_ 0 _ rfl; refine Sh.pl ?_; exact ah.out) hb); have bg := am_ (below_step Sh.bw hb); clear al; clear ae; clear ah; clear HB; have al := a7; have ae := a8; have ah := bf; have HB := bg; clear a7 a8 bf bg; (try clear hb); (try clear hk)) | ((with_reducible refine gate_builtin (b := .append) (xs := #[.tmp 21, .tmp 23]) rfl ?_); at_builtin; refine Kd.R_append (Kd.int .i64) (w0 := w) w.heap.size rfl (.tmp 21) (.tmp 23) 27 3 (.int .i64 0) 8 rfl Tryz.underlying27 info3 rfl (by decide) (by omega) u5 aK aa [.int .i64 aa] (fun _ => True) (fun _ => False) rfl rfl ?aP (fun _ hk => hk.elim) ?aF ?aO ?aB ?aS ?aL ?_; (case aP => exact rfl); (case aB => exact Sh.bw); (case aF => exact (fun _ _ => trivial)); (case aO => exact (Sh.rl al.out)); (case aS => exact (below_size Sh.bw)); (case aL => have := bq.out; omega); intro cj cm ho hb hg hat; rw [← bs.out] at ho; have a7 := am_ (blk_grown (g := aR) (o := .cells #[.int .i64 av, .int .i64 aw, .slice aD ak.length aE, .slice (some aC) ac.length aG] 33 (0, 0)) (Sh.pl ae.out) hg (Kd.R_ne al.out ae.out (by decide))); have a8 := am_ (blk_grown (g := aA) (o := .cells #[.slice ai ((rd_T82 ac aa).f0).length aj, .slice ax ((rd_T82 ac aa).f1).length ay] 82 (0, 0)) (Sh.pl ah.out) hg (Kd.R_ne al.out ah.out (by decide))); have bf := am_ hb; have bg := am_ ho; clear ae; clear ah; clear HB; clear al; have ae := a7; have ah := a8; have HB := bf; have bv := bg; clear a7 a8 bf bg; clear ho hb hg hat));go_roundg k1
        case measure => have := bA.out; omega
        case rel => exact ⟨(br), (wrap64 (aa + 1)), (Sh.es), H', ⟨by have := bA.out; omega⟩, ⟨Sh.rl bv.out⟩, ⟨by refine Sh.pl ?_; exact ae.out⟩, ⟨Sh.bw⟩⟩
       ·rw [if_neg bB] at H
        cases H
      ·replace c9 := Bool.eq_false_iff.mpr c9
       subst c9;rw [Sh.nf] at H;have H' := am_ H;clear H;have aM : 0 ≤ (aa : Int) := Sh.od;have aN : aa < (ac.length : Int) := Sh.od;obtain ⟨aC, ai, aj, ax, ay, bp, am, ao, ap, aq, ar, au⟩ := at_T82 aQ.out aa aM aN;cases bp;try replace am := Sh.cw am
       try replace ao := Sh.cw ao
       have aH := am_ aq;have aI := am_ ap;clear aq ap;have aU := am_ au;have aV := am_ ar;clear au ar;replace aM := eq_true aM;replace aN := eq_true aN;go_wp2_with (first | ((with_reducible refine Sh.d 7 ?_); refine Sh.bx (N := 7) (cs := #[.slice none 0 0, .slice none 0 0]) (t := 82) (h := ?_); intro aA hg cn hbox hb; replace al := am_ (Kd.R_below (Sh.rl al.out) hb); have ah := am_ hbox; have bu := Sh.ag w hg; replace HB := Sh.hb hb; have af := am_ (Sh.nl hg ae.out); have az := am_ (Sh.ng hg ae.out); replace ae := Sh.ab ae hb; clear hb hbox hg; have ce := az.out; have cf := af.out; obtain ⟨bO, bP, bQ, bR⟩ := Sh.b2 ah.out; obtain ⟨bS, bT, bU, bV, bW, bX, bY, bZ⟩ := Sh.b4 ae.out) | ((with_reducible refine Sh.k 36 ?_); refine Sh.gB (some 20) Tryz.func36 #[.agg #[.int .i64 av, .int .i64 aw, .slice aD ak.length aE, .slice (some aC) ac.length aG], .slice ai ((rd_T82 ac aa).f0).length aj, .slice A1 l1.length c1] (Qa7.calls k1 av aw _ _ ak _ _ ac _ _ ((rd_T82 ac aa).f0) _ _ l1 false _ (Sh.cB a1.out) a2.out (Sh.cB aQ.out) a6.out (Sh.cB aH.out) aI.out (Sh.cB b8.out) b9.out A8.out) fun co hb => ?_; have a7 := am_ (Kd.R_below (Sh.rl (Kd.R_mono (Kd.R_far (p := ⟨aA, 1, none⟩) (Kd.R_far (p := ⟨aA, 0, none⟩) (Kd.R_types al.out ah.out (by decide)) (fun _ hk => hk.2) (.slice ai ((rd_T82 ac aa).f0).length aj)) (fun _ hk => hk.2) (.slice ax ((rd_T82 ac aa).f1).length ay)) (fun _ h_ => h_.1))) hb); have a8 := am_ (blk_below (g := aR) (o := .cells #[.int .i64 av, .int .i64 aw, .slice aD ak.length aE, .slice (some aC) ac.length aG] 33 (0, 0)) (by refine Sh.pl ?_; refine blk_far ?_ af.out _; refine Sh.pl ?_; refine blk_far ?_ af.out _; refine Sh.pl ?_; exact ae.out) hb); have bf := am_ (blk_below (g := aA) (o := .cells #[.slice ai ((rd_T82 ac aa).f0).length aj, .slice ax ((rd_T82 ac aa).f1).length ay] 82 (0, 0)) (by refine Sh.pl ?_; refine blk_put (cs := #[.slice ai ((rd_T82 ac aa).f0).length aj, .slice none 0 0]) ?_ 1 _ rfl; refine Sh.pl ?_; refine blk_put (cs := #[.slice none 0 0, .slice none 0 0]) ?_ 0 _ rfl; refine Sh.pl ?_; exact ah.out) hb); have bg := am_ (below_step Sh.bw hb); clear al; clear ae; clear ah; clear HB; have al := a7; have ae := a8; have ah := bf; have HB := bg; clear a7 a8 bf bg; (try clear hb); (try clear hk)));go_roundg k1
       case measure => have := bA.out; omega
       case rel => exact ⟨(aK), (wrap64 (aa + 1)), (Sh.es), H', ⟨by have := bA.out; omega⟩, ⟨Sh.rl al.out⟩, ⟨by refine Sh.pl ?_; exact ae.out⟩, ⟨Sh.bw⟩⟩
     ·rw [if_neg c7] at H
      cases H
    ·rw [if_neg c6] at H
     cases H
   ·rw [if_neg c5] at H
    replace c5 := decide_eq_false c5;obtain rfl := Option.some.inj H;go_wp2;go_ret;exact ⟨_, Sh.eR, Sh.rl al.out, Sh.bw⟩
def QaN.l0 : Nat → List Int → Int → Int → Int → Int → List (S77) → List (S82) → Option (Int)
 | 0, _, _, _, _, _, _, _ => none
 | k + 1, x1, x5, x6, aa, ac, ae, af => if x6 ≥ 0 then (if 0 ≤ (IntKind.u64.wrap (aa)) then (if 0 ≤ x6 then (if x6 < (x1.length : Int) then (QaN.l0 k x1 (wrap64 ((shl .i64 x5 (IntKind.u64.wrap (aa))) + (wrap64 (rd x1 x6)))) (wrap64 (x6 - 1)) aa ac ae af) else (none)) else (none)) else (none)) else (some x5)
def QaN.f (k : Nat) (ac : Int) (aa : Int) (ae : List (S77)) (af : List (S82)) (l1 : List Int) : Option (Int) := QaN.l0 k l1 0 (wrap64 (aa - 1)) ac aa ae af
theorem QaN.mono_l : ∀ k, (∀ y0 y1 y2 y3 y4 y5 y6, LeO (QaN.l0 k y0 y1 y2 y3 y4 y5 y6) (QaN.l0 (k + 1) y0 y1 y2 y3 y4 y5 y6))
 | 0 => fun _ _ _ _ _ _ _ r h => by simp [QaN.l0] at h
 | k + 1 => by
  have aa := QaN.mono_l k
  ·intro y0 y1 y2 y3 y4 y5 y6
   unfold QaN.l0
   repeat' with_reducible first | apply aa | exact LeO.refl _ | exact LeO.none _ | apply LeO.ite | refine LeO.bind ?_ fun _ => ?_
theorem QaN.mono : ∀ a0 a1 a2 a3 a4 k, LeO (QaN.f k a0 a1 a2 a3 a4) (QaN.f (k + 1) a0 a1 a2 a3 a4) := by
 intro a0 a1 a2 a3 a4 k;have aa := QaN.mono_l k;unfold QaN.f;repeat' with_reducible first | apply aa | exact LeO.refl _ | exact LeO.none _ | apply LeO.ite | refine LeO.bind ?_ fun _ => ?_
theorem QaN.calls (k : Nat) (ah : Int) (ai : Int) (aw : Option Addr) (ax : Nat) (ae : List (S77)) (ay : Option Addr) (az : Nat) (af : List (S82)) (A1 : Option Addr) (c1 : Nat) (l1 : List Int) (r : Int) (w : World) (aC : Kd.C k77 w aw ae.length ae) (aD : ae.length ≤ ax) (aE : Kd.C k82 w ay af.length af) (aF : af.length ≤ az) (hr1 : Kd.C (Kd.int .u64) w A1 l1.length l1) (aV : l1.length ≤ c1) (h : QaN.f k ah ai ae af l1 = some r) :
  Calls Tryz.prog 40 #[.agg #[.int .i64 ah, .int .i64 ai, .slice aw ae.length ax, .slice ay af.length az], .slice A1 l1.length c1] w fun e w' => e = .returned (.int .i64 r) ∧ Below w.heap.size w w' := by
 have a6 := Tryz.underlying33;have aW := am_ aC;have aX := am_ aD;clear aC aD;have aY := am_ aE;have aZ := am_ aF;clear aE aF;have a7 := am_ hr1;have a8 := am_ aV;clear hr1 aV;have HB := am_ (Below.refl w.heap.size w);have H := h;clear h;unfold QaN.f at H;have H' := am_ H;clear H;go_enter Tryz.func40, Tryz.ntmps40;go_wp2_with (first | ((with_reducible refine Sh.d 2 ?_); refine Sh.bz w (N := 2) (cs := #[.int .i64 ah, .int .i64 ai, .slice aw ae.length ax, .slice ay af.length az]) (t := 33) (h := ?_); clear HB; intro aA w3 aa aG HB; obtain ⟨ak, al, am, ao, ap, aq, ar, au⟩ := Sh.b4 aa.out));repeat (go_quiet (first | ((with_reducible refine Sh.d 2 ?_); refine Sh.bz w (N := 2) (cs := #[.int .i64 ah, .int .i64 ai, .slice aw ae.length ax, .slice ay af.length az]) (t := 33) (h := ?_); clear HB; intro aA w3 aa aG HB; obtain ⟨ak, al, am, ao, ap, aq, ar, au⟩ := Sh.b4 aa.out)); try go_wp2_with (first | ((with_reducible refine Sh.d 2 ?_); refine Sh.bz w (N := 2) (cs := #[.int .i64 ah, .int .i64 ai, .slice aw ae.length ax, .slice ay af.length az]) (t := 33) (h := ?_); clear HB; intro aA w3 aa aG HB; obtain ⟨ak, al, am, ao, ap, aq, ar, au⟩ := Sh.b4 aa.out)))
 go_loopg [5, 6] k (fun kq v5 v6 w' => ∃ (aj : Int) (ac : Int), v5 = .int .i64 aj ∧ v6 = .int .i64 ac ∧ Aside0 (QaN.l0 kq l1 aj ac ah ai ae af = some r) ∧ Aside0 (kq ≤ k) ∧ Aside0 (w'.heap[aA]? = some (.cells #[.int .i64 ah, .int .i64 ai, (.slice aw ae.length ax), (.slice ay af.length az)] 33 (0, 0))) ∧ Aside0 (Below w.heap.size w w'))
 case atStart => exact ⟨(0), (wrap64 (ai - 1)), (Sh.es), (Sh.es), H', ⟨Nat.le_refl _⟩, ⟨by refine Sh.pl ?_; exact aa.out⟩, ⟨Sh.bw⟩⟩
 case round =>
  clear H';try clear ak
  try clear al
  try clear am
  try clear ao
  try clear ap
  try clear aq
  try clear ar
  try clear au
  obtain ⟨aj, ac, rfl, rfl, HA, a1, aa, HB⟩ := hrel;cases gk with
  | zero => exact absurd HA.out (by simp [QaN.l0])
  | succ k1 =>
   have H := HA.out;clear HA;simp only [QaN.l0] at H;by_cases c5 : ac ≥ 0
   ·rw [if_pos c5] at H
    have c5b0 : decide (0 ≤ ac) = true := decide_eq_true c5;clear c5;obtain ⟨aB, hj1⟩ : ∃ j_ : Int, (IntKind.u64.wrap (ah)) = j_ := ⟨_, rfl⟩;replace H : (if 0 ≤ (aB) then (if 0 ≤ ac then (if ac < (l1.length : Int) then (QaN.l0 k1 l1 (wrap64 ((shl .i64 aj (aB)) + (wrap64 (rd l1 ac)))) (wrap64 (ac - 1)) ah ai ae af) else (none)) else (none)) else (none)) = some r := by first | (rw [hj1] at H; exact H) | (simp only [hj1] at H ⊢; exact H)
    by_cases c7 : 0 ≤ (aB)
    ·rw [if_pos c7] at H
     have c7b0 := eq_true c7;have c7b1 := decide_eq_true c7;clear c7;obtain ⟨aJ, hj2⟩ : ∃ j_ : Int, (shl .i64 aj (aB)) = j_ := ⟨_, rfl⟩;replace H : (if 0 ≤ ac then (if ac < (l1.length : Int) then (QaN.l0 k1 l1 (wrap64 ((aJ) + (wrap64 (rd l1 ac)))) (wrap64 (ac - 1)) ah ai ae af) else (none)) else (none)) = some r := by first | (rw [hj2] at H; exact H) | (simp only [hj2] at H ⊢; exact H)
     have aK : (IntKind.i64.wrap (aj * 2 ^ min (aB).toNat 64)) = aJ := hj2;have hji8z : (aB) ≤ 64 → (IntKind.i64.wrap (aj * 2 ^ (aB).toNat)) = aJ := shl_small hj2;have hji8y : (wrap64 (aj * 2 ^ min (aB).toNat 64)) = aJ := (i64_w _).symm.trans aK;have hji8x : (aB) ≤ 64 → (wrap64 (aj * 2 ^ (aB).toNat)) = aJ := fun h_ => (i64_w _).symm.trans (hji8z h_);by_cases c9 : 0 ≤ ac
     ·rw [if_pos c9] at H
      replace c9 := decide_eq_true c9;by_cases aL : ac < (l1.length : Int)
      ·rw [if_pos aL] at H
       replace aL := decide_eq_true aL;have H' := am_ H;clear H;have aM := Sh.bc aa.out 0;have aN := Sh.bc aa.out 1;have aO := Sh.bc aa.out 2;have aP := Sh.bc aa.out 3;have aQ := blk_frozen aa.out 0;have aR := blk_frozen aa.out 1;have aS := blk_frozen aa.out 2;have aT := blk_frozen aa.out 3;have aH : 0 ≤ (ac : Int) := Sh.od;have aI : ac < (l1.length : Int) := Sh.od;obtain ⟨a2, aU, av⟩ := Kd.at_int a7.out ac aH aI;cases aU;try replace av := Sh.cw av
       replace aH := eq_true aH;replace aI := eq_true aI;go_wp2;repeat (go_quiet (fail); try go_wp2)
       go_roundg k1
       case measure => have := a1.out; omega
       case rel => exact ⟨(wrap64 ((aJ) + (wrap64 (rd l1 ac)))), (wrap64 (ac - 1)), (by first | rfl | (simp; done) | (simp only [← hj2] <;> (first | rfl | simp)) | (simp [*]; done)), (Sh.es), H', ⟨by have := a1.out; omega⟩, ⟨by refine Sh.pl ?_; exact aa.out⟩, ⟨Sh.bw⟩⟩
      ·rw [if_neg aL] at H
       cases H
     ·rw [if_neg c9] at H
      cases H
    ·rw [if_neg c7] at H
     cases H
   ·rw [if_neg c5] at H
    have c5b0 : decide (0 ≤ ac) = false := decide_eq_false c5;clear c5;obtain rfl := Option.some.inj H;go_wp2;repeat (go_quiet (fail); try go_wp2)
    go_ret;exact ⟨Sh.eR, Sh.bw⟩
def QaB.l0 : Nat → List Int → List Int → List (S100) → Int → Int → Int → Int → List (S77) → List (S82) → Option (List Int)
 | 0, _, _, _, _, _, _, _, _, _ => none
 | k + 1, x1, x7, ai, ak, ac, aa, ae, af, ah => if ac < ak then (if 0 ≤ ac then (if ac < (ai.length : Int) then ((Qal.f k aa ((rd_T100 ai ac).f1) (wrap64 ((((rd_T100 ai ac).f1).length : Int) - 1)) x1).bind fun aj => (if 0 ≤ ((rd_T100 ai ac).f0) then (if ((rd_T100 ai ac).f0) < (x7.length : Int) then (QaB.l0 k x1 (x7.set (((rd_T100 ai ac).f0) : Int).toNat aj) ai ak (wrap64 (ac + 1)) aa ae af ah) else (none)) else (none))) else (none)) else (none)) else (some x7)
def QaB.f (k : Nat) (ae : Int) (af : Int) (ah : List (S77)) (aa : List (S82)) (l1 : List Int) (a2 : Int) : Option (List Int) := (some (([] : List Int) : List Int)).bind fun ac => (if ac.length + l1.length < 17592186044416 then (if 0 ≤ a2 then (if a2 < (aa.length : Int) then (QaB.l0 k l1 (ac ++ l1) ((rd_T82 aa a2).f1) (((rd_T82 aa a2).f1).length : Int) 0 ae af ah aa) else (none)) else (none)) else (none))
theorem QaB.mono_l : ∀ k, (∀ y0 y1 y2 y3 y4 y5 y6 y7 y8, LeO (QaB.l0 k y0 y1 y2 y3 y4 y5 y6 y7 y8) (QaB.l0 (k + 1) y0 y1 y2 y3 y4 y5 y6 y7 y8))
 | 0 => fun _ _ _ _ _ _ _ _ _ r h => by simp [QaB.l0] at h
 | k + 1 => by
  have aa := QaB.mono_l k
  ·intro y0 y1 y2 y3 y4 y5 y6 y7 y8
   unfold QaB.l0
   repeat' with_reducible first | apply aa | apply Qal.mono | exact LeO.refl _ | exact LeO.none _ | apply LeO.ite | refine LeO.bind ?_ fun _ => ?_
theorem QaB.mono : ∀ a0 a1 a2 a3 a4 a5 k, LeO (QaB.f k a0 a1 a2 a3 a4 a5) (QaB.f (k + 1) a0 a1 a2 a3 a4 a5) := by
 intro a0 a1 a2 a3 a4 a5 k;have aa := QaB.mono_l k;unfold QaB.f;repeat' with_reducible first | apply aa | apply Qal.mono | exact LeO.refl _ | exact LeO.none _ | apply LeO.ite | refine LeO.bind ?_ fun _ => ?_
def QaB.T5 : Bool × List (List Nat × List Nat) := (true, [([], []), ([], []), ([1], [1]), ([], []), ([3], [3]), ([], []), ([5], [5]), ([], []), ([7], [7]), ([8], [8]), ([9], [9]), ([], []), ([4, 6, 10, 11], [4, 6, 10, 11]), ([0, 2, 0, 1, 2, 3, 4, 5, 6, 7, 8, 9, 10, 11, 12], [0, 2]), ([13, 12, 12, 0, 1, 2, 3, 4, 5, 6, 7, 8, 9, 10, 11, 12], [12, 13])])
def QaB.B5 : List Nat := [0, 0, 2, 0, 8, 0, 32, 0, 128, 384, 896, 0, 4088, 8191, 16383]
theorem QaB.tab5 : rtab .any (opsOf Tryz.f41 5) = QaB.T5 := by kernel_rfl
theorem QaB.bits5 : waitsOk QaB.T5.2 QaB.B5 = true := by kernel_rfl
theorem QaB.calls (k : Nat) (am : Int) (ar : Int) (ay : Option Addr) (az : Nat) (al : List (S77)) (aV : Option Addr) (aA : Nat) (ac : List (S82)) (A1 : Option Addr) (c1 : Nat) (l1 : List Int) (a2 : Int) (r : List Int) (w : World) (bi : Kd.C k77 w ay al.length al) (bj : al.length ≤ az) (bk : Kd.C k82 w aV ac.length ac) (bl : ac.length ≤ aA) (hr1 : Kd.C (Kd.int .u64) w A1 l1.length l1) (cj : l1.length ≤ c1) (h : QaB.f k am ar al ac l1 a2 = some r) :
  Calls Tryz.prog 41 #[.agg #[.int .i64 am, .int .i64 ar, .slice ay al.length az, .slice aV ac.length aA], .slice A1 l1.length c1, .int .i64 a2] w fun e w' => ∃ ck : Value, e = .returned (ck) ∧ Kd.R (Kd.int .u64) 75 w' w.heap.size (fun _ => True) ck r ∧ Below w.heap.size w w' := by
 have cy := Tryz.underlying33;have cl := Tryz.underlying100;have cm := am_ bi;have cn := am_ bj;clear bi bj;have bC := am_ bk;have co := am_ bl;clear bk bl;have cp := am_ hr1;have cz := am_ cj;clear hr1 cj;have HB := am_ (Below.refl w.heap.size w);have H := h;clear h;unfold QaB.f at H;obtain ⟨aP, av⟩ : ∃ y_ : List Int, y_ = (([] : List Int)) := ⟨_, rfl⟩;replace H : (if aP.length + l1.length < 17592186044416 then (if 0 ≤ a2 then (if a2 < (ac.length : Int) then (QaB.l0 k l1 (aP ++ l1) ((rd_T82 ac a2).f1) (((rd_T82 ac a2).f1).length : Int) 0 am ar al ac) else (none)) else (none)) else (none)) = some r := by first | (rw [av]; with_reducible exact H) | (have aQ := (Option.bind_some _ _).symm.trans H; rw [av]; with_reducible exact aQ) | (have aQ := (Option.bind_some _ _).symm.trans H; with_reducible exact aQ) | with_reducible exact H | (rw [av]; exact H) | exact H
 have bm := am_ av;clear av;by_cases c4 : aP.length + l1.length < 17592186044416
 ·rw [if_pos c4] at H
  have bZ := am_ c4;clear c4;obtain ⟨bD, aw⟩ : ∃ y_ : List Int, y_ = (aP ++ l1) := ⟨_, rfl⟩;replace H : (if 0 ≤ a2 then (if a2 < (ac.length : Int) then (QaB.l0 k l1 bD ((rd_T82 ac a2).f1) (((rd_T82 ac a2).f1).length : Int) 0 am ar al ac) else (none)) else (none)) = some r := by first | (rw [aw]; with_reducible exact H) | (have aQ := (Option.bind_some _ _).symm.trans H; rw [aw]; with_reducible exact aQ) | (have aQ := (Option.bind_some _ _).symm.trans H; with_reducible exact aQ) | with_reducible exact H | (rw [aw]; exact H) | exact H
  have bE := am_ aw;clear aw;by_cases c5 : 0 ≤ a2
  ·rw [if_pos c5] at H
   replace c5 := decide_eq_true c5;by_cases c6 : a2 < (ac.length : Int)
   ·rw [if_pos c6] at H
    replace c6 := decide_eq_true c6;have H' := am_ H;clear H;go_enter Tryz.func41, Tryz.ntmps41;go_wp2_with (first | ((with_reducible refine Sh.d 3 ?_); refine Sh.bz w (N := 3) (cs := #[.int .i64 am, .int .i64 ar, .slice ay al.length az, .slice aV ac.length aA]) (t := 33) (h := ?_); clear HB; intro au w7 ae cq HB) | ((with_reducible refine Sh.d 10 ?_); refine Kd.R_lit (Kd.int .u64) _ 75 ?hg (N := 10) ?hd (xs := ([] : List Int)) (inner := []) (ok := fun _ => True) (okp := fun _ => True) ?hr ?hp (fun _ hk => hk) trivial (Below.refl _ _) (Nat.le_refl _) (by simp) ?_; (case hd => rfl); (case hg => rfl); (case hr => first | (go_simp; done) | (go_simp; rfl)); (case hp => exact (Reps.none _ _)); intro b0 w8 bF hb hg_ hnew_; clear hg_ hnew_; (first | rw [← bm.out] at bF | (simp only [Int.reduceToNat] at bF; rw [← bm.out] at bF)); have aT := am_ (Kd.R_lower bF (below_size Sh.bw)); replace ae := Sh.ab ae hb; replace HB := Sh.hb hb; clear hb bF) | ((with_reducible refine gate_builtin (b := .append) (xs := #[.tmp 10, .tmp 11]) rfl ?_); at_builtin; refine Kd.R_append_rows (Kd.int .u64) (w0 := w) w.heap.size rfl (.tmp 10) (.tmp 11) 69 75 (.int .u64 0) 8 rfl Tryz.underlying69 info75 rfl (by decide) (by omega) b0 aP l1 _ _ _ (fun _ => True) (fun _ => False) rfl rfl ?aO ?aR (fun _ _ h => h) (fun _ h => h.elim) ?aF ?aB ?aS ?aL ?_; (case aR => repeat (first | exact (Kd.C_below cp.out HB.out) | (with_reducible first | refine Kd.C_alloc ?_ _ | refine Kd.C_drewN ?_ _ | refine Kd.C_drew ?_))); (case aB => exact Sh.bw); (case aF => exact (fun _ _ => trivial)); (case aO => exact (Sh.rl aT.out)); (case aS => exact (below_size Sh.bw)); (case aL => have := bZ.out; omega); intro bG cJ ho hb hg hat; rw [← bE.out] at ho; have bu := am_ (blk_grown (g := au) (o := .cells #[.int .i64 am, .int .i64 ar, .slice ay al.length az, .slice aV ac.length aA] 33 (0, 0)) (Sh.pl ae.out) hg (Kd.R_ne aT.out ae.out (by decide))); have bv := am_ hb; have bA := am_ ho; clear ae; clear HB; clear aT; have ae := bu; have HB := bv; have bH := bA; clear bu bv bA; clear ho hb hg hat; obtain ⟨aW, aX, aY, aZ, a1, a6, a7, a8⟩ := Sh.b4 ae.out; have bn : 0 ≤ (a2 : Int) := Sh.od; have bo : a2 < (ac.length : Int) := Sh.od; obtain ⟨aU, b1, b6, b7, b8, b9, ap, aq, aD, aE, aG, aH⟩ := at_T82 bC.out a2 bn bo; cases b9; replace ap := (HB.out.cell (World.block_lt_of_cell? w _ ap)).trans ap; replace aq := (HB.out.cell (World.block_lt_of_cell? w _ aq)).trans aq; have bO := am_ aE; have bP := am_ aD; clear aE aD; have bf := am_ aH; have bQ := am_ aG; clear aH aG; replace bn := eq_true bn; replace bo := eq_true bo));go_loopg [20] k (fun kq cA w' => ∃ (aC : List Int) (aa : Int), cA = .int .i64 aa ∧ Aside0 (QaB.l0 kq l1 aC ((rd_T82 ac a2).f1) (((rd_T82 ac a2).f1).length : Int) aa am ar al ac = some r) ∧ Aside0 (kq ≤ k) ∧ Aside0 (Kd.R (Kd.int .u64) 75 w' w.heap.size (fun _ => True) bG aC) ∧ Aside0 (w'.heap[au]? = some (.cells #[.int .i64 am, .int .i64 ar, (.slice ay al.length az), (.slice (some aU) ac.length aA)] 33 (0, 0))) ∧ Aside0 (Below w.heap.size w w'))
    case atStart => exact ⟨(bD), (0), (Sh.es), H', ⟨Nat.le_refl _⟩, ⟨Sh.rl bH.out⟩, ⟨by refine Sh.pl ?_; exact ae.out⟩, ⟨Sh.bw⟩⟩
    case round =>
     clear H';try clear cK
     try clear aW
     try clear aX
     try clear aY
     try clear aZ
     try clear a1
     try clear a6
     try clear a7
     try clear a8
     try clear ap
     try clear aq
     obtain ⟨aC, aa, rfl, HA, cr, ak, ae, HB⟩ := hrel;cases gk with
     | zero => exact absurd HA.out (by simp [QaB.l0])
     | succ k1 =>
      have H := HA.out;clear HA;simp only [QaB.l0] at H;by_cases bB : aa < (((rd_T82 ac a2).f1).length : Int)
      ·rw [if_pos bB] at H
       replace bB := decide_eq_true bB;by_cases bR : 0 ≤ aa
       ·rw [if_pos bR] at H
        replace bR := decide_eq_true bR;by_cases bS : aa < (((rd_T82 ac a2).f1).length : Int)
        ·rw [if_pos bS] at H
         replace bS := decide_eq_true bS;obtain ⟨bp, cC, H⟩ := Sh.ba H;by_cases bT : 0 ≤ ((rd_T100 ((rd_T82 ac a2).f1) aa).f0)
         ·rw [if_pos bT] at H
          replace bT := decide_eq_true bT;by_cases bU : ((rd_T100 ((rd_T82 ac a2).f1) aa).f0) < (aC.length : Int)
          ·rw [if_pos bU] at H
           replace bU := decide_eq_true bU;obtain ⟨bI, ax⟩ : ∃ y_ : List Int, y_ = (aC.set (((rd_T100 ((rd_T82 ac a2).f1) aa).f0) : Int).toNat bp) := ⟨_, rfl⟩;replace H : (QaB.l0 k1 l1 bI ((rd_T82 ac a2).f1) (((rd_T82 ac a2).f1).length : Int) (wrap64 (aa + 1)) am ar al ac) = some r := by first | (rw [ax]; with_reducible exact H) | (have aQ := (Option.bind_some _ _).symm.trans H; rw [ax]; with_reducible exact aQ) | (have aQ := (Option.bind_some _ _).symm.trans H; with_reducible exact aQ) | with_reducible exact H | (rw [ax]; exact H) | exact H
           have bJ := am_ ax;clear ax;have H' := am_ H;clear H;have bq : 0 ≤ (aa : Int) := Sh.od;have br : aa < (((rd_T82 ac a2).f1).length : Int) := Sh.od;obtain ⟨ct, ah, ai, ca, aI, aJ, aK, aM⟩ := at_T100 bf.out aa bq br;cases ca;try replace aI := Sh.cw aI
           try replace aJ := Sh.cw aJ
           have bg := am_ aM;have bh := am_ aK;clear aM aK;replace bq := eq_true bq;replace br := eq_true br;try go_wp2_with (first | ((with_reducible refine Sh.d 9 ?_); refine Sh.bx (N := 9) (cs := #[.int .i64 0, .slice none 0 0]) (t := 100) (h := ?_); intro af hg bK hbox hb; replace ak := am_ (Kd.R_below (Sh.rl ak.out) hb); have aj := am_ hbox; have cu := Sh.ag w hg; replace HB := Sh.hb hb; have ao := am_ (Sh.nl hg ae.out); have aN := am_ (Sh.ng hg ae.out); replace ae := Sh.ab ae hb; clear hb hbox hg; have cv := aN.out; have cx := ao.out; obtain ⟨bV, bW, bX, bY⟩ := Sh.b2 aj.out))
           have bu : Aside0 (Kd.R (Kd.int .u64) 75 ((bK.setCell ⟨af, 0, none⟩ (.int .i64 ((rd_T100 ((rd_T82 ac a2).f1) aa).f0))).setCell ⟨af, 1, none⟩ (.slice ah ((rd_T100 ((rd_T82 ac a2).f1) aa).f1).length ai)) w.heap.size (fun _ => True) bG aC) := ⟨Sh.rl (Kd.R_mono (Kd.R_far (p := ⟨af, 1, none⟩) (Kd.R_far (p := ⟨af, 0, none⟩) (Kd.R_types ak.out aj.out (by decide)) (fun _ hk => hk.2) (.int .i64 ((rd_T100 ((rd_T82 ac a2).f1) aa).f0))) (fun _ hk => hk.2) (.slice ah ((rd_T100 ((rd_T82 ac a2).f1) aa).f1).length ai)) (fun _ hk => trivial))⟩;have bv : Aside0 (((bK.setCell ⟨af, 0, none⟩ (.int .i64 ((rd_T100 ((rd_T82 ac a2).f1) aa).f0))).setCell ⟨af, 1, none⟩ (.slice ah ((rd_T100 ((rd_T82 ac a2).f1) aa).f1).length ai)).heap[au]? = some (.cells #[.int .i64 am, .int .i64 ar, .slice ay al.length az, .slice (some aU) ac.length aA] 33 (0, 0))) := ⟨by refine Sh.pl ?_; refine blk_far ?_ ao.out _; refine Sh.pl ?_; refine blk_far ?_ ao.out _; refine Sh.pl ?_; exact ae.out⟩;have bA : Aside0 (((bK.setCell ⟨af, 0, none⟩ (.int .i64 ((rd_T100 ((rd_T82 ac a2).f1) aa).f0))).setCell ⟨af, 1, none⟩ (.slice ah ((rd_T100 ((rd_T82 ac a2).f1) aa).f1).length ai)).heap[af]? = some (.cells #[.int .i64 ((rd_T100 ((rd_T82 ac a2).f1) aa).f0), .slice ah ((rd_T100 ((rd_T82 ac a2).f1) aa).f1).length ai] 100 (0, 0))) := ⟨by refine Sh.pl ?_; refine blk_put (cs := #[.int .i64 ((rd_T100 ((rd_T82 ac a2).f1) aa).f0), .slice none 0 0]) ?_ 1 _ rfl; refine Sh.pl ?_; refine blk_put (cs := #[.int .i64 0, .slice none 0 0]) ?_ 0 _ rfl; refine Sh.pl ?_; exact aj.out⟩;have cb : Aside0 (Below w.heap.size w ((bK.setCell ⟨af, 0, none⟩ (.int .i64 ((rd_T100 ((rd_T82 ac a2).f1) aa).f0))).setCell ⟨af, 1, none⟩ (.slice ah ((rd_T100 ((rd_T82 ac a2).f1) aa).f1).length ai))) := ⟨Sh.bw⟩;(try clear ak);(try clear ae);(try clear aj);(try clear HB);generalize ((bK.setCell ⟨af, 0, none⟩ (.int .i64 ((rd_T100 ((rd_T82 ac a2).f1) aa).f0))).setCell ⟨af, 1, none⟩ (.slice ah ((rd_T100 ((rd_T82 ac a2).f1) aa).f1).length ai)) = cD at bu bv bA cb ⊢;have ak := bu;have ae := bv;have aj := bA;have HB := cb;clear bu bv bA cb;replace ak := am_ (Kd.R_drew ak.out);replace ae := am_ (blk_drew ae.out);replace aj := am_ (blk_drew aj.out);replace HB := am_ (below_drew1 HB.out);refine start_ (n := 15) (S := fun w' => w'.cell? ⟨af, 0, none⟩ = some (.int .i64 ((rd_T100 ((rd_T82 ac a2).f1) aa).f0)) ∧ w'.cell? ⟨af, 1, none⟩ = some (.slice ah ((rd_T100 ((rd_T82 ac a2).f1) aa).f1).length ai) ∧ w'.cell? ⟨au, 0, none⟩ = some (.int .i64 am) ∧ w'.cell? ⟨au, 1, none⟩ = some (.int .i64 ar) ∧ w'.cell? ⟨au, 2, none⟩ = some (.slice ay al.length az) ∧ w'.cell? ⟨au, 3, none⟩ = some (.slice (some aU) ac.length aA)) (ds := [14]) (Sh.nm 15 0) (by kernel_rfl) rfl rfl Sh.cs (fun hHeld => ?_); refine with_tabW QaB.tab5 QaB.bits5 (fun HT_ HW_ => ?_);generalize cD.drew = cL at ak ae aj HB hHeld ⊢;refine Sh.qA 0 ?_; refine Sh.qA 1 ?_; refine Sh.qA 3 ?_; refine Sh.qA 5 ?_; refine Sh.qA 7 ?_; refine Sh.qA 11 ?_; refine Sh.qT 2 hHeld ?_; refine Sh.qT 4 hHeld ?_; refine Sh.qT 6 hHeld ?_; refine Sh.qT 8 hHeld ?_; refine Sh.qA 9 ?_; refine Sh.qA 10 ?_;refine Sh.oC 12 Tryz.func59 #[.int .i64 am, .slice ah ((rd_T100 ((rd_T82 ac a2).f1) aa).f1).length ai, .int .i64 (wrap64 ((((rd_T100 ((rd_T82 ac a2).f1) aa).f1).length : Int) - 1)), .slice A1 l1.length c1] fun K hK => ?_;with_reducible refine (Qal.calls k1 am _ _ ((rd_T100 ((rd_T82 ac a2).f1) aa).f1) (wrap64 ((((rd_T100 ((rd_T82 ac a2).f1) aa).f1).length : Int) - 1)) _ _ l1 bp _ (Sh.cB bg.out) bh.out (Sh.cB cp.out) cz.out cC.out).mono ?_
           rintro e cM ⟨rfl, hb⟩;refine ⟨_, rfl, ?_⟩;replace ak := am_ (Kd.R_below (Sh.rl ak.out) hb);replace ae := Sh.ab ae hb;replace aj := Sh.ab aj hb;replace HB := Sh.hb hb;(try clear hb);have cd : 0 ≤ (((rd_T100 ((rd_T82 ac a2).f1) aa).f0) : Int) := Sh.od;have ce : (((rd_T100 ((rd_T82 ac a2).f1) aa).f0) : Int) < ((aC.length : Int) : Int) := Sh.od;obtain ⟨cE, cF, bL, bM, cf, cG, bN⟩ := Kd.R_form ak.out (by omega);(first | cases bL | (injection bL with ea_ en_ ec_; (first | subst ea_ | (injection ea_ with ea_; subst ea_)); subst ec_; clear en_));have cH := am_ bM;have cI := am_ bN;clear bM cf bN;obtain ⟨cg, ch⟩ := Kd.R_celln 0 ak.out (((rd_T100 ((rd_T82 ac a2).f1) aa).f0) : Int) cd ce;replace cd := eq_true cd;replace ce := eq_true ce;have bs := Kd.R_putn ak.out (((rd_T100 ((rd_T82 ac a2).f1) aa).f0) : Int) bp;rw [← bJ.out] at bs;have ci := am_ bs;clear bs;refine Sh.kN hK Sh.cs fun hHeld => ?_;clear hK K;refine Sh.qA 13 ?_;refine last_ (i := 14) (N := none) (Sh.nm 15 32767) rfl rfl (one_of HT_.out (by kernel_rfl)) (by decide) (fun K hK => ?_);refine skip_ (w1 := ?_) (by rfl) rfl ?_ ?_;rotate_left
           ·go_simp
            rfl
           refine hK.out _ _ ?_;clear hK K;refine done_ (done_of HT_.out (by kernel_rfl)) ?_;try go_wp2
           go_roundg k1
           case measure => have := cr.out; omega
           case rel => exact ⟨(bI), (wrap64 (aa + 1)), (Sh.es), H', ⟨by have := cr.out; omega⟩, ⟨by (with_reducible repeat (first | apply Kd.R_alloc | apply Kd.R_drewN | apply Kd.R_drew)); exact ci.out⟩, ⟨by refine Sh.pl ?_; refine blk_far ?_ (by have h_ := Kd.R_ne ak.out ae.out (by decide); intro e_; exact h_ (by rw [e_]; rfl)) _; refine Sh.pl ?_; exact ae.out⟩, ⟨Sh.bw⟩⟩
          ·rw [if_neg bU] at H
           cases H
         ·rw [if_neg bT] at H
          cases H
        ·rw [if_neg bS] at H
         cases H
       ·rw [if_neg bR] at H
        cases H
      ·rw [if_neg bB] at H
       replace bB := decide_eq_false bB;obtain rfl := Option.some.inj H;go_wp2;go_ret;exact ⟨_, Sh.eR, Sh.rl ak.out, Sh.bw⟩
   ·rw [if_neg c6] at H
    cases H
  ·rw [if_neg c5] at H
   cases H
 ·rw [if_neg c4] at H
  cases H
def Qar.l0 : Nat → Int → List Int → List Int → List Int → Int → Int → Int → Int → List (S77) → List (S82) → Option (List Int)
 | 0, _, _, _, _, _, _, _, _, _, _ => none
 | k + 1, x1, x5, x6, ai, am, ah, aa, ac, ae, af => if ah < am then (if 0 ≤ ah then (if ah < (ai.length : Int) then ((QaB.f k aa ac ae af x5 (rd ai ah)).bind fun aj => ((QaN.f k aa ac ae af aj).bind fun ak => ((QaD.f k x6 ak).bind fun al => (Qar.l0 k x1 x5 al ai am (wrap64 (ah + 1)) aa ac ae af)))) else (none)) else (none)) else (if (x6.length : Int) = 0 then (some (([x1] : List Int))) else (some x6))
def Qar.f (k : Nat) (aa : Int) (ac : Int) (ae : List (S77)) (af : List (S82)) (a1 : Int) : Option (List Int) := (QaC.f k aa ac ae af a1).bind fun ah => ((QaS.f k aa ac ae af ah).bind fun ai => (Qar.l0 k a1 ah ([] : List Int) ai (ai.length : Int) 0 aa ac ae af))
theorem Qar.mono_l : ∀ k, (∀ y0 y1 y2 y3 y4 y5 y6 y7 y8 y9, LeO (Qar.l0 k y0 y1 y2 y3 y4 y5 y6 y7 y8 y9) (Qar.l0 (k + 1) y0 y1 y2 y3 y4 y5 y6 y7 y8 y9))
 | 0 => fun _ _ _ _ _ _ _ _ _ _ r h => by simp [Qar.l0] at h
 | k + 1 => by
  have aa := Qar.mono_l k
  ·intro y0 y1 y2 y3 y4 y5 y6 y7 y8 y9
   unfold Qar.l0
   repeat' with_reducible first | apply aa | apply QaD.mono | apply QaB.mono | apply QaS.mono | apply QaN.mono | apply QaC.mono | exact LeO.refl _ | exact LeO.none _ | apply LeO.ite | refine LeO.bind ?_ fun _ => ?_
theorem Qar.mono : ∀ a0 a1 a2 a3 a4 k, LeO (Qar.f k a0 a1 a2 a3 a4) (Qar.f (k + 1) a0 a1 a2 a3 a4) := by
 intro a0 a1 a2 a3 a4 k;have aa := Qar.mono_l k;unfold Qar.f;repeat' with_reducible first | apply aa | apply QaD.mono | apply QaB.mono | apply QaS.mono | apply QaN.mono | apply QaC.mono | exact LeO.refl _ | exact LeO.none _ | apply LeO.ite | refine LeO.bind ?_ fun _ => ?_
def Qar.T6 : Bool × List (List Nat × List Nat) := (true, [([], []), ([], []), ([], []), ([], []), ([], []), ([2, 3, 4], [2, 3, 4]), ([1, 5, 5], [1, 5]), ([0, 6, 6], [0, 6]), ([7, 7, 0, 1, 2, 3, 4, 5, 6, 7], [0, 7])])
def Qar.B6 : List Nat := [0, 0, 0, 0, 0, 28, 62, 127, 255]
theorem Qar.tab6 : rtab .any (opsOf Tryz.f18 6) = Qar.T6 := by kernel_rfl
theorem Qar.bits6 : waitsOk Qar.T6.2 Qar.B6 = true := by kernel_rfl
theorem Qar.calls (k : Nat) (ak : Int) (al : Int) (ar : Option Addr) (au : Nat) (ah : List (S77)) (av : Option Addr) (aw : Nat) (ai : List (S82)) (a1 : Int) (r : List Int) (w : World) (aH : Kd.C k77 w ar ah.length ah) (aI : ah.length ≤ au) (aJ : Kd.C k82 w av ai.length ai) (aK : ai.length ≤ aw) (h : Qar.f k ak al ah ai a1 = some r) :
  Calls Tryz.prog 18 #[.agg #[.int .i64 ak, .int .i64 al, .slice ar ah.length au, .slice av ai.length aw], .int .i64 a1] w fun e w' => ∃ bS : Value, e = .returned (bS) ∧ Kd.R (Kd.int .i64) 3 w' w.heap.size (fun _ => True) bS r ∧ Below w.heap.size w w' := by
 have b0 := Tryz.underlying33;have aB := am_ aH;have aC := am_ aI;clear aH aI;have aD := am_ aJ;have aE := am_ aK;clear aJ aK;have HB := am_ (Below.refl w.heap.size w);have H := h;clear h;unfold Qar.f at H;obtain ⟨ax, A3, H⟩ := Sh.ba H;obtain ⟨ap, A4, H⟩ := Sh.ba H;have H' := am_ H;clear H;go_enter Tryz.func18, Tryz.ntmps18;go_wp2_with (first | ((with_reducible refine Sh.d 2 ?_); refine Sh.bz w (N := 2) (cs := #[.int .i64 ak, .int .i64 al, .slice ar ah.length au, .slice av ai.length aw]) (t := 33) (h := ?_); clear HB; intro ay w5 aa bm HB; obtain ⟨aO, aP, aQ, aR, aS, aT, aU, aV⟩ := Sh.b4 aa.out) | ((with_reducible refine Sh.k 37 ?_); refine Sh.gL (some 11) Tryz.func37 #[.agg #[.int .i64 ak, .int .i64 al, .slice ar ah.length au, .slice av ai.length aw], .int .i64 a1] (h := ?_); (with_reducible refine (QaC.calls k ak al _ _ ah _ _ ai a1 ax _ (Sh.cB aB.out) aC.out (Sh.cB aD.out) aE.out A3.out).mono ?_); rintro e w7 ⟨b1, rfl, aF, hb⟩; refine ⟨_, rfl, ?_⟩; have aq := am_ (Kd.R_lower aF (below_size Sh.bw)); replace aa := Sh.ab aa hb; replace HB := Sh.hb hb; (try clear hb); (try clear aF); obtain ⟨aW, aX, aY, aZ, a2, a6, a7, a8⟩ := Sh.b4 aa.out; obtain ⟨bD, bE, b6⟩ := Kd.R_slice aq.out; subst b6) | ((with_reducible refine Sh.k 38 ?_); refine Sh.gL (some 14) Tryz.func38 #[.agg #[.int .i64 ak, .int .i64 al, .slice ar ah.length au, .slice av ai.length aw], .slice bD ax.length bE] (h := ?_); (with_reducible refine (QaS.calls k ak al _ _ ah _ _ ai _ _ ax ap _ (Sh.cB aB.out) aC.out (Sh.cB aD.out) aE.out (Sh.cR (Kd.R_reads' aq.out).2.2) (Kd.R_reads' aq.out).2.1 A4.out).mono ?_); rintro e cj ⟨b7, rfl, aF, hb⟩; refine ⟨_, rfl, ?_⟩; replace aq := am_ (Kd.R_below (Sh.rl aq.out) hb); have aL := am_ (Kd.R_lower aF (below_size Sh.bw)); replace aa := Sh.ab aa hb; replace HB := Sh.hb hb; (try clear hb); (try clear aF); obtain ⟨bn, bf, bI⟩ := Kd.R_slice aL.out; subst bI));go_loopg [6, 16] k (fun kq v6 b8 w' => ∃ (am : List Int) (af : Int), b8 = .int .i64 af ∧ Aside0 (Qar.l0 kq a1 ax am ap (ap.length : Int) af ak al ah ai = some r) ∧ Aside0 (kq ≤ k) ∧ Aside0 (Kd.R (Kd.int .u64) 75 w' w.heap.size (fun _ => True) (.slice bD ax.length bE) ax) ∧ Aside0 (Kd.R (Kd.int .i64) 3 w' w.heap.size (fun k_ => some k_ ≠ ((.slice bn ap.length bf) : Value).ownBlock) v6 am) ∧ Aside0 (Kd.R (Kd.int .i64) 3 w' w.heap.size (fun k_ => some k_ ≠ (v6 : Value).ownBlock) (.slice bn ap.length bf) ap) ∧ Aside0 (w'.heap[ay]? = some (.cells #[.int .i64 ak, .int .i64 al, (.slice ar ah.length au), (.slice av ai.length aw)] 33 (0, 0))) ∧ Aside0 (Below w.heap.size w w'))
 case atStart => exact ⟨(([] : List Int)), (0), (Sh.es), H', ⟨Nat.le_refl _⟩, ⟨Sh.rl aq.out⟩, ⟨by first | exact Kd.R_nil _ _ _ _ _ | exact Kd.N_nil _ _ _ _ _ | exact Kd.V_nil _ _ _ _ _ | exact Kd.Q_nil _ _ _ _ _ | exact Kd.S_nil _ _ _ _ _⟩, ⟨Sh.rl (Kd.R_mono aL.out (fun _ hk => (by simp [Value.ownBlock])))⟩, ⟨by refine Sh.pl ?_; exact aa.out⟩, ⟨Sh.bw⟩⟩
 case round =>
  clear H';try clear aO
  try clear aP
  try clear aQ
  try clear aR
  try clear aW
  try clear aX
  try clear aY
  try clear aZ
  try clear aS
  try clear aT
  try clear aU
  try clear aV
  try clear a2
  try clear a6
  try clear a7
  try clear a8
  obtain ⟨am, af, rfl, HA, bT, aj, ae, ac, aa, HB⟩ := hrel;cases gk with
  | zero => exact absurd HA.out (by simp [Qar.l0])
  | succ k1 =>
   have H := HA.out;clear HA;simp only [Qar.l0] at H;by_cases bl : af < (ap.length : Int)
   ·rw [if_pos bl] at H
    replace bl := decide_eq_true bl;by_cases bF : 0 ≤ af
    ·rw [if_pos bF] at H
     replace bF := decide_eq_true bF;by_cases bG : af < (ap.length : Int)
     ·rw [if_pos bG] at H
      replace bG := decide_eq_true bG;obtain ⟨aG, b9, H⟩ := Sh.ba H;obtain ⟨bg, ca, H⟩ := Sh.ba H;obtain ⟨bo, cb, H⟩ := Sh.ba H;have H' := am_ H;clear H;have bh : 0 ≤ (af : Int) := Sh.od;have bi : af < (ap.length : Int) := Sh.od;obtain ⟨bp, bJ, bH⟩ := Kd.at_int (Kd.R_reads' ac.out).2.2 af bh bi;cases bJ;replace bh := eq_true bh;replace bi := eq_true bi;try go_wp2
      replace aj := am_ (Kd.R_drew aj.out);replace ae := am_ (Kd.R_drew ae.out);replace ac := am_ (Kd.R_drew ac.out);replace aa := am_ (blk_drew aa.out);replace HB := am_ (below_drew1 HB.out);refine start_ (n := 9) (S := fun w' => w'.cell? ⟨ay, 0, none⟩ = some (.int .i64 ak) ∧ w'.cell? ⟨ay, 1, none⟩ = some (.int .i64 al) ∧ w'.cell? ⟨ay, 2, none⟩ = some (.slice ar ah.length au) ∧ w'.cell? ⟨ay, 3, none⟩ = some (.slice av ai.length aw)) (ds := []) (Sh.nm 9 0) (by kernel_rfl) rfl rfl Sh.cs (fun hHeld => ?_); refine with_tabW Qar.tab6 Qar.bits6 (fun HT_ HW_ => ?_);generalize wr.drew = ck at aj ae ac aa HB hHeld ⊢;refine Sh.qA 0 ?_; refine Sh.qA 3 ?_; refine Sh.qA 4 ?_; refine Sh.qT 1 hHeld ?_; refine Sh.qT 2 hHeld ?_;refine Sh.oC 5 Tryz.func41 #[.agg #[.int .i64 ak, .int .i64 al, .slice ar ah.length au, .slice av ai.length aw], .slice bD ax.length bE, .int .i64 (rd ap af)] fun K hK => ?_;with_reducible refine (QaB.calls k1 ak al _ _ ah _ _ ai _ _ ax (rd ap af) aG _ (Sh.cB aB.out) aC.out (Sh.cB aD.out) aE.out (Sh.cR (Kd.R_reads' aj.out).2.2) (Kd.R_reads' aj.out).2.1 b9.out).mono ?_
      rintro e cl ⟨cd, rfl, aF, hb⟩;refine ⟨_, rfl, ?_⟩;replace ae := am_ (Kd.R_below (Sh.rl ae.out) hb);replace ac := am_ (Kd.R_below (Sh.rl ac.out) hb);have ao := am_ (Kd.R_lower (Kd.R_new' aF (Kd.R_lt (Sh.rl aj.out))) (below_size Sh.bw));replace aj := am_ (Kd.R_elder' (Sh.rl aj.out) (Kd.R_base aF) hb);replace aa := Sh.ab aa hb;replace HB := Sh.hb hb;(try clear hb);(try clear hk);(try clear aF);obtain ⟨bq, br, bs⟩ := Kd.R_slice ao.out;(first | subst bs | (injection bs with bu bK bv; have bL := bu.symm; have bM := bv.symm; clear bu bK bv; subst bL; subst bM));refine Sh.kN hK Sh.cs fun hHeld => ?_;clear hK K;refine Sh.oC 6 Tryz.func40 #[.agg #[.int .i64 ak, .int .i64 al, .slice ar ah.length au, .slice av ai.length aw], .slice bq aG.length br] fun K hK => ?_;with_reducible refine (QaN.calls k1 ak al _ _ ah _ _ ai _ _ aG bg _ (Sh.cB aB.out) aC.out (Sh.cB aD.out) aE.out (Sh.cR (Kd.R_reads' ao.out).2.2) (Kd.R_reads' ao.out).2.1 ca.out).mono ?_
      rintro e cm ⟨rfl, hb⟩;refine ⟨_, rfl, ?_⟩;replace aj := am_ (Kd.R_below (Sh.rl aj.out) hb);replace ae := am_ (Kd.R_below (Sh.rl ae.out) hb);replace ac := am_ (Kd.R_below (Sh.rl ac.out) hb);replace ao := am_ (Kd.R_below (Sh.rl ao.out) hb);replace aa := Sh.ab aa hb;replace HB := Sh.hb hb;(try clear hb);obtain ⟨bj, bk, bA⟩ := Kd.R_slice ae.out;(first | subst bA | (injection bA with bu bK bv; have bL := bu.symm; have bM := bv.symm; clear bu bK bv; subst bL; subst bM));refine Sh.kN hK Sh.cs fun hHeld => ?_;clear hK K;refine Sh.oC 7 Tryz.func39 #[.slice bj am.length bk, .int .i64 bg] fun K hK => ?_;with_reducible refine (QaD.calls k1 (fun k_ => some k_ = (.slice bj am.length bk : Value).ownBlock) (.slice bj am.length bk) am bg bo w _ ?side1 ?side2 cb.out).mono ?_
      (case side1 => repeat (first | (with_reducible first | exact HB.out | apply below_alloc | apply pw_below_drewN | apply below_drew1 | refine below_set ?_ bm.out) | exact HB.out));(case side2 => exact Kd.R_tight rfl ae.out);rintro e cn ⟨bN, rfl, aF, hb, hkp⟩;refine ⟨_, rfl, ?_⟩;have bU := am_ (Kd.R_mono (ok' := fun k_ => some k_ ≠ (.slice bq aG.length br : Value).ownBlock) (Kd.R_keptB ((Kd.R_apart' aj.out (Kd.R_typed ae.out) (by decide))) hkp (fun k_ hk_ hs_ => (hk_.2) hs_)) (fun k_ hk_ => hk_.1.1.2));have bV := am_ (Kd.R_mono (ok' := fun k_ => some k_ ≠ (bN : Value).ownBlock) (Kd.R_keptB (ac.out) hkp (fun k_ hk_ hs_ => (hk_) hs_)) (fun k_ hk_ => fun e_ => Or.elim (aF.1 k_ e_.symm) (fun hs_ => hk_.2.1 hs_) (fun hn_ => Nat.not_le.2 hk_.2.2 hn_)));have bW := am_ (blk_kept (Sh.pl aa.out) hkp (fun hs_ => (fun e_ => (Kd.R_ne ae.out aa.out (by decide)) e_) hs_));have bX := am_ (Kd.R_mono (ok' := fun k_ => some k_ ≠ (.slice bD ax.length bE : Value).ownBlock) (Kd.R_keptB ((Kd.R_apart' ao.out (Kd.R_typed ae.out) (by decide))) hkp (fun k_ hk_ hs_ => (hk_.2) hs_)) (fun k_ hk_ => hk_.1.1.2));have bY := am_ (Kd.R_mono (ok' := fun k_ => some k_ ≠ (.slice (some bp) ap.length bf : Value).ownBlock) aF (fun k_ hk_ => Or.elim hk_ (fun hs_ => fun e_ => (((ac.out).1 k_ e_.symm)) hs_) (fun hn_ => (Kd.fresh' (Kd.R_lt (Sh.rl ac.out)) k_ hn_))));have bZ := am_ hb;clear aj;clear ac;clear aa;clear ao;clear HB;clear ae;have aj := bU;have ac := bV;have aa := bW;have ao := bX;have bB := bY;have HB := bZ;clear bU bV bW bX bY bZ;(try clear hb);(try clear hkp);(try clear aF);refine Sh.kN hK Sh.cs fun hHeld => ?_;clear hK K;refine Sh.qA 8 ?_;refine done_ (done_of HT_.out (by kernel_rfl)) ?_;try go_wp2
      go_roundg k1
      case measure => have := bT.out; omega
      case rel => exact ⟨(bo), (wrap64 (af + 1)), (Sh.es), H', ⟨by have := bT.out; omega⟩, ⟨Sh.rl (Kd.R_mono aj.out (fun _ hk => trivial))⟩, ⟨Sh.rl bB.out⟩, ⟨Sh.rl ac.out⟩, ⟨by refine Sh.pl ?_; exact aa.out⟩, ⟨Sh.bw⟩⟩
     ·rw [if_neg bG] at H
      cases H
    ·rw [if_neg bF] at H
     cases H
   ·rw [if_neg bl] at H
    replace bl := decide_eq_false bl;by_cases aM : (am.length : Int) = 0
    ·rw [if_pos aM] at H
     have c24b0 : ((am.length : Int) == 0) = true := beq_iff_eq.mpr aM;have c24b1 : ((am.length : Int) != 0) = false := bne_eq_false_iff_eq.mpr aM;clear aM;obtain ⟨bO, az⟩ : ∃ y_ : List Int, y_ = (([a1] : List Int)) := ⟨_, rfl⟩;replace H : (some bO) = some r := by first | (rw [az]; with_reducible exact H) | (have bP := (Option.bind_some _ _).symm.trans H; rw [az]; with_reducible exact bP) | (have bP := (Option.bind_some _ _).symm.trans H; with_reducible exact bP) | with_reducible exact H | (rw [az]; exact H) | exact H
     have aN := am_ az;clear az;obtain rfl := Option.some.inj H;obtain ⟨ce, cf, bQ⟩ := Kd.R_slice ae.out;subst bQ;go_wp2_with (first | ((with_reducible refine Sh.d 33 ?_); refine Kd.R_lit (Kd.int .i64) _ 3 ?hg (N := 33) ?hd (xs := ([a1] : List Int)) (inner := [.int .i64 a1]) (ok := fun _ => True) (okp := fun _ => True) ?hr ?hp (fun _ hk => hk) trivial (Below.refl _ _) (Nat.le_refl _) (by simp) ?_; (case hd => rfl); (case hg => rfl); (case hr => first | (go_simp; done) | (go_simp; rfl)); (case hp => exact (Reps.one (show Kd.M (Kd.int .i64) _ _ _ a1 [.int .i64 a1] from rfl) (Reps.none _ _))); intro cg co aA hb hg_ hnew_; clear hg_ hnew_; (first | rw [← aN.out] at aA | (simp only [Int.reduceToNat] at aA; rw [← aN.out] at aA)); replace aj := am_ (Kd.R_below (Sh.rl aj.out) hb); have bC := am_ (Kd.R_lower (Kd.R_new' (Kd.R_new' aA (Kd.R_lt (Sh.rl ae.out))) (Kd.R_lt (Sh.rl ac.out))) (below_size Sh.bw)); replace ae := am_ (Kd.R_elder' (Sh.rl ae.out) (Kd.R_base aA) hb); replace ac := am_ (Kd.R_elder' (Sh.rl ac.out) (Kd.R_base aA) hb); replace aa := Sh.ab aa hb; replace HB := Sh.hb hb; clear hb aA));go_ret;exact ⟨_, Sh.eR, Sh.rl (Kd.R_mono bC.out (fun _ hk => trivial)), Sh.bw⟩
    ·rw [if_neg aM] at H
     have c24b0 : ((am.length : Int) == 0) = false := beq_eq_false_iff_ne.mpr aM;have c24b1 : ((am.length : Int) != 0) = true := bne_iff_ne.mpr aM;have c24b2 : ¬ (am = []) := fun h_ => aM (by rw [h_]; rfl);obtain rfl := Option.some.inj H;obtain ⟨ch, ci, bR⟩ := Kd.R_slice ae.out;subst bR;go_wp2;go_ret;exact ⟨_, Sh.eR, Sh.rl (Kd.R_mono ae.out (fun _ hk => trivial)), Sh.bw⟩
mutual
def Qak.l0 : Nat → List Int → List Int → Int → Int → Int → Int → List (S77) → List (S82) → Option (List Int)
 | 0, _, _, _, _, _, _, _, _ => none
 | k + 1, x5, ai, aj, ah, aa, ac, ae, af => if ah < aj then (if 0 ≤ ah then (if ah < (ai.length : Int) then ((Qar.f k aa ac ae af (rd ai ah)).bind fun ak => (Qak.l1 k x5 ai aj ah ak (ak.length : Int) 0 aa ac ae af)) else (none)) else (none)) else (some x5)
def Qak.l1 : Nat → List Int → List Int → Int → Int → List Int → Int → Int → Int → Int → List (S77) → List (S82) → Option (List Int)
 | 0, _, _, _, _, _, _, _, _, _, _, _ => none
 | k + 1, x5, ai, aj, ah, am, ap, al, aa, ac, ae, af => if al < ap then (if 0 ≤ al then (if al < (am.length : Int) then ((QaD.f k x5 (rd am al)).bind fun ao => (Qak.l1 k ao ai aj ah am ap (wrap64 (al + 1)) aa ac ae af)) else (none)) else (none)) else (Qak.l0 k x5 ai aj (wrap64 (ah + 1)) aa ac ae af)
end
def Qak.f (k : Nat) (aa : Int) (ac : Int) (ae : List (S77)) (af : List (S82)) (l1 : List Int) : Option (List Int) := Qak.l0 k ([] : List Int) l1 (l1.length : Int) 0 aa ac ae af
theorem Qak.mono_l : ∀ k, (∀ y0 y1 y2 y3 y4 y5 y6 y7, LeO (Qak.l0 k y0 y1 y2 y3 y4 y5 y6 y7) (Qak.l0 (k + 1) y0 y1 y2 y3 y4 y5 y6 y7)) ∧ (∀ y0 y1 y2 y3 y4 y5 y6 y7 y8 y9 aa, LeO (Qak.l1 k y0 y1 y2 y3 y4 y5 y6 y7 y8 y9 aa) (Qak.l1 (k + 1) y0 y1 y2 y3 y4 y5 y6 y7 y8 y9 aa))
 | 0 => ⟨fun _ _ _ _ _ _ _ _ r h => by simp [Qak.l0] at h, fun _ _ _ _ _ _ _ _ _ _ _ r h => by simp [Qak.l1] at h⟩
 | k + 1 => by
  obtain ⟨ac, ae⟩ := Qak.mono_l k
  and_intros <;> intros
  all_goals (first | unfold Qak.l0 | unfold Qak.l1)
  all_goals repeat' with_reducible first | apply ac | apply ae | apply QaD.mono | apply Qar.mono | exact LeO.refl _ | exact LeO.none _ | apply LeO.ite | refine LeO.bind ?_ fun _ => ?_
theorem Qak.mono : ∀ a0 a1 a2 a3 a4 k, LeO (Qak.f k a0 a1 a2 a3 a4) (Qak.f (k + 1) a0 a1 a2 a3 a4) := by
 intro a0 a1 a2 a3 a4 k;obtain ⟨aa, ac⟩ := Qak.mono_l k;unfold Qak.f;repeat' with_reducible first | apply aa | apply ac | apply QaD.mono | apply Qar.mono | exact LeO.refl _ | exact LeO.none _ | apply LeO.ite | refine LeO.bind ?_ fun _ => ?_
theorem Qak.calls (k : Nat) (al : Int) (am : Int) (aq : Option Addr) (ar : Nat) (af : List (S77)) (au : Option Addr) (av : Nat) (ah : List (S82)) (A1 : Option Addr) (c1 : Nat) (l1 : List Int) (r : List Int) (w : World) (ax : Kd.C k77 w aq af.length af) (ay : af.length ≤ ar) (az : Kd.C k82 w au ah.length ah) (aA : ah.length ≤ av) (hr1 : Kd.C (Kd.int .i64) w A1 l1.length l1) (bn : l1.length ≤ c1) (h : Qak.f k al am af ah l1 = some r) :
  Calls Tryz.prog 34 #[.agg #[.int .i64 al, .int .i64 am, .slice aq af.length ar, .slice au ah.length av], .slice A1 l1.length c1] w fun e w' => ∃ bo : Value, e = .returned (bo) ∧ Kd.R (Kd.int .i64) 3 w' w.heap.size (fun _ => True) bo r ∧ Below w.heap.size w w' := by
 have bv := Tryz.underlying33;have aU := am_ ax;have aV := am_ ay;clear ax ay;have aW := am_ az;have aX := am_ aA;clear az aA;have bA := am_ hr1;have bF := am_ bn;clear hr1 bn;have HB := am_ (Below.refl w.heap.size w);have H := h;clear h;unfold Qak.f at H;have H' := am_ H;clear H;go_enter Tryz.func34, Tryz.ntmps34;go_wp2_with (first | ((with_reducible refine Sh.d 2 ?_); refine Sh.bz w (N := 2) (cs := #[.int .i64 al, .int .i64 am, .slice aq af.length ar, .slice au ah.length av]) (t := 33) (h := ?_); clear HB; intro aB w3 aa aY HB));go_loopg [5, 12] k (fun kq v5 bB w' => ∃ (aw : List Int) (ac : Int), bB = .int .i64 ac ∧ Aside0 (Qak.l0 kq aw l1 (l1.length : Int) ac al am af ah = some r) ∧ Aside0 (kq ≤ k) ∧ Aside0 (Kd.R (Kd.int .i64) 3 w' w.heap.size (fun _ => True) v5 aw) ∧ Aside0 (w'.heap[aB]? = some (.cells #[.int .i64 al, .int .i64 am, (.slice aq af.length ar), (.slice au ah.length av)] 33 (0, 0))) ∧ Aside0 (Below w.heap.size w w'))
 case atStart => exact ⟨(([] : List Int)), (0), (Sh.es), H', ⟨Nat.le_refl _⟩, ⟨by first | exact Kd.R_nil _ _ _ _ _ | exact Kd.N_nil _ _ _ _ _ | exact Kd.V_nil _ _ _ _ _ | exact Kd.Q_nil _ _ _ _ _ | exact Kd.S_nil _ _ _ _ _⟩, ⟨by refine Sh.pl ?_; exact aa.out⟩, ⟨Sh.bw⟩⟩
 case round =>
  clear H';obtain ⟨aw, ac, rfl, HA, a7, aj, aa, HB⟩ := hrel;cases gk with
  | zero => exact absurd HA.out (by simp [Qak.l0])
  | succ k1 =>
   have H := HA.out;clear HA;simp only [Qak.l0] at H;by_cases c4 : ac < (l1.length : Int)
   ·rw [if_pos c4] at H
    replace c4 := decide_eq_true c4;by_cases c5 : 0 ≤ ac
    ·rw [if_pos c5] at H
     replace c5 := decide_eq_true c5;by_cases c6 : ac < (l1.length : Int)
     ·rw [if_pos c6] at H
      replace c6 := decide_eq_true c6;obtain ⟨ai, A7, H⟩ := Sh.ba H;have H' := am_ H;clear H;have aD : 0 ≤ (ac : Int) := Sh.od;have aE : ac < (l1.length : Int) := Sh.od;obtain ⟨bp, bi, ao⟩ := Kd.at_int bA.out ac aD aE;cases bi;try replace ao := Sh.cw ao
      replace aD := eq_true aD;replace aE := eq_true aE;have aF := Sh.bc aa.out 0;have aG := Sh.bc aa.out 1;have aH := Sh.bc aa.out 2;have aI := Sh.bc aa.out 3;have aJ := blk_frozen aa.out 0;have aK := blk_frozen aa.out 1;have aL := blk_frozen aa.out 2;have aM := blk_frozen aa.out 3;go_wp2_with (first | ((with_reducible refine Sh.k 18 ?_); refine Sh.gL (some 18) Tryz.func18 #[.agg #[.int .i64 al, .int .i64 am, .slice aq af.length ar, .slice au ah.length av], .int .i64 (rd l1 ac)] (h := ?_); (with_reducible refine (Qar.calls k1 al am _ _ af _ _ ah (rd l1 ac) ai _ (Sh.cB aU.out) aV.out (Sh.cB aW.out) aX.out A7.out).mono ?_); rintro e w9 ⟨bC, rfl, aN, hb⟩; refine ⟨_, rfl, ?_⟩; have aC := am_ (Kd.R_lower (Kd.R_new' aN (Kd.R_lt (Sh.rl aj.out))) (below_size Sh.bw)); replace aj := am_ (Kd.R_elder' (Sh.rl aj.out) (Kd.R_base aN) hb); replace aa := Sh.ab aa hb; replace HB := Sh.hb hb; (try clear hb); (try clear hk); (try clear aN); obtain ⟨aZ, aO, bj⟩ := Kd.R_slice aC.out; subst bj));go_loopg [5, 20] k1 (fun kq v5 bD w' => ∃ (ap : List Int) (ae : Int), bD = .int .i64 ae ∧ Aside0 (Qak.l1 kq ap l1 (l1.length : Int) ac ai (ai.length : Int) ae al am af ah = some r) ∧ Aside0 (kq ≤ k1) ∧ Aside0 (Kd.R (Kd.int .i64) 3 w' w.heap.size (fun k_ => some k_ ≠ ((.slice aZ ai.length aO) : Value).ownBlock) v5 ap) ∧ Aside0 (Kd.R (Kd.int .i64) 3 w' w.heap.size (fun k_ => some k_ ≠ (v5 : Value).ownBlock) (.slice aZ ai.length aO) ai) ∧ Aside0 (w'.heap[aB]? = some (.cells #[.int .i64 al, .int .i64 am, (.slice aq af.length ar), (.slice au ah.length av)] 33 (0, 0))) ∧ Aside0 (Below w.heap.size w w'))
      case atStart => exact ⟨(aw), (0), (Sh.es), H', ⟨Nat.le_refl _⟩, ⟨Sh.rl (Kd.R_mono aj.out (fun _ hk => hk.2))⟩, ⟨Sh.rl (Kd.R_mono aC.out (fun _ hk => hk.2))⟩, ⟨by refine Sh.pl ?_; exact aa.out⟩, ⟨Sh.bw⟩⟩
      case round =>
       clear H';try clear bG
       try clear aF
       try clear aG
       try clear aH
       try clear aI
       try clear aJ
       try clear aK
       try clear aL
       try clear aM
       try clear ao
       obtain ⟨ap, ae, rfl, HA, a8, aj, ak, aa, HB⟩ := hrel;cases gk with
       | zero => exact absurd HA.out (by simp [Qak.l1])
       | succ k2 =>
        have H := HA.out;clear HA;simp only [Qak.l1] at H;by_cases aT : ae < (ai.length : Int)
        ·rw [if_pos aT] at H
         replace aT := decide_eq_true aT;by_cases bf : 0 ≤ ae
         ·rw [if_pos bf] at H
          replace bf := decide_eq_true bf;by_cases bg : ae < (ai.length : Int)
          ·rw [if_pos bg] at H
           replace bg := decide_eq_true bg;obtain ⟨a1, bE, H⟩ := Sh.ba H;have H' := am_ H;clear H;have aP : 0 ≤ (ae : Int) := Sh.od;have aQ : ae < (ai.length : Int) := Sh.od;obtain ⟨a2, bk, bh⟩ := Kd.at_int (Kd.R_reads' ak.out).2.2 ae aP aQ;cases bk;replace aP := eq_true aP;replace aQ := eq_true aQ;obtain ⟨aR, aS, bl⟩ := Kd.R_slice aj.out;subst bl;go_wp2_with (first | ((with_reducible refine Sh.k 39 ?_); refine Sh.gL (some 26) Tryz.func39 #[.slice aR ap.length aS, .int .i64 (rd ai ae)] (h := ?_); (with_reducible refine (QaD.calls k2 (fun k_ => some k_ = (.slice aR ap.length aS : Value).ownBlock) (.slice aR ap.length aS) ap (rd ai ae) a1 w _ ?side1 ?side2 bE.out).mono ?_); (case side1 => repeat (first | (with_reducible first | exact HB.out | apply below_alloc | apply pw_below_drewN | apply below_drew1 | refine below_set ?_ aY.out) | exact HB.out)); (case side2 => exact Kd.R_tight rfl aj.out); rintro e bH ⟨bm, rfl, aN, hb, hkp⟩; refine ⟨_, rfl, ?_⟩; have bq := am_ (Kd.R_mono (ok' := fun k_ => some k_ ≠ (bm : Value).ownBlock) (Kd.R_keptB (ak.out) hkp (fun k_ hk_ hs_ => (hk_) hs_)) (fun k_ hk_ => fun e_ => Or.elim (aN.1 k_ e_.symm) (fun hs_ => hk_.2.1 hs_) (fun hn_ => Nat.not_le.2 hk_.2.2 hn_))); have br := am_ (blk_kept (Sh.pl aa.out) hkp (fun hs_ => (fun e_ => (Kd.R_ne aj.out aa.out (by decide)) e_) hs_)); have bs := am_ (Kd.R_mono (ok' := fun k_ => some k_ ≠ (.slice (some a2) ai.length aO : Value).ownBlock) aN (fun k_ hk_ => Or.elim hk_ (fun hs_ => fun e_ => (((ak.out).1 k_ e_.symm)) hs_) (fun hn_ => (Kd.fresh' (Kd.R_lt (Sh.rl ak.out)) k_ hn_)))); have bu := am_ hb; clear ak; clear aa; clear HB; clear aj; have ak := bq; have aa := br; have a6 := bs; have HB := bu; clear bq br bs bu; (try clear hb); (try clear hkp); (try clear aN)));go_roundg k2
           case measure => have := a7.out; have := a8.out; omega
           case rel => exact ⟨(a1), (wrap64 (ae + 1)), (Sh.es), H', ⟨by have := a7.out; have := a8.out; omega⟩, ⟨Sh.rl a6.out⟩, ⟨Sh.rl ak.out⟩, ⟨by refine Sh.pl ?_; exact aa.out⟩, ⟨Sh.bw⟩⟩
          ·rw [if_neg bg] at H
           cases H
         ·rw [if_neg bf] at H
          cases H
        ·rw [if_neg aT] at H
         replace aT := decide_eq_false aT;have H' := am_ H;clear H;go_wp2;go_roundg k2
         case measure => have := a7.out; have := a8.out; omega
         case rel => exact ⟨(ap), (wrap64 (ac + 1)), (Sh.es), H', ⟨by have := a7.out; have := a8.out; omega⟩, ⟨Sh.rl (Kd.R_mono aj.out (fun _ hk => trivial))⟩, ⟨by refine Sh.pl ?_; exact aa.out⟩, ⟨Sh.bw⟩⟩
     ·rw [if_neg c6] at H
      cases H
    ·rw [if_neg c5] at H
     cases H
   ·rw [if_neg c4] at H
    replace c4 := decide_eq_false c4;obtain rfl := Option.some.inj H;go_wp2;go_ret;exact ⟨_, Sh.eR, Sh.rl aj.out, Sh.bw⟩
def QaV.l0 : Nat → List Int → Int → Int → List (S77) → List (S82) → Option (List Int)
 | 0, _, _, _, _, _ => none
 | k + 1, x3, aa, ac, ae, af => (Qak.f k aa ac ae af x3).bind fun ai => ((QaJ.f k x3 ai).bind fun ah => (if (ah.length : Int) = (x3.length : Int) then (some x3) else (QaV.l0 k ah aa ac ae af)))
def QaV.f (k : Nat) (ac : Int) (ae : Int) (aa : List (S77)) (af : List (S82)) : Option (List Int) := (QaF.f k ac ae aa af aa).bind fun ah => (QaV.l0 k ah ac ae aa af)
theorem QaV.mono_l : ∀ k, (∀ y0 y1 y2 y3 y4, LeO (QaV.l0 k y0 y1 y2 y3 y4) (QaV.l0 (k + 1) y0 y1 y2 y3 y4))
 | 0 => fun _ _ _ _ _ r h => by simp [QaV.l0] at h
 | k + 1 => by
  have aa := QaV.mono_l k
  ·intro y0 y1 y2 y3 y4
   unfold QaV.l0
   repeat' with_reducible first | apply aa | apply Qak.mono | apply QaF.mono | apply QaJ.mono | exact LeO.refl _ | exact LeO.none _ | apply LeO.ite | refine LeO.bind ?_ fun _ => ?_
theorem QaV.mono : ∀ a0 a1 a2 a3 k, LeO (QaV.f k a0 a1 a2 a3) (QaV.f (k + 1) a0 a1 a2 a3) := by
 intro a0 a1 a2 a3 k;have aa := QaV.mono_l k;unfold QaV.f;repeat' with_reducible first | apply aa | apply Qak.mono | apply QaF.mono | apply QaJ.mono | exact LeO.refl _ | exact LeO.none _ | apply LeO.ite | refine LeO.bind ?_ fun _ => ?_
theorem QaV.calls (k : Nat) (aj : Int) (ak : Int) (ao : Option Addr) (ap : Nat) (ah : List (S77)) (aq : Option Addr) (ar : Nat) (ai : List (S82)) (r : List Int) (w : World) (aA : Kd.C k77 w ao ah.length ah) (aB : ah.length ≤ ap) (aC : Kd.C k82 w aq ai.length ai) (aD : ai.length ≤ ar) (h : QaV.f k aj ak ah ai = some r) :
  Calls Tryz.prog 32 #[.agg #[.int .i64 aj, .int .i64 ak, .slice ao ah.length ap, .slice aq ai.length ar]] w fun e w' => ∃ bA : Value, e = .returned (bA) ∧ Kd.R (Kd.int .i64) 3 w' w.heap.size (fun _ => True) bA r ∧ Below w.heap.size w w' := by
 have bD := Tryz.underlying33;have au := am_ aA;have av := am_ aB;clear aA aB;have ay := am_ aC;have az := am_ aD;clear aC aD;have HB := am_ (Below.refl w.heap.size w);have H := h;clear h;unfold QaV.f at H;obtain ⟨aM, A2, H⟩ := Sh.ba H;have H' := am_ H;clear H;go_enter Tryz.func32, Tryz.ntmps32;go_wp2_with (first | ((with_reducible refine Sh.d 1 ?_); refine Sh.bz w (N := 1) (cs := #[.int .i64 aj, .int .i64 ak, .slice ao ah.length ap, .slice aq ai.length ar]) (t := 33) (h := ?_); clear HB; intro aN w3 aa bB HB; obtain ⟨aE, aF, aG, aH, aI, aJ, aK, aL⟩ := Sh.b4 aa.out) | ((with_reducible refine Sh.k 16 ?_); refine Sh.gL (some 8) Tryz.func16 #[.agg #[.int .i64 aj, .int .i64 ak, .slice ao ah.length ap, .slice aq ai.length ar], .slice ao ah.length ap] (h := ?_); (with_reducible refine (QaF.calls k aj ak _ _ ah _ _ ai _ _ ah aM _ (Sh.cB au.out) av.out (Sh.cB ay.out) az.out (Sh.cB au.out) av.out A2.out).mono ?_); rintro e w5 ⟨bE, rfl, am, hb⟩; refine ⟨_, rfl, ?_⟩; have aO := am_ (Kd.R_lower am (below_size Sh.bw)); replace aa := Sh.ab aa hb; replace HB := Sh.hb hb; (try clear hb); (try clear hk); (try clear am)));go_loopg [3] k (fun kq v3 w' => ∃ (af : List Int), Aside0 (QaV.l0 kq af aj ak ah ai = some r) ∧ Aside0 (kq ≤ k) ∧ Aside0 (Kd.R (Kd.int .i64) 3 w' w.heap.size (fun _ => True) v3 af) ∧ Aside0 (w'.heap[aN]? = some (.cells #[.int .i64 aj, .int .i64 ak, (.slice ao ah.length ap), (.slice aq ai.length ar)] 33 (0, 0))) ∧ Aside0 (Below w.heap.size w w'))
 case atStart => exact ⟨(aM), H', ⟨Nat.le_refl _⟩, ⟨Sh.rl aO.out⟩, ⟨by refine Sh.pl ?_; exact aa.out⟩, ⟨Sh.bw⟩⟩
 case round =>
  clear H';try clear aE
  try clear aF
  try clear aG
  try clear aH
  try clear aI
  try clear aJ
  try clear aK
  try clear aL
  obtain ⟨af, HA, bC, ac, aa, HB⟩ := hrel;cases gk with
  | zero => exact absurd HA.out (by simp [QaV.l0])
  | succ k1 =>
   have H := HA.out;clear HA;simp only [QaV.l0] at H;obtain ⟨ax, A6, H⟩ := Sh.ba H;obtain ⟨al, A7, H⟩ := Sh.ba H;by_cases c8 : (al.length : Int) = (af.length : Int)
   ·rw [if_pos c8] at H
    have c8b0 : ((al.length : Int) == (af.length : Int)) = true := beq_iff_eq.mpr c8;have c8b1 : ((al.length : Int) != (af.length : Int)) = false := bne_eq_false_iff_eq.mpr c8;have c8b2 : (al.length == af.length) = true := by first | simpa using c8 | (simp at c8 ⊢; omega)
    clear c8;obtain rfl := Option.some.inj H;have a2 := Sh.bc aa.out 0;have a6 := Sh.bc aa.out 1;have a7 := Sh.bc aa.out 2;have a8 := Sh.bc aa.out 3;have bf := blk_frozen aa.out 0;have bg := blk_frozen aa.out 1;have bh := blk_frozen aa.out 2;have bi := blk_frozen aa.out 3;obtain ⟨aP, aQ, bj⟩ := Kd.R_slice ac.out;subst bj;go_wp2_with (first | ((with_reducible refine Sh.k 34 ?_); refine Sh.gL (some 12) Tryz.func34 #[.agg #[.int .i64 aj, .int .i64 ak, .slice ao ah.length ap, .slice aq ai.length ar], .slice aP af.length aQ] (h := ?_); (with_reducible refine (Qak.calls k1 aj ak _ _ ah _ _ ai _ _ af ax _ (Sh.cB au.out) av.out (Sh.cB ay.out) az.out (Sh.cR (Kd.R_reads' ac.out).2.2) (Kd.R_reads' ac.out).2.1 A6.out).mono ?_); rintro e bJ ⟨bk, rfl, am, hb⟩; refine ⟨_, rfl, ?_⟩; have ae := am_ (Kd.R_lower (Kd.R_new' am (Kd.R_lt (Sh.rl ac.out))) (below_size Sh.bw)); replace ac := am_ (Kd.R_elder' (Sh.rl ac.out) (Kd.R_base am) hb); replace aa := Sh.ab aa hb; replace HB := Sh.hb hb; (try clear hb); (try clear am); obtain ⟨bl, bm, bn⟩ := Kd.R_slice ae.out; subst bn) | ((with_reducible refine Sh.k 33 ?_); refine Sh.gL (some 13) Tryz.func33 #[.slice aP af.length aQ, .slice bl ax.length bm] (h := ?_); (with_reducible refine (QaJ.calls k1 _ _ af _ _ ax al _ (Sh.cR (Kd.R_reads' ac.out).2.2) (Kd.R_reads' ac.out).2.1 (Sh.cR (Kd.R_reads' ae.out).2.2) (Kd.R_reads' ae.out).2.1 A7.out).mono ?_); rintro e bK ⟨bo, rfl, am, hb⟩; refine ⟨_, rfl, ?_⟩; have aw := am_ (Kd.R_lower (Kd.R_new' (Kd.R_new' am (Kd.R_lt (Sh.rl ac.out))) (Kd.R_lt (Sh.rl ae.out))) (below_size Sh.bw)); replace ac := am_ (Kd.R_elder' (Sh.rl ac.out) (Kd.R_base am) hb); replace ae := am_ (Kd.R_elder' (Sh.rl ae.out) (Kd.R_base am) hb); replace aa := Sh.ab aa hb; replace HB := Sh.hb hb; (try clear hb); (try clear am); obtain ⟨bF, bG, bp⟩ := Kd.R_slice aw.out; subst bp));go_ret;exact ⟨_, Sh.eR, Sh.rl (Kd.R_mono ac.out (fun _ hk => trivial)), Sh.bw⟩
   ·rw [if_neg c8] at H
    have c8b0 : ((al.length : Int) == (af.length : Int)) = false := beq_eq_false_iff_ne.mpr c8;have c8b1 : ((al.length : Int) != (af.length : Int)) = true := bne_iff_ne.mpr c8;have c8b2 : (al.length == af.length) = false := by first | simpa using c8 | (simp at c8 ⊢; omega)
    have H' := am_ H;clear H;have aT := Sh.bc aa.out 0;have aU := Sh.bc aa.out 1;have aV := Sh.bc aa.out 2;have aW := Sh.bc aa.out 3;have aX := blk_frozen aa.out 0;have aY := blk_frozen aa.out 1;have aZ := blk_frozen aa.out 2;have a1 := blk_frozen aa.out 3;obtain ⟨aR, aS, bq⟩ := Kd.R_slice ac.out;subst bq;go_wp2_with (first | ((with_reducible refine Sh.k 34 ?_); refine Sh.gL (some 12) Tryz.func34 #[.agg #[.int .i64 aj, .int .i64 ak, .slice ao ah.length ap, .slice aq ai.length ar], .slice aR af.length aS] (h := ?_); (with_reducible refine (Qak.calls k1 aj ak _ _ ah _ _ ai _ _ af ax _ (Sh.cB au.out) av.out (Sh.cB ay.out) az.out (Sh.cR (Kd.R_reads' ac.out).2.2) (Kd.R_reads' ac.out).2.1 A6.out).mono ?_); rintro e bL ⟨bk, rfl, am, hb⟩; refine ⟨_, rfl, ?_⟩; have ae := am_ (Kd.R_lower (Kd.R_new' am (Kd.R_lt (Sh.rl ac.out))) (below_size Sh.bw)); replace ac := am_ (Kd.R_elder' (Sh.rl ac.out) (Kd.R_base am) hb); replace aa := Sh.ab aa hb; replace HB := Sh.hb hb; (try clear hb); (try clear hk); (try clear am); obtain ⟨br, bs, bu⟩ := Kd.R_slice ae.out; subst bu) | ((with_reducible refine Sh.k 33 ?_); refine Sh.gL (some 13) Tryz.func33 #[.slice aR af.length aS, .slice br ax.length bs] (h := ?_); (with_reducible refine (QaJ.calls k1 _ _ af _ _ ax al _ (Sh.cR (Kd.R_reads' ac.out).2.2) (Kd.R_reads' ac.out).2.1 (Sh.cR (Kd.R_reads' ae.out).2.2) (Kd.R_reads' ae.out).2.1 A7.out).mono ?_); rintro e bM ⟨bo, rfl, am, hb⟩; refine ⟨_, rfl, ?_⟩; have aw := am_ (Kd.R_lower (Kd.R_new' (Kd.R_new' am (Kd.R_lt (Sh.rl ac.out))) (Kd.R_lt (Sh.rl ae.out))) (below_size Sh.bw)); replace ac := am_ (Kd.R_elder' (Sh.rl ac.out) (Kd.R_base am) hb); replace ae := am_ (Kd.R_elder' (Sh.rl ae.out) (Kd.R_base am) hb); replace aa := Sh.ab aa hb; replace HB := Sh.hb hb; (try clear hb); (try clear am); obtain ⟨bH, bI, bv⟩ := Kd.R_slice aw.out; subst bv));go_roundg k1
    case measure => have := bC.out; omega
    case rel => exact ⟨(al), H', ⟨by have := bC.out; omega⟩, ⟨Sh.rl (Kd.R_mono aw.out (fun _ hk => trivial))⟩, ⟨by refine Sh.pl ?_; exact aa.out⟩, ⟨Sh.bw⟩⟩
mutual
def Qat.j0 : Nat → Int → Bool → Int → Int → List (S77) → List (S82) → Option (Int × Bool)
 | 0, _, _, _, _, _, _ => none
 | k + 1, x1, al, ac, ae, aa, af => if al = true then (some (0, false)) else ((QaF.f k ac ae aa af aa).bind fun ah => (Qat.l0 k x1 ah 0 ac ae aa af))
def Qat.l0 : Nat → Int → List Int → Int → Int → Int → List (S77) → List (S82) → Option (Int × Bool)
 | 0, _, _, _, _, _, _, _ => none
 | k + 1, x1, x6, x7, ac, ae, aa, af => (QaI.f k x6 x1).bind fun ai => (if ai = true then (some (x7, true)) else ((Qak.f k ac ae aa af x6).bind fun aj => ((QaJ.f k x6 aj).bind fun ak => (Qat.l0 k x1 ak (wrap64 (x7 + 1)) ac ae aa af))))
end
def Qat.f (k : Nat) (aa : Int) (ac : Int) (ae : List (S77)) (af : List (S82)) (a1 : Int) : Option (Int × Bool) := (Qbf.f k aa ac ae af).bind fun ah => (if ah = true then ((QaV.f k aa ac ae af).bind fun ai => ((QaI.f k ai a1).bind fun aj => (Qat.j0 k a1 (!aj) aa ac ae af))) else (Qat.j0 k a1 true aa ac ae af))
theorem Qat.mono_l : ∀ k, (∀ y0 y1 y2 y3 y4 y5, LeO (Qat.j0 k y0 y1 y2 y3 y4 y5) (Qat.j0 (k + 1) y0 y1 y2 y3 y4 y5)) ∧ (∀ y0 y1 y2 y3 y4 y5 y6, LeO (Qat.l0 k y0 y1 y2 y3 y4 y5 y6) (Qat.l0 (k + 1) y0 y1 y2 y3 y4 y5 y6))
 | 0 => ⟨fun _ _ _ _ _ _ r h => by simp [Qat.j0] at h, fun _ _ _ _ _ _ _ r h => by simp [Qat.l0] at h⟩
 | k + 1 => by
  obtain ⟨aa, ac⟩ := Qat.mono_l k
  and_intros <;> intros
  all_goals (first | unfold Qat.j0 | unfold Qat.l0)
  all_goals repeat' with_reducible first | apply aa | apply ac | apply QaI.mono | apply Qbf.mono | apply Qak.mono | apply QaV.mono | apply QaF.mono | apply QaJ.mono | exact LeO.refl _ | exact LeO.none _ | apply LeO.ite | refine LeO.bind ?_ fun _ => ?_
theorem Qat.mono : ∀ a0 a1 a2 a3 a4 k, LeO (Qat.f k a0 a1 a2 a3 a4) (Qat.f (k + 1) a0 a1 a2 a3 a4) := by
 intro a0 a1 a2 a3 a4 k;obtain ⟨aa, ac⟩ := Qat.mono_l k;unfold Qat.f;repeat' with_reducible first | apply aa | apply ac | apply QaI.mono | apply Qbf.mono | apply Qak.mono | apply QaV.mono | apply QaF.mono | apply QaJ.mono | exact LeO.refl _ | exact LeO.none _ | apply LeO.ite | refine LeO.bind ?_ fun _ => ?_
theorem Qat.calls (k : Nat) (af : Int) (ah : Int) (ak : Option Addr) (al : Nat) (ac : List (S77)) (aq : Option Addr) (ar : Nat) (ae : List (S82)) (a1 : Int) (r1 : Int) (r2 : Bool) (w : World) (bh : Kd.C k77 w ak ac.length ac) (bi : ac.length ≤ al) (bj : Kd.C k82 w aq ae.length ae) (bk : ae.length ≤ ar) (h : Qat.f k af ah ac ae a1 = some (r1, r2)) :
  Calls Tryz.prog 15 #[.agg #[.int .i64 af, .int .i64 ah, .slice ak ac.length al, .slice aq ae.length ar], .int .i64 a1] w fun e w' => e = .returned (.tuple #[.int .i64 r1, .bool r2]) ∧ Below w.heap.size w w' := by
 have b0 := Tryz.underlying33;have am := am_ bh;have ao := am_ bi;clear bh bi;have au := am_ bj;have av := am_ bk;clear bj bk;have HB := am_ (Below.refl w.heap.size w);have H := h;clear h;unfold Qat.f at H;have bK := am_ H;clear H;go_enter Tryz.func15, Tryz.ntmps15;go_upto_region 1 with (first | ((with_reducible refine Sh.d 2 ?_); refine Sh.bz w (N := 2) (cs := #[.int .i64 af, .int .i64 ah, .slice ak ac.length al, .slice aq ae.length ar]) (t := 33) (h := ?_); clear HB; intro bl w4 aa bW HB))
 (try simp only [Act.put, List.setIfInBounds_toArray, List.set_cons_zero, List.set_cons_succ]);go_cut [17] (fun b1 wc => ∃ (kq : Nat) (aw : Bool), b1 = .bool aw ∧ Aside0 (Qat.j0 kq a1 aw af ah ac ae = some (r1, r2)) ∧ Aside0 (kq ≤ k) ∧ Aside0 (wc.heap[bl]? = some (.cells #[.int .i64 af, .int .i64 ah, (.slice ak ac.length al), (.slice aq ae.length ar)] 33 (0, 0))) ∧ Aside0 (Below w.heap.size w wc))
 case first =>
  have H := bK.out;clear bK;obtain ⟨bL, A5, H⟩ := Sh.ba H;by_cases c6 : bL = true
  ·subst c6
   rw [if_pos rfl] at H;obtain ⟨bp, A7, H⟩ := Sh.ba H;obtain ⟨bq, A8, H⟩ := Sh.ba H;have H' := am_ H;clear H;have aO := Sh.bc aa.out 0;have aP := Sh.bc aa.out 1;have aQ := Sh.bc aa.out 2;have aR := Sh.bc aa.out 3;have aS := blk_frozen aa.out 0;have aT := blk_frozen aa.out 1;have aU := blk_frozen aa.out 2;have aV := blk_frozen aa.out 3;go_wp2_with (first | ((with_reducible refine Sh.k 30 ?_); refine Sh.gB (some 9) Tryz.func30 #[.agg #[.int .i64 af, .int .i64 ah, .slice ak ac.length al, .slice aq ae.length ar]] (Qbf.calls k af ah _ _ ac _ _ ae true _ (Sh.cB am.out) ao.out (Sh.cB au.out) av.out A5.out) fun cg hb => ?_; replace aa := Sh.ab aa hb; replace HB := Sh.hb hb; (try clear hb); (try clear hk); obtain ⟨ax, ay, az, aA, aB, aC, aD, aE⟩ := Sh.b4 aa.out) | (go_at_call 32; (with_reducible refine (QaV.calls k af ah _ _ ac _ _ ae bp _ (Sh.cB am.out) ao.out (Sh.cB au.out) av.out A7.out).mono ?_); rintro e ch ⟨b6, rfl, aF, hb⟩; have aW := am_ (Kd.R_lower aF (below_size Sh.bw)); replace aa := Sh.ab aa hb; replace HB := Sh.hb hb; (try clear hb); (try clear aF); obtain ⟨b7, b8, bM⟩ := Kd.R_slice aW.out; subst bM) | (go_at_call 31; (with_reducible refine (QaI.calls k _ _ bp a1 bq _ (Sh.cR (Kd.R_reads' aW.out).2.2) (Kd.R_reads' aW.out).2.1 A8.out).mono ?_); rintro e w' ⟨rfl, ⟨nd, rfl⟩⟩));go_meet
   case rel => exact ⟨_, (!bq), (Sh.es), H', ⟨Sh.om⟩, ⟨by refine Sh.pl ?_; exact aa.out⟩, ⟨Sh.bw⟩⟩
  ·replace c6 := Bool.eq_false_iff.mpr c6
   subst c6;rw [Sh.nf] at H;have H' := am_ H;clear H;have aG := Sh.bc aa.out 0;have aH := Sh.bc aa.out 1;have aI := Sh.bc aa.out 2;have aJ := Sh.bc aa.out 3;have aK := blk_frozen aa.out 0;have aL := blk_frozen aa.out 1;have aM := blk_frozen aa.out 2;have aN := blk_frozen aa.out 3;go_wp2_with (first | ((with_reducible refine Sh.k 30 ?_); refine Sh.gB (some 9) Tryz.func30 #[.agg #[.int .i64 af, .int .i64 ah, .slice ak ac.length al, .slice aq ae.length ar]] (Qbf.calls k af ah _ _ ac _ _ ae false _ (Sh.cB am.out) ao.out (Sh.cB au.out) av.out A5.out) fun ci hb => ?_; replace aa := Sh.ab aa hb; replace HB := Sh.hb hb; (try clear hb)));go_meet
   case rel => exact ⟨_, (true), (Sh.es), H', ⟨Sh.om⟩, ⟨by refine Sh.pl ?_; exact aa.out⟩, ⟨Sh.bw⟩⟩
 case rest =>
  clear bK;try clear ax
  try clear ay
  try clear az
  try clear aA
  try clear aG
  try clear aH
  try clear aI
  try clear aJ
  try clear aO
  try clear aP
  try clear aQ
  try clear aR
  try clear aB
  try clear aC
  try clear aD
  try clear aE
  try clear aK
  try clear aL
  try clear aM
  try clear aN
  try clear aS
  try clear aT
  try clear aU
  try clear aV
  obtain ⟨kq, aw, rfl, HA, bX, aa, HB⟩ := hcut;cases kq with
  | zero => exact absurd HA.out (by simp [Qat.j0])
  | succ bN =>
   have H := HA.out;clear HA;simp only [Qat.j0] at H;by_cases bA : aw = true
   ·subst bA
    rw [if_pos rfl] at H;obtain ⟨rfl, rfl⟩ := Prod.mk.inj (Option.some.inj H);go_wp2;go_ret2;exact ⟨Sh.eR, Sh.bw⟩
   ·replace bA := Bool.eq_false_iff.mpr bA
    subst bA;rw [Sh.nf] at H;obtain ⟨br, b9, H⟩ := Sh.ba H;have H' := am_ H;clear H;have aX := Sh.bc aa.out 0;have aY := Sh.bc aa.out 1;have aZ := Sh.bc aa.out 2;have a2 := Sh.bc aa.out 3;have a6 := blk_frozen aa.out 0;have a7 := blk_frozen aa.out 1;have a8 := blk_frozen aa.out 2;have bf := blk_frozen aa.out 3;go_wp2_with (first | ((with_reducible refine Sh.k 16 ?_); refine Sh.gL (some 21) Tryz.func16 #[.agg #[.int .i64 af, .int .i64 ah, .slice ak ac.length al, .slice aq ae.length ar], .slice ak ac.length al] (h := ?_); (with_reducible refine (QaF.calls bN af ah _ _ ac _ _ ae _ _ ac br _ (Sh.cB am.out) ao.out (Sh.cB au.out) av.out (Sh.cB am.out) ao.out b9.out).mono ?_); rintro e cj ⟨ca, rfl, aF, hb⟩; refine ⟨_, rfl, ?_⟩; have bs := am_ (Kd.R_lower aF (below_size Sh.bw)); replace aa := Sh.ab aa hb; replace HB := Sh.hb hb; (try clear hb); (try clear aF)));go_loopg [6, 7] bN (fun kq v6 v7 w' => ∃ (aj : List Int) (bg : Int), v7 = .int .i64 bg ∧ Aside0 (Qat.l0 kq a1 aj bg af ah ac ae = some (r1, r2)) ∧ Aside0 (kq ≤ bN) ∧ Aside0 (Kd.R (Kd.int .i64) 3 w' w.heap.size (fun _ => True) v6 aj) ∧ Aside0 (w'.heap[bl]? = some (.cells #[.int .i64 af, .int .i64 ah, (.slice ak ac.length al), (.slice aq ae.length ar)] 33 (0, 0))) ∧ Aside0 (Below w.heap.size w w'))
    case atStart => exact ⟨(br), (0), (Sh.es), H', ⟨Nat.le_refl _⟩, ⟨Sh.rl bs.out⟩, ⟨by refine Sh.pl ?_; exact aa.out⟩, ⟨Sh.bw⟩⟩
    case round =>
     clear H';try clear ax
     try clear ay
     try clear az
     try clear aA
     try clear aG
     try clear aH
     try clear aI
     try clear aJ
     try clear aX
     try clear aY
     try clear aZ
     try clear a2
     try clear aO
     try clear aP
     try clear aQ
     try clear aR
     try clear aB
     try clear aC
     try clear aD
     try clear aE
     try clear aK
     try clear aL
     try clear aM
     try clear aN
     try clear a6
     try clear a7
     try clear a8
     try clear bf
     try clear aS
     try clear aT
     try clear aU
     try clear aV
     obtain ⟨aj, bg, rfl, HA, bY, ai, aa, HB⟩ := hrel;cases gk with
     | zero => exact absurd HA.out (by simp [Qat.l0])
     | succ k2 =>
      have H := HA.out;clear HA;simp only [Qat.l0] at H;obtain ⟨bO, bZ, H⟩ := Sh.ba H;by_cases bB : bO = true
      ·subst bB
       rw [if_pos rfl] at H;obtain ⟨rfl, rfl⟩ := Prod.mk.inj (Option.some.inj H);obtain ⟨bP, bQ, bR⟩ := Kd.R_slice ai.out;subst bR;go_wp2_with (first | ((with_reducible refine Sh.k 31 ?_); refine Sh.gD (some 24) Tryz.func31 #[.slice bP aj.length bQ, .int .i64 a1] (QaI.calls k2 _ _ aj a1 true _ (Sh.cR (Kd.R_reads' ai.out).2.2) (Kd.R_reads' ai.out).2.1 bZ.out) fun nd => ?_));go_ret2;exact ⟨Sh.eR, Sh.bw⟩
      ·replace bB := Bool.eq_false_iff.mpr bB
       subst bB;rw [Sh.nf] at H;obtain ⟨bm, cb, H⟩ := Sh.ba H;obtain ⟨bu, cd, H⟩ := Sh.ba H;have H' := am_ H;clear H;obtain ⟨bn, bo, bS⟩ := Kd.R_slice ai.out;subst bS;go_wp2_with (first | ((with_reducible refine Sh.k 31 ?_); refine Sh.gD (some 24) Tryz.func31 #[.slice bn aj.length bo, .int .i64 a1] (QaI.calls k2 _ _ aj a1 false _ (Sh.cR (Kd.R_reads' ai.out).2.2) (Kd.R_reads' ai.out).2.1 bZ.out) fun nd => ?_; obtain ⟨bC, bD, bE, bF, bG, bH, bI, bJ⟩ := Sh.b4 aa.out) | ((with_reducible refine Sh.k 34 ?_); refine Sh.gL (some 29) Tryz.func34 #[.agg #[.int .i64 af, .int .i64 ah, .slice ak ac.length al, .slice aq ae.length ar], .slice bn aj.length bo] (h := ?_); (with_reducible refine (Qak.calls k2 af ah _ _ ac _ _ ae _ _ aj bm _ (Sh.cB am.out) ao.out (Sh.cB au.out) av.out (Sh.cR (Kd.R_reads' ai.out).2.2) ((Kd.R_reads' ai.out).2.1) cb.out).mono ?_); rintro e ck ⟨ce, rfl, aF, hb⟩; refine ⟨_, rfl, ?_⟩; have ap := am_ (Kd.R_lower (Kd.R_new' aF (Kd.R_lt (Sh.rl ai.out))) (below_size Sh.bw)); replace ai := am_ (Kd.R_elder' (Sh.rl ai.out) (Kd.R_base aF) hb); replace aa := Sh.ab aa hb; replace HB := Sh.hb hb; (try clear hb); (try clear aF); obtain ⟨bT, bU, bV⟩ := Kd.R_slice ap.out; subst bV) | ((with_reducible refine Sh.k 33 ?_); refine Sh.gL (some 30) Tryz.func33 #[.slice bn aj.length bo, .slice bT bm.length bU] (h := ?_); (with_reducible refine (QaJ.calls k2 _ _ aj _ _ bm bu _ (Sh.cR (Kd.R_reads' ai.out).2.2) (Kd.R_reads' ai.out).2.1 (Sh.cR (Kd.R_reads' ap.out).2.2) (Kd.R_reads' ap.out).2.1 cd.out).mono ?_); rintro e cl ⟨cf, rfl, aF, hb⟩; refine ⟨_, rfl, ?_⟩; have bv := am_ (Kd.R_lower (Kd.R_new' (Kd.R_new' aF (Kd.R_lt (Sh.rl ai.out))) (Kd.R_lt (Sh.rl ap.out))) (below_size Sh.bw)); replace ai := am_ (Kd.R_elder' (Sh.rl ai.out) (Kd.R_base aF) hb); replace ap := am_ (Kd.R_elder' (Sh.rl ap.out) (Kd.R_base aF) hb); replace aa := Sh.ab aa hb; replace HB := Sh.hb hb; (try clear hb); (try clear aF)));go_roundg k2
       case measure => have := bX.out; have := bY.out; omega
       case rel => exact ⟨(bu), (wrap64 (bg + 1)), (Sh.es), H', ⟨by have := bX.out; have := bY.out; omega⟩, ⟨Sh.rl (Kd.R_mono bv.out (fun _ hk => trivial))⟩, ⟨by refine Sh.pl ?_; exact aa.out⟩, ⟨Sh.bw⟩⟩
def QaT.l0 : Nat → Int → Int → List Int → Int → Int → List (S77) → List (S82) → Option (Bool)
 | 0, _, _, _, _, _, _, _ => none
 | k + 1, x2, x3, x9, aa, ac, ae, af => if x3 > 0 then ((Qak.f k aa ac ae af x9).bind fun ah => (QaT.l0 k x2 (wrap64 (x3 - 1)) ah aa ac ae af)) else ((QaI.f k x9 x2).bind fun ai => (some ai))
def QaT.f (k : Nat) (aa : Int) (ac : Int) (ae : List (S77)) (af : List (S82)) (a1 : Int) (a2 : Int) (a3 : Int) : Option (Bool) := QaT.l0 k a2 a3 (([a1] : List Int)) aa ac ae af
theorem QaT.mono_l : ∀ k, (∀ y0 y1 y2 y3 y4 y5 y6, LeO (QaT.l0 k y0 y1 y2 y3 y4 y5 y6) (QaT.l0 (k + 1) y0 y1 y2 y3 y4 y5 y6))
 | 0 => fun _ _ _ _ _ _ _ r h => by simp [QaT.l0] at h
 | k + 1 => by
  have aa := QaT.mono_l k
  ·intro y0 y1 y2 y3 y4 y5 y6
   unfold QaT.l0
   repeat' with_reducible first | apply aa | apply QaI.mono | apply Qak.mono | exact LeO.refl _ | exact LeO.none _ | apply LeO.ite | refine LeO.bind ?_ fun _ => ?_
theorem QaT.mono : ∀ a0 a1 a2 a3 a4 a5 a6 k, LeO (QaT.f k a0 a1 a2 a3 a4 a5 a6) (QaT.f (k + 1) a0 a1 a2 a3 a4 a5 a6) := by
 intro a0 a1 a2 a3 a4 a5 a6 k;have aa := QaT.mono_l k;unfold QaT.f;repeat' with_reducible first | apply aa | apply QaI.mono | apply Qak.mono | exact LeO.refl _ | exact LeO.none _ | apply LeO.ite | refine LeO.bind ?_ fun _ => ?_
theorem QaT.calls (k : Nat) (ah : Int) (ai : Int) (am : Option Addr) (ao : Nat) (ac : List (S77)) (ap : Option Addr) (aq : Nat) (ae : List (S82)) (a1 : Int) (a2 : Int) (a3 : Int) (r : Bool) (w : World) (ar : Kd.C k77 w am ac.length ac) (au : ac.length ≤ ao) (av : Kd.C k82 w ap ae.length ae) (aw : ae.length ≤ aq) (h : QaT.f k ah ai ac ae a1 a2 a3 = some r) :
  Calls Tryz.prog 17 #[.agg #[.int .i64 ah, .int .i64 ai, .slice am ac.length ao, .slice ap ae.length aq], .int .i64 a1, .int .i64 a2, .int .i64 a3] w fun e w' => e = .returned (.bool r) ∧ Below w.heap.size w w' := by
 have a7 := Tryz.underlying33;have ay := am_ ar;have az := am_ au;clear ar au;have aA := am_ av;have aB := am_ aw;clear av aw;have HB := am_ (Below.refl w.heap.size w);have H := h;clear h;unfold QaT.f at H;obtain ⟨aC, aj⟩ : ∃ y_ : List Int, y_ = (([a1] : List Int)) := ⟨_, rfl⟩;replace H : (QaT.l0 k a2 a3 aC ah ai ac ae) = some r := by first | (rw [aj]; with_reducible exact H) | (have aQ := (Option.bind_some _ _).symm.trans H; rw [aj]; with_reducible exact aQ) | (have aQ := (Option.bind_some _ _).symm.trans H; with_reducible exact aQ) | with_reducible exact H | (rw [aj]; exact H) | exact H
 have ax := am_ aj;clear aj;have H' := am_ H;clear H;go_enter Tryz.func17, Tryz.ntmps17;go_wp2_with (first | ((with_reducible refine Sh.d 4 ?_); refine Sh.bz w (N := 4) (cs := #[.int .i64 ah, .int .i64 ai, .slice am ac.length ao, .slice ap ae.length aq]) (t := 33) (h := ?_); clear HB; intro aD w5 aa aZ HB) | ((with_reducible refine Sh.d 11 ?_); refine Kd.R_lit (Kd.int .i64) _ 3 ?hg (N := 11) ?hd (xs := ([a1] : List Int)) (inner := [.int .i64 a1]) (ok := fun _ => True) (okp := fun _ => True) ?hr ?hp (fun _ hk => hk) trivial (Below.refl _ _) (Nat.le_refl _) (by simp) ?_; (case hd => rfl); (case hg => rfl); (case hr => first | (go_simp; done) | (go_simp; rfl)); (case hp => exact (Reps.one (show Kd.M (Kd.int .i64) _ _ _ a1 [.int .i64 a1] from rfl) (Reps.none _ _))); intro a8 w6 aE hb hg_ hnew_; clear hg_ hnew_; (first | rw [← ax.out] at aE | (simp only [Int.reduceToNat] at aE; rw [← ax.out] at aE)); have aF := am_ (Kd.R_lower aE (below_size Sh.bw)); replace aa := Sh.ab aa hb; replace HB := Sh.hb hb; clear hb aE));go_loopg [3, 9] k (fun kq v3 v9 w' => ∃ (ak : Int) (al : List Int), v3 = .int .i64 ak ∧ Aside0 (QaT.l0 kq a2 ak al ah ai ac ae = some r) ∧ Aside0 (kq ≤ k) ∧ Aside0 (Kd.R (Kd.int .i64) 3 w' w.heap.size (fun _ => True) v9 al) ∧ Aside0 (w'.heap[aD]? = some (.cells #[.int .i64 ah, .int .i64 ai, (.slice am ac.length ao), (.slice ap ae.length aq)] 33 (0, 0))) ∧ Aside0 (Below w.heap.size w w'))
 case atStart => exact ⟨(a3), (aC), (Sh.es), H', ⟨Nat.le_refl _⟩, ⟨Sh.rl aF.out⟩, ⟨by refine Sh.pl ?_; exact aa.out⟩, ⟨Sh.bw⟩⟩
 case round =>
  clear H';obtain ⟨ak, al, rfl, HA, a6, af, aa, HB⟩ := hrel;cases gk with
  | zero => exact absurd HA.out (by simp [QaT.l0])
  | succ k1 =>
   have H := HA.out;clear HA;simp only [QaT.l0] at H;by_cases c8 : ak > 0
   ·rw [if_pos c8] at H
    have c8b0 : decide (0 < ak) = true := decide_eq_true c8;clear c8;obtain ⟨aG, A9, H⟩ := Sh.ba H;have H' := am_ H;clear H;have aI := Sh.bc aa.out 0;have aJ := Sh.bc aa.out 1;have aK := Sh.bc aa.out 2;have aL := Sh.bc aa.out 3;have aM := blk_frozen aa.out 0;have aN := blk_frozen aa.out 1;have aO := blk_frozen aa.out 2;have aP := blk_frozen aa.out 3;obtain ⟨aR, aS, aT⟩ := Kd.R_slice af.out;subst aT;go_wp2_with (first | ((with_reducible refine Sh.k 34 ?_); refine Sh.gL (some 18) Tryz.func34 #[.agg #[.int .i64 ah, .int .i64 ai, .slice am ac.length ao, .slice ap ae.length aq], .slice aR al.length aS] (h := ?_); (with_reducible refine (Qak.calls k1 ah ai _ _ ac _ _ ae _ _ al aG _ (Sh.cB ay.out) az.out (Sh.cB aA.out) aB.out (Sh.cR (Kd.R_reads' af.out).2.2) (Kd.R_reads' af.out).2.1 A9.out).mono ?_); rintro e bh ⟨bf, rfl, aU, hb⟩; refine ⟨_, rfl, ?_⟩; have aH := am_ (Kd.R_lower (Kd.R_new' aU (Kd.R_lt (Sh.rl af.out))) (below_size Sh.bw)); replace af := am_ (Kd.R_elder' (Sh.rl af.out) (Kd.R_base aU) hb); replace aa := Sh.ab aa hb; replace HB := Sh.hb hb; (try clear hb); (try clear hk); (try clear aU)));go_roundg k1
    case measure => have := a6.out; omega
    case rel => exact ⟨(wrap64 (ak - 1)), (aG), (Sh.es), H', ⟨by have := a6.out; omega⟩, ⟨Sh.rl (Kd.R_mono aH.out (fun _ hk => trivial))⟩, ⟨by refine Sh.pl ?_; exact aa.out⟩, ⟨Sh.bw⟩⟩
   ·rw [if_neg c8] at H
    have c8b0 : decide (0 < ak) = false := decide_eq_false c8;clear c8;obtain ⟨aV, bg, H⟩ := Sh.ba H;obtain rfl := Option.some.inj H;obtain ⟨aW, aX, aY⟩ := Kd.R_slice af.out;subst aY;go_wp2_with (first | ((with_reducible refine Sh.k 31 ?_); refine Sh.gD (some 21) Tryz.func31 #[.slice aW al.length aX, .int .i64 a2] (QaI.calls k1 _ _ al a2 aV _ (Sh.cR (Kd.R_reads' af.out).2.2) (Kd.R_reads' af.out).2.1 bg.out) fun nd => ?_));go_ret;exact ⟨Sh.eR, Sh.bw⟩
mutual
def Qaj.l0 : Nat → Int → Int → List Int → List Int → Int → Int → List (S77) → List (S82) → Option (List Int × Bool)
 | 0, _, _, _, _, _, _, _, _ => none
 | k + 1, x1, x6, x8, x9, aa, ac, ae, af => if x6 ≥ 0 then (Qaj.l1 k x1 x6 x8 x9 (x9.length : Int) 0 aa ac ae af) else (some (x8, true))
def Qaj.l1 : Nat → Int → Int → List Int → List Int → Int → Int → Int → Int → List (S77) → List (S82) → Option (List Int × Bool)
 | 0, _, _, _, _, _, _, _, _, _, _ => none
 | k + 1, x1, x6, x8, aj, ao, ai, aa, ac, ae, af => if ai < ao then (if 0 ≤ ai then (if ai < (aj.length : Int) then ((QaT.f k aa ac ae af (rd aj ai) x1 x6).bind fun ak => (if ak = true then (if x8.length < 17592186044416 then ((some (x8 ++ [rd aj ai] : List Int)).bind fun ah => (if 0 ≤ (wrap64 ((ah.length : Int) - 1)) then (if (wrap64 ((ah.length : Int) - 1)) < (ah.length : Int) then ((Qar.f k aa ac ae af (rd ah (wrap64 ((ah.length : Int) - 1)))).bind fun al => (Qaj.l0 k x1 (wrap64 (x6 - 1)) ah al aa ac ae af)) else (none)) else (none))) else (none)) else (Qaj.l1 k x1 x6 x8 aj ao (wrap64 (ai + 1)) aa ac ae af))) else (none)) else (none)) else (if 0 ≤ (wrap64 ((x8.length : Int) - 1)) then (if (wrap64 ((x8.length : Int) - 1)) < (x8.length : Int) then ((Qar.f k aa ac ae af (rd x8 (wrap64 ((x8.length : Int) - 1)))).bind fun am => (Qaj.l0 k x1 (wrap64 (x6 - 1)) x8 am aa ac ae af)) else (none)) else (none))
end
def Qaj.f (k : Nat) (ae : Int) (af : Int) (aa : List (S77)) (ah : List (S82)) (a1 : Int) : Option (List Int × Bool) := (Qat.f k ae af aa ah a1).bind fun ac => (if ac.2 = true then ((QaF.f k ae af aa ah aa).bind fun ai => (Qaj.l0 k a1 ac.1 ([] : List Int) ai ae af aa ah)) else (some (([] : List Int), false)))
theorem Qaj.mono_l : ∀ k, (∀ y0 y1 y2 y3 y4 y5 y6 y7, LeO (Qaj.l0 k y0 y1 y2 y3 y4 y5 y6 y7) (Qaj.l0 (k + 1) y0 y1 y2 y3 y4 y5 y6 y7)) ∧ (∀ y0 y1 y2 y3 y4 y5 y6 y7 y8 y9, LeO (Qaj.l1 k y0 y1 y2 y3 y4 y5 y6 y7 y8 y9) (Qaj.l1 (k + 1) y0 y1 y2 y3 y4 y5 y6 y7 y8 y9))
 | 0 => ⟨fun _ _ _ _ _ _ _ _ r h => by simp [Qaj.l0] at h, fun _ _ _ _ _ _ _ _ _ _ r h => by simp [Qaj.l1] at h⟩
 | k + 1 => by
  obtain ⟨aa, ac⟩ := Qaj.mono_l k
  and_intros <;> intros
  all_goals (first | unfold Qaj.l0 | unfold Qaj.l1)
  all_goals repeat' with_reducible first | apply aa | apply ac | apply Qat.mono | apply QaT.mono | apply Qar.mono | apply QaF.mono | exact LeO.refl _ | exact LeO.none _ | apply LeO.ite | refine LeO.bind ?_ fun _ => ?_
theorem Qaj.mono : ∀ a0 a1 a2 a3 a4 k, LeO (Qaj.f k a0 a1 a2 a3 a4) (Qaj.f (k + 1) a0 a1 a2 a3 a4) := by
 intro a0 a1 a2 a3 a4 k;obtain ⟨aa, ac⟩ := Qaj.mono_l k;unfold Qaj.f;repeat' with_reducible first | apply aa | apply ac | apply Qat.mono | apply QaT.mono | apply Qar.mono | apply QaF.mono | exact LeO.refl _ | exact LeO.none _ | apply LeO.ite | refine LeO.bind ?_ fun _ => ?_
def Qaj.T14 : Bool × List (List Nat × List Nat) := (true, [([], []), ([], []), ([], []), ([2], [2]), ([3], [3]), ([1, 4], [1, 4]), ([5], [5]), ([0, 6], [0, 6]), ([7, 7, 0, 1, 2, 3, 4, 5, 6, 7], [7])])
def Qaj.B14 : List Nat := [0, 0, 0, 4, 12, 30, 62, 127, 255]
theorem Qaj.tab14 : rtab .any (opsOf Tryz.f5 14) = Qaj.T14 := by kernel_rfl
theorem Qaj.bits14 : waitsOk Qaj.T14.2 Qaj.B14 = true := by kernel_rfl
theorem Qaj.calls (k : Nat) (ah : Int) (ai : Int) (ap : Option Addr) (aq : Nat) (ac : List (S77)) (au : Option Addr) (av : Nat) (af : List (S82)) (a1 : Int) (r1 : List Int) (r2 : Bool) (w : World) (bl : Kd.C k77 w ap ac.length ac) (bm : ac.length ≤ aq) (bn : Kd.C k82 w au af.length af) (bo : af.length ≤ av) (h : Qaj.f k ah ai ac af a1 = some (r1, r2)) :
  Calls Tryz.prog 5 #[.agg #[.int .i64 ah, .int .i64 ai, .slice ap ac.length aq, .slice au af.length av], .int .i64 a1] w fun e w' => ∃ cK : Value, e = .returned (.tuple #[cK, .bool r2]) ∧ Kd.R (Kd.int .i64) 3 w' w.heap.size (fun _ => True) cK r1 ∧ Below w.heap.size w w' := by
 have cQ := Tryz.underlying33;have aA := am_ bl;have aC := am_ bm;clear bl bm;have aD := am_ bn;have aE := am_ bo;clear bn bo;have HB := am_ (Below.refl w.heap.size w);have H := h;clear h;unfold Qaj.f at H;obtain ⟨⟨bq, cz⟩, cL, H⟩ := Sh.bd H;have A3 := am_ cL;clear cL;by_cases c4 : cz = true
 ·subst c4
  rw [if_pos rfl] at H;obtain ⟨bH, A5, H⟩ := Sh.ba H;have H' := am_ H;clear H;go_enter Tryz.func5, Tryz.ntmps5;go_wp2_with (first | ((with_reducible refine Sh.d 2 ?_); refine Sh.bz w (N := 2) (cs := #[.int .i64 ah, .int .i64 ai, .slice ap ac.length aq, .slice au af.length av]) (t := 33) (h := ?_); clear HB; intro am w6 aa bI HB; obtain ⟨aQ, aR, aT, aU, aV, aW, aX, aY⟩ := Sh.b4 aa.out) | ((with_reducible refine Sh.k 15 ?_); refine Sh.gB (some 15) Tryz.func15 #[.agg #[.int .i64 ah, .int .i64 ai, .slice ap ac.length aq, .slice au af.length av], .int .i64 a1] (Qat.calls k ah ai _ _ ac _ _ af a1 bq true _ (Sh.cB aA.out) aC.out (Sh.cB aD.out) aE.out A3.out) fun w8 hb => ?_; replace aa := Sh.ab aa hb; replace HB := Sh.hb hb; (try clear hb); (try clear hk); obtain ⟨aZ, a2, a6, a7, a8, bf, bg, bh⟩ := Sh.b4 aa.out) | ((with_reducible refine Sh.k 16 ?_); refine Sh.gL (some 23) Tryz.func16 #[.agg #[.int .i64 ah, .int .i64 ai, .slice ap ac.length aq, .slice au af.length av], .slice ap ac.length aq] (h := ?_); (with_reducible refine (QaF.calls k ah ai _ _ ac _ _ af _ _ ac bH _ (Sh.cB aA.out) aC.out (Sh.cB aD.out) aE.out (Sh.cB aA.out) aC.out A5.out).mono ?_); rintro e c9 ⟨cS, rfl, aN, hb⟩; refine ⟨_, rfl, ?_⟩; have bJ := am_ (Kd.R_lower aN (below_size Sh.bw)); replace aa := Sh.ab aa hb; replace HB := Sh.hb hb; (try clear hb); (try clear aN)));go_loopg [6, 8, 9] k (fun kq v6 v8 v9 w' => ∃ (aw : Int) (bi : List Int) (ak : List Int), v6 = .int .i64 aw ∧ Aside0 (Qaj.l0 kq a1 aw bi ak ah ai ac af = some (r1, r2)) ∧ Aside0 (kq ≤ k) ∧ Aside0 (Kd.R (Kd.int .i64) 3 w' w.heap.size (fun k_ => some k_ ≠ (v9 : Value).ownBlock) v8 bi) ∧ Aside0 (Kd.R (Kd.int .i64) 3 w' w.heap.size (fun k_ => some k_ ≠ (v8 : Value).ownBlock) v9 ak) ∧ Aside0 (w'.heap[am]? = some (.cells #[.int .i64 ah, .int .i64 ai, (.slice ap ac.length aq), (.slice au af.length av)] 33 (0, 0))) ∧ Aside0 (Below w.heap.size w w'))
  case atStart => exact ⟨(bq), (([] : List Int)), (bH), (Sh.es), H', ⟨Nat.le_refl _⟩, ⟨by first | exact Kd.R_nil _ _ _ _ _ | exact Kd.N_nil _ _ _ _ _ | exact Kd.V_nil _ _ _ _ _ | exact Kd.Q_nil _ _ _ _ _ | exact Kd.S_nil _ _ _ _ _⟩, ⟨Sh.rl (Kd.R_mono bJ.out (fun _ hk => (by simp [Value.ownBlock])))⟩, ⟨by refine Sh.pl ?_; exact aa.out⟩, ⟨Sh.bw⟩⟩
  case round =>
   clear H';try clear aQ
   try clear aR
   try clear aT
   try clear aU
   try clear aZ
   try clear a2
   try clear a6
   try clear a7
   try clear aV
   try clear aW
   try clear aX
   try clear aY
   try clear a8
   try clear bf
   try clear bg
   try clear bh
   obtain ⟨aw, bi, ak, rfl, HA, bD, al, bK, aa, HB⟩ := hrel;cases gk with
   | zero => exact absurd HA.out (by simp [Qaj.l0])
   | succ k1 =>
    have H := HA.out;clear HA;simp only [Qaj.l0] at H;by_cases bE : aw ≥ 0
    ·rw [if_pos bE] at H
     have c11b0 : decide (0 ≤ aw) = true := decide_eq_true bE;clear bE;have H' := am_ H;clear H;obtain ⟨bL, br, cA⟩ := Kd.R_slice bK.out;subst cA;go_wp2;go_loopg [8, 30] k1 (fun kq v8 cT w' => ∃ (ao : List Int) (aj : Int), cT = .int .i64 aj ∧ Aside0 (Qaj.l1 kq a1 aw ao ak (ak.length : Int) aj ah ai ac af = some (r1, r2)) ∧ Aside0 (kq ≤ k1) ∧ Aside0 (Kd.R (Kd.int .i64) 3 w' w.heap.size (fun k_ => some k_ ≠ ((.slice bL ak.length br) : Value).ownBlock) v8 ao) ∧ Aside0 (Kd.R (Kd.int .i64) 3 w' w.heap.size (fun k_ => some k_ ≠ (v8 : Value).ownBlock) (.slice bL ak.length br) ak) ∧ Aside0 (w'.heap[am]? = some (.cells #[.int .i64 ah, .int .i64 ai, (.slice ap ac.length aq), (.slice au af.length av)] 33 (0, 0))) ∧ Aside0 (Below w.heap.size w w'))
     case atStart => exact ⟨(bi), (0), (Sh.es), H', ⟨Nat.le_refl _⟩, ⟨Sh.rl al.out⟩, ⟨Sh.rl bK.out⟩, ⟨by refine Sh.pl ?_; exact aa.out⟩, ⟨Sh.bw⟩⟩
     case round =>
      clear H';try clear aQ
      try clear aR
      try clear aT
      try clear aU
      try clear aZ
      try clear a2
      try clear a6
      try clear a7
      try clear aV
      try clear aW
      try clear aX
      try clear aY
      try clear a8
      try clear bf
      try clear bg
      try clear bh
      obtain ⟨ao, aj, rfl, HA, bF, al, ae, aa, HB⟩ := hrel;cases gk with
      | zero => exact absurd HA.out (by simp [Qaj.l1])
      | succ k2 =>
       have H := HA.out;clear HA;simp only [Qaj.l1] at H;by_cases bG : aj < (ak.length : Int)
       ·rw [if_pos bG] at H
        replace bG := decide_eq_true bG;by_cases bW : 0 ≤ aj
        ·rw [if_pos bW] at H
         replace bW := decide_eq_true bW;by_cases bX : aj < (ak.length : Int)
         ·rw [if_pos bX] at H
          replace bX := decide_eq_true bX;obtain ⟨cC, cD, H⟩ := Sh.ba H;by_cases bY : cC = true
          ·subst bY
           rw [if_pos rfl] at H;by_cases bZ : ao.length < 17592186044416
           ·rw [if_pos bZ] at H
            have bM := am_ bZ;clear bZ;obtain ⟨ar, aG⟩ : ∃ y_ : List Int, y_ = (ao ++ [rd ak aj]) := ⟨_, rfl⟩;replace H : (if 0 ≤ (wrap64 ((ar.length : Int) - 1)) then (if (wrap64 ((ar.length : Int) - 1)) < (ar.length : Int) then ((Qar.f k2 ah ai ac af (rd ar (wrap64 ((ar.length : Int) - 1)))).bind fun aM => (Qaj.l0 k2 a1 (wrap64 (aw - 1)) ar aM ah ai ac af)) else (none)) else (none)) = some (r1, r2) := by first | (rw [aG]; with_reducible exact H) | (have cE := (Option.bind_some _ _).symm.trans H; rw [aG]; with_reducible exact cE) | (have cE := (Option.bind_some _ _).symm.trans H; with_reducible exact cE) | with_reducible exact H | (rw [aG]; exact H) | exact H
            have bN := am_ aG;clear aG;obtain ⟨ay, hj1⟩ : ∃ j_ : Int, (wrap64 ((ar.length : Int) - 1)) = j_ := ⟨_, rfl⟩;replace H : (if 0 ≤ (ay) then (if (ay) < (ar.length : Int) then ((Qar.f k2 ah ai ac af (rd ar (ay))).bind fun aM => (Qaj.l0 k2 a1 (wrap64 (aw - 1)) ar aM ah ai ac af)) else (none)) else (none)) = some (r1, r2) := by first | (rw [hj1] at H; exact H) | (simp only [hj1] at H ⊢; exact H)
            (try rw [hj1] at cD);have hji19w : (IntKind.i64.wrap ((ar.length : Int) - 1)) = ay := (i64_w _).trans hj1;by_cases b0 : 0 ≤ (ay)
            ·rw [if_pos b0] at H
             replace b0 := decide_eq_true b0;by_cases b1 : (ay) < (ar.length : Int)
             ·rw [if_pos b1] at H
              replace b1 := decide_eq_true b1;obtain ⟨aM, cU, H⟩ := Sh.ba H;have H' := am_ H;clear H;have aH : 0 ≤ (aj : Int) := Sh.od;have aI : aj < (ak.length : Int) := Sh.od;obtain ⟨bp, bs, bj⟩ := Kd.at_int (Kd.R_reads' ae.out).2.2 aj aH aI;cases bs;replace aH := eq_true aH;replace aI := eq_true aI;have b6 := Sh.bc aa.out 0;have b7 := Sh.bc aa.out 1;have b8 := Sh.bc aa.out 2;have b9 := Sh.bc aa.out 3;have ca := blk_frozen aa.out 0;have cb := blk_frozen aa.out 1;have cd := blk_frozen aa.out 2;have ce := blk_frozen aa.out 3;try go_wp2_with (first | ((with_reducible refine Sh.k 17 ?_); refine Sh.gB (some 38) Tryz.func17 #[.agg #[.int .i64 ah, .int .i64 ai, .slice ap ac.length aq, .slice au af.length av], .int .i64 (rd ak aj), .int .i64 a1, .int .i64 aw] (QaT.calls k2 ah ai _ _ ac _ _ af (rd ak aj) a1 aw true _ (Sh.cB aA.out) aC.out (Sh.cB aD.out) aE.out cD.out) fun da hb => ?_; replace al := am_ (Kd.R_below (Sh.rl al.out) hb); replace ae := am_ (Kd.R_below (Sh.rl ae.out) hb); replace aa := Sh.ab aa hb; replace HB := Sh.hb hb; (try clear hb); (try clear hk)) | ((with_reducible refine gate_builtin (b := .append) (xs := #[.tmp 39, .tmp 41]) rfl ?_); at_builtin; refine Kd.R_append (Kd.int .i64) (w0 := w) w.heap.size rfl (.tmp 39) (.tmp 41) 27 3 (.int .i64 0) 8 rfl Tryz.underlying27 info3 rfl (by decide) (by omega) u8 ao (rd ak aj) [.int .i64 (rd ak aj)] (fun k_ => some k_ ≠ (.slice (some bp) ak.length br : Value).ownBlock) (fun _ => False) rfl rfl ?aP (fun _ hk => hk.elim) ?aF ?aO ?aB ?aS ?aL ?_; (case aP => exact rfl); (case aB => exact Sh.bw); (case aF => exact (fun k_ hk => Kd.fresh' (Kd.R_lt (Sh.rl ae.out)) k_ hk)); (case aO => exact (Sh.rl al.out)); (case aS => exact (below_size Sh.bw)); (case aL => have := bM.out; omega); intro cV cW ho hb hg hat; rw [← bN.out] at ho; have cM := am_ (Kd.R_after (ok := (fun _ => True)) (Sh.rl (Kd.R_mono ae.out (fun _ hk => ⟨trivial, hk⟩))) hg hat); have cN := am_ (blk_grown (g := am) (o := .cells #[.int .i64 ah, .int .i64 ai, .slice ap ac.length aq, .slice au af.length av] 33 (0, 0)) (Sh.pl aa.out) hg (Kd.R_ne al.out aa.out (by decide))); have cO := am_ hb; have cP := am_ ho; clear ae; clear aa; clear HB; clear al; have ae := cM; have aa := cN; have HB := cO; have ax := cP; clear cM cN cO cP; clear ho hb hg hat))
              replace ae := am_ (Kd.R_drew ae.out);replace ax := am_ (Kd.R_drew ax.out);replace aa := am_ (blk_drew aa.out);replace HB := am_ (below_drew1 HB.out);obtain ⟨cX, cY, bO⟩ := Kd.R_slice ax.out;(first | subst bO | (injection bO with bP cF bQ; have cG := bP.symm; have cH := bQ.symm; clear bP cF bQ; subst cG; subst cH));have bu : 0 ≤ ((ay) : Int) := Sh.od;have bv : (ay) < (ar.length : Int) := Sh.od;obtain ⟨bR, cI, aJ⟩ := Kd.at_int (Kd.R_reads' ax.out).2.2 (ay) bu bv;cases cI;replace bu := eq_true bu;replace bv := eq_true bv;refine start_ (n := 9) (S := fun w' => w'.cell? ⟨am, 0, none⟩ = some (.int .i64 ah) ∧ w'.cell? ⟨am, 1, none⟩ = some (.int .i64 ai) ∧ w'.cell? ⟨am, 2, none⟩ = some (.slice ap ac.length aq) ∧ w'.cell? ⟨am, 3, none⟩ = some (.slice au af.length av) ∧ w'.cell? (bR.add ((ay)).toNat) = some (.int .i64 (rd ar (ay)))) (ds := []) (Sh.nm 9 0) (by kernel_rfl) rfl rfl ⟨(blk_cell aa.out 0).trans rfl, (blk_cell aa.out 1).trans rfl, (blk_cell aa.out 2).trans rfl, (blk_cell aa.out 3).trans rfl, aJ⟩ (fun hHeld => ?_); refine with_tabW Qaj.tab14 Qaj.bits14 (fun HT_ HW_ => ?_);generalize cW.drew = db at ae ax aa HB aJ hHeld ⊢;refine Sh.qA 1 ?_; refine Sh.qA 2 ?_; refine Sh.qA 3 ?_; refine Sh.qA 4 ?_; refine Sh.qA 5 ?_; refine Sh.qT 0 hHeld ?_; refine Sh.qT 6 hHeld ?_;refine one_ (i := 7) (N := some 51) (Sh.nm 9 255) rfl rfl (one_of HT_.out (by kernel_rfl)) (by decide) (fun K hK => ?_);refine goes_ Tryz.func18 (by kernel_rfl) rfl #[.agg #[.int .i64 ah, .int .i64 ai, .slice ap ac.length aq, .slice au af.length av], .int .i64 (rd ar (ay))] (by rfl) rfl rfl (by (try simp only [List.map_toArray, List.map_cons, List.map_nil]); first | done | (simp only [hj1]; rfl) | rfl | (simp only [List.length_drop, List.length_take]; rfl)) ?_;with_reducible refine (Qar.calls k2 ah ai _ _ ac _ _ af (rd ar (ay)) aM _ (Sh.cB aA.out) aC.out (Sh.cB aD.out) aE.out cU.out).mono ?_
              rintro e dc ⟨cZ, rfl, aN, hb⟩;have bA := (hb.cell (World.block_lt_of_cell? _ _ (hHeld.2.2.2.2))).trans (hHeld.2.2.2.2);refine ⟨_, rfl, ?_⟩;have bS := am_ (Kd.R_lower (Kd.R_new' (Kd.R_new' aN (Kd.R_lt (Sh.rl ae.out))) (Kd.R_lt (Sh.rl ax.out))) (below_size Sh.bw));replace ae := am_ (Kd.R_elder' (Sh.rl ae.out) (Kd.R_base aN) hb);replace ax := am_ (Kd.R_elder' (Sh.rl ax.out) (Kd.R_base aN) hb);replace aa := Sh.ab aa hb;replace HB := Sh.hb hb;(try clear hb);(try clear hk);(try clear aN);refine Sh.kN hK ⟨(blk_cell aa.out 0).trans rfl, (blk_cell aa.out 1).trans rfl, (blk_cell aa.out 2).trans rfl, (blk_cell aa.out 3).trans rfl, bA⟩ fun hHeld => ?_;clear hK K;refine Sh.qA 8 ?_;refine done_ (done_of HT_.out (by kernel_rfl)) ?_;try go_wp2
              go_roundg k2
              case measure => have := bD.out; have := bF.out; omega
              case rel => exact ⟨(wrap64 (aw - 1)), (ar), (aM), (Sh.es), H', ⟨by have := bD.out; have := bF.out; omega⟩, ⟨Sh.rl (Kd.R_mono ax.out (fun _ hk => hk.2))⟩, ⟨Sh.rl (Kd.R_mono bS.out (fun _ hk => hk.2))⟩, ⟨by refine Sh.pl ?_; exact aa.out⟩, ⟨Sh.bw⟩⟩
             ·rw [if_neg b1] at H
              cases H
            ·rw [if_neg b0] at H
             cases H
           ·rw [if_neg bZ] at H
            cases H
          ·replace bY := Bool.eq_false_iff.mpr bY
           subst bY;rw [Sh.nf] at H;have H' := am_ H;clear H;have aH : 0 ≤ (aj : Int) := Sh.od;have aI : aj < (ak.length : Int) := Sh.od;obtain ⟨bp, bs, bj⟩ := Kd.at_int (Kd.R_reads' ae.out).2.2 aj aH aI;cases bs;replace aH := eq_true aH;replace aI := eq_true aI;have cf := Sh.bc aa.out 0;have cg := Sh.bc aa.out 1;have ch := Sh.bc aa.out 2;have ci := Sh.bc aa.out 3;have cj := blk_frozen aa.out 0;have ck := blk_frozen aa.out 1;have cl := blk_frozen aa.out 2;have cm := blk_frozen aa.out 3;go_wp2_with (first | ((with_reducible refine Sh.k 17 ?_); refine Sh.gB (some 38) Tryz.func17 #[.agg #[.int .i64 ah, .int .i64 ai, .slice ap ac.length aq, .slice au af.length av], .int .i64 (rd ak aj), .int .i64 a1, .int .i64 aw] (QaT.calls k2 ah ai _ _ ac _ _ af (rd ak aj) a1 aw false _ (Sh.cB aA.out) aC.out (Sh.cB aD.out) aE.out cD.out) fun dd hb => ?_; replace al := am_ (Kd.R_below (Sh.rl al.out) hb); replace ae := am_ (Kd.R_below (Sh.rl ae.out) hb); replace aa := Sh.ab aa hb; replace HB := Sh.hb hb; (try clear hb); (try clear hk)));go_roundg k2
           case measure => have := bD.out; have := bF.out; omega
           case rel => exact ⟨(ao), (wrap64 (aj + 1)), (Sh.es), H', ⟨by have := bD.out; have := bF.out; omega⟩, ⟨Sh.rl al.out⟩, ⟨Sh.rl ae.out⟩, ⟨by refine Sh.pl ?_; exact aa.out⟩, ⟨Sh.bw⟩⟩
         ·rw [if_neg bX] at H
          cases H
        ·rw [if_neg bW] at H
         cases H
       ·rw [if_neg bG] at H
        replace bG := decide_eq_false bG;obtain ⟨az, hj1⟩ : ∃ j_ : Int, (wrap64 ((ao.length : Int) - 1)) = j_ := ⟨_, rfl⟩;replace H : (if 0 ≤ (az) then (if (az) < (ao.length : Int) then ((Qar.f k2 ah ai ac af (rd ao (az))).bind fun bk => (Qaj.l0 k2 a1 (wrap64 (aw - 1)) ao bk ah ai ac af)) else (none)) else (none)) = some (r1, r2) := by first | (rw [hj1] at H; exact H) | (simp only [hj1] at H ⊢; exact H)
        have hji31w : (IntKind.i64.wrap ((ao.length : Int) - 1)) = az := (i64_w _).trans hj1;by_cases cn : 0 ≤ (az)
        ·rw [if_pos cn] at H
         replace cn := decide_eq_true cn;by_cases co : (az) < (ao.length : Int)
         ·rw [if_pos co] at H
          replace co := decide_eq_true co;obtain ⟨bk, c5, H⟩ := Sh.ba H;have H' := am_ H;clear H;try go_wp2
          replace al := am_ (Kd.R_drew al.out);replace ae := am_ (Kd.R_drew ae.out);replace aa := am_ (blk_drew aa.out);replace HB := am_ (below_drew1 HB.out);obtain ⟨c6, c7, bT⟩ := Kd.R_slice al.out;(first | subst bT | (injection bT with bP cF bQ; have cG := bP.symm; have cH := bQ.symm; clear bP cF bQ; subst cG; subst cH));have bB : 0 ≤ ((az) : Int) := Sh.od;have bC : (az) < (ao.length : Int) := Sh.od;obtain ⟨bU, cJ, aK⟩ := Kd.at_int (Kd.R_reads' al.out).2.2 (az) bB bC;cases cJ;replace bB := eq_true bB;replace bC := eq_true bC;refine start_ (n := 9) (S := fun w' => w'.cell? ⟨am, 0, none⟩ = some (.int .i64 ah) ∧ w'.cell? ⟨am, 1, none⟩ = some (.int .i64 ai) ∧ w'.cell? ⟨am, 2, none⟩ = some (.slice ap ac.length aq) ∧ w'.cell? ⟨am, 3, none⟩ = some (.slice au af.length av) ∧ w'.cell? (bU.add ((az)).toNat) = some (.int .i64 (rd ao (az)))) (ds := []) (Sh.nm 9 0) (by kernel_rfl) rfl rfl ⟨(blk_cell aa.out 0).trans rfl, (blk_cell aa.out 1).trans rfl, (blk_cell aa.out 2).trans rfl, (blk_cell aa.out 3).trans rfl, aK⟩ (fun hHeld => ?_); refine with_tabW Qaj.tab14 Qaj.bits14 (fun HT_ HW_ => ?_);generalize wr.drew = de at al ae aa HB aK hHeld ⊢;refine Sh.qA 1 ?_; refine Sh.qA 2 ?_; refine Sh.qA 3 ?_; refine Sh.qA 4 ?_; refine Sh.qA 5 ?_; refine Sh.qT 0 hHeld ?_; refine Sh.qT 6 hHeld ?_;refine one_ (i := 7) (N := some 51) (Sh.nm 9 255) rfl rfl (one_of HT_.out (by kernel_rfl)) (by decide) (fun K hK => ?_);refine goes_ Tryz.func18 (by kernel_rfl) rfl #[.agg #[.int .i64 ah, .int .i64 ai, .slice ap ac.length aq, .slice au af.length av], .int .i64 (rd ao (az))] (by rfl) rfl rfl (by (try simp only [List.map_toArray, List.map_cons, List.map_nil]); first | done | (simp only [hj1]; rfl) | rfl | (simp only [List.length_drop, List.length_take]; rfl)) ?_;with_reducible refine (Qar.calls k2 ah ai _ _ ac _ _ af (rd ao (az)) bk _ (Sh.cB aA.out) aC.out (Sh.cB aD.out) aE.out c5.out).mono ?_
          rintro e df ⟨c8, rfl, aN, hb⟩;have bA := (hb.cell (World.block_lt_of_cell? _ _ (hHeld.2.2.2.2))).trans (hHeld.2.2.2.2);refine ⟨_, rfl, ?_⟩;have bV := am_ (Kd.R_lower (Kd.R_new' (Kd.R_new' aN (Kd.R_lt (Sh.rl al.out))) (Kd.R_lt (Sh.rl ae.out))) (below_size Sh.bw));replace al := am_ (Kd.R_elder' (Sh.rl al.out) (Kd.R_base aN) hb);replace ae := am_ (Kd.R_elder' (Sh.rl ae.out) (Kd.R_base aN) hb);replace aa := Sh.ab aa hb;replace HB := Sh.hb hb;(try clear hb);(try clear aN);refine Sh.kN hK ⟨(blk_cell aa.out 0).trans rfl, (blk_cell aa.out 1).trans rfl, (blk_cell aa.out 2).trans rfl, (blk_cell aa.out 3).trans rfl, bA⟩ fun hHeld => ?_;clear hK K;refine Sh.qA 8 ?_;refine done_ (done_of HT_.out (by kernel_rfl)) ?_;try go_wp2
          go_roundg k2
          case measure => have := bD.out; have := bF.out; omega
          case rel => exact ⟨(wrap64 (aw - 1)), (ao), (bk), (Sh.es), H', ⟨by have := bD.out; have := bF.out; omega⟩, ⟨Sh.rl (Kd.R_mono al.out (fun _ hk => hk.2))⟩, ⟨Sh.rl (Kd.R_mono bV.out (fun _ hk => hk.1.2))⟩, ⟨by refine Sh.pl ?_; exact aa.out⟩, ⟨Sh.bw⟩⟩
         ·rw [if_neg co] at H
          cases H
        ·rw [if_neg cn] at H
         cases H
    ·rw [if_neg bE] at H
     have c11b0 : decide (0 ≤ aw) = false := decide_eq_false bE;clear bE;obtain ⟨rfl, rfl⟩ := Prod.mk.inj (Option.some.inj H);go_wp2;go_ret2;exact ⟨_, Sh.eR, Sh.rl (Kd.R_mono al.out (fun _ hk => trivial)), Sh.bw⟩
 ·replace c4 := Bool.eq_false_iff.mpr c4
  subst c4;rw [Sh.nf] at H;obtain ⟨rfl, rfl⟩ := Prod.mk.inj (Option.some.inj H);go_enter Tryz.func5, Tryz.ntmps5;go_wp2_with (first | ((with_reducible refine Sh.d 2 ?_); refine Sh.bz w (N := 2) (cs := #[.int .i64 ah, .int .i64 ai, .slice ap ac.length aq, .slice au af.length av]) (t := 33) (h := ?_); clear HB; intro am dg aa bI HB; obtain ⟨cp, cq, cr, ct, cu, cv, cx, cy⟩ := Sh.b4 aa.out) | ((with_reducible refine Sh.k 15 ?_); refine Sh.gB (some 15) Tryz.func15 #[.agg #[.int .i64 ah, .int .i64 ai, .slice ap ac.length aq, .slice au af.length av], .int .i64 a1] (Qat.calls k ah ai _ _ ac _ _ af a1 bq false _ (Sh.cB aA.out) aC.out (Sh.cB aD.out) aE.out A3.out) fun dh hb => ?_; replace aa := Sh.ab aa hb; replace HB := Sh.hb hb; (try clear hb); (try clear hk)));go_ret2;exact ⟨_, Sh.eR, by first | exact Kd.R_nil _ _ _ _ _ | exact Kd.N_nil _ _ _ _ _ | exact Kd.V_nil _ _ _ _ _ | exact Kd.Q_nil _ _ _ _ _ | exact Kd.S_nil _ _ _ _ _, Sh.bw⟩
def QbN.f (aa : Int) (ac : Int) : Option (Int × Int) := some (aa, ac)
theorem QbN.calls (al : Int) (am : Int) (r1 : Int) (r2 : Int) (w : World) (h : QbN.f al am = some (r1, r2)) :
  Calls Tryz.prog 42 #[.agg #[.int .i64 al, .int .u64 am]] w fun e w' => e = .returned (.agg #[.int .i64 r1, .int .u64 r2]) ∧ Below w.heap.size w w' := by
 have aJ := Tryz.underlying79;have aK := Tryz.underlying77;have HB := am_ (Below.refl w.heap.size w);have H := h;clear h;unfold QbN.f at H;obtain ⟨rfl, rfl⟩ := Prod.mk.inj (Option.some.inj H);go_enter Tryz.func42, Tryz.ntmps42;go_wp2_with (first | ((with_reducible refine Sh.d 1 ?_); refine Sh.bz w (N := 1) (cs := #[.int .i64 al, .int .u64 am]) (t := 79) (h := ?_); clear HB; intro aE w2 aa aF HB) | ((with_reducible refine Sh.d 2 ?_); refine Sh.bx (N := 2) (cs := #[.int .i64 0, .int .u64 0]) (t := 77) (h := ?_); intro ao hg w3 hbox hb; have ae := am_ hbox; have aG := Sh.ag w hg; replace HB := Sh.hb hb; have af := am_ (Sh.nl hg aa.out); have ah := am_ (Sh.ng hg aa.out); replace aa := Sh.ab aa hb; clear hb hbox hg) | ((with_reducible refine Sh.d 3 ?_); refine Sh.bx (N := 3) (cs := #[.int .i64 0, .int .u64 0]) (t := 77) (h := ?_); intro aH hg w4 hbox hb; have ap := am_ hbox; have aI := Sh.ag w hg; replace HB := Sh.hb hb; have ai := am_ (Sh.nl hg aa.out); have aj := am_ (Sh.ng hg aa.out); replace aa := Sh.ab aa hb; have ac := am_ (Sh.nl hg ae.out); have ak := am_ (Sh.ng hg ae.out); replace ae := Sh.ab ae hb; clear hb hbox hg; have aL := af.out; have aM := ah.out; have aN := ai.out; have aO := aj.out; obtain ⟨aw, ax, ay, az⟩ := Sh.b2 aa.out; have aP := ak.out; have aQ := ac.out; obtain ⟨aA, aB, aC, aD⟩ := Sh.b2 ap.out; obtain ⟨aq, ar, au, av⟩ := Sh.b2 ae.out));refine bodyPost_ret (results_cell_row rfl _ _ ao 77 #[.int .i64 al, .int .u64 am] (0, 0) _ rfl (by refine Sh.pl ?_; refine blk_put (cs := #[.int .i64 al, .int .u64 0]) ?_ 1 _ rfl; refine Sh.pl ?_; refine blk_put (cs := #[.int .i64 0, .int .u64 0]) ?_ 0 _ rfl; refine Sh.pl ?_; refine blk_far ?_ ac.out _; refine Sh.pl ?_; refine blk_far ?_ ac.out _; refine Sh.pl ?_; exact ae.out) Tryz.underlying77 rfl (by kernel_rfl)) rfl ?_;exact ⟨Sh.eR, Sh.bw⟩
def QaG.l0 : Nat → List (S79) → List (S77) → Int → Option ((List (S77)))
 | 0, _, _, _ => none
 | k + 1, x0, x3, x4 => if x4 < (x0.length : Int) then (if 0 ≤ x4 then ((QbN.f ((rd_T79 x0 x4).f0) ((rd_T79 x0 x4).f1)).bind fun aa => (if x4 < (x3.length : Int) then (QaG.l0 k x0 (x3.set (x4 : Int).toNat (⟨aa.1, aa.2⟩ : S77)) (wrap64 (x4 + 1))) else (none))) else (none)) else (some x3)
def QaG.f (k : Nat) (l0 : List (S79)) : Option ((List (S77))) := if 0 ≤ (l0.length : Int) then (if ((l0.length : Int) : Int).toNat ≤ 17592186044416 then (QaG.l0 k l0 (List.replicate ((l0.length : Int) : Int).toNat z77) 0) else (none)) else (none)
theorem QaG.mono_l : ∀ k, (∀ y0 y1 y2, LeO (QaG.l0 k y0 y1 y2) (QaG.l0 (k + 1) y0 y1 y2))
 | 0 => fun _ _ _ r h => by simp [QaG.l0] at h
 | k + 1 => by
  have aa := QaG.mono_l k
  ·intro y0 y1 y2
   unfold QaG.l0
   repeat' with_reducible first | apply aa | exact LeO.refl _ | exact LeO.none _ | apply LeO.ite | refine LeO.bind ?_ fun _ => ?_
theorem QaG.mono : ∀ a0 k, LeO (QaG.f k a0) (QaG.f (k + 1) a0) := by
 intro a0 k;have aa := QaG.mono_l k;unfold QaG.f;repeat' with_reducible first | apply aa | exact LeO.refl _ | exact LeO.none _ | apply LeO.ite | refine LeO.bind ?_ fun _ => ?_
theorem QaG.calls (k : Nat) (A0 : Option Addr) (c0 : Nat) (l0 : List (S79)) (r : List (S77)) (w : World) (a7 : Kd.C k79 w A0 l0.length l0) (hc0 : l0.length ≤ c0) (h : QaG.f k l0 = some r) :
  Calls Tryz.prog 19 #[.slice A0 l0.length c0] w fun e w' => ∃ a8 : Value, e = .returned (a8) ∧ Kd.R k77 77 w' w.heap.size (fun _ => True) a8 r ∧ Below w.heap.size w w' := by
 have bi := Tryz.underlying79;have bj := Tryz.underlying77;have bk := am_ a7;have bp := am_ hc0;clear a7 hc0;have HB := am_ (Below.refl w.heap.size w);have H := h;clear h;unfold QaG.f at H;by_cases c2 : 0 ≤ (l0.length : Int)
 ·rw [if_pos c2] at H
  have c2b0 := eq_true c2;have c2b1 := decide_eq_true c2;clear c2;by_cases c3 : ((l0.length : Int) : Int).toNat ≤ 17592186044416
  ·rw [if_pos c3] at H
   have c3b0 := eq_true c3;have c3b1 := decide_eq_true c3;clear c3;obtain ⟨aG, ah⟩ : ∃ y_ : List (S77), y_ = (List.replicate ((l0.length : Int) : Int).toNat z77) := ⟨_, rfl⟩;replace H : (QaG.l0 k l0 aG 0) = some r := by first | (rw [ah]; with_reducible exact H) | (have aw := (Option.bind_some _ _).symm.trans H; rw [ah]; with_reducible exact aw) | (have aw := (Option.bind_some _ _).symm.trans H; with_reducible exact aw) | with_reducible exact H | (rw [ah]; exact H) | exact H
   have au := am_ ah;clear ah;have H' := am_ H;clear H;go_enter Tryz.func19, Tryz.ntmps19;go_wp2_with (first | ((with_reducible refine Sh.d 7 ?_); refine Kd.R_make k77 _ 77 rfl (N := 7) rfl 30 _ _ rfl (l0.length : Int) rfl rfl Tryz.underlying30 (.agg #[(.int .i64 0), (.int .u64 0)]) 16 info77 rfl (by decide) (by omega) z77 (ok := fun _ => True) (okp := fun _ => True) (k77_mkM _ _ _ z77 ) (fun _ hk => hk) trivial (of_decide_eq_true (by first | (with_reducible assumption) | assumption)) (Nat.le_trans (Nat.mul_le_mul_right _ (of_decide_eq_true (by first | (with_reducible assumption) | assumption) : (l0.length : Int).toNat ≤ 17592186044416)) (by omega)) (Below.refl _ _) (Nat.le_refl _) ?_; intro aT w4 aH hb hg_ hnew_; clear hg_ hnew_; (first | rw [← au.out] at aH | (simp only [Int.reduceToNat] at aH; rw [← au.out] at aH)); have aI := am_ (Kd.R_lower aH (below_size Sh.bw)); replace HB := Sh.hb hb; clear hb aH));go_loopg [4] k (fun kq v4 w' => ∃ (ac : List (S77)) (aa : Int), v4 = .int .i64 aa ∧ Aside0 (QaG.l0 kq l0 ac aa = some r) ∧ Aside0 (kq ≤ k) ∧ Aside0 (Kd.R k77 77 w' w.heap.size (fun _ => True) aT ac) ∧ Aside0 (Below w.heap.size w w'))
   case atStart => exact ⟨(aG), (0), (Sh.es), H', ⟨Nat.le_refl _⟩, ⟨Sh.rl aI.out⟩, ⟨Sh.bw⟩⟩
   case round =>
    clear H';obtain ⟨ac, aa, rfl, HA, bf, ae, HB⟩ := hrel;cases gk with
    | zero => exact absurd HA.out (by simp [QaG.l0])
    | succ k1 =>
     have H := HA.out;clear HA;simp only [QaG.l0] at H;by_cases c6 : aa < (l0.length : Int)
     ·rw [if_pos c6] at H
      replace c6 := decide_eq_true c6;by_cases c7 : 0 ≤ aa
      ·rw [if_pos c7] at H
       replace c7 := decide_eq_true c7;obtain ⟨⟨am, ao⟩, bg, H⟩ := Sh.bd H;have A8 := am_ bg;clear bg;by_cases c9 : aa < (ac.length : Int)
       ·rw [if_pos c9] at H
        replace c9 := decide_eq_true c9;obtain ⟨ax, ai⟩ : ∃ y_ : List (S77), y_ = (ac.set (aa : Int).toNat (⟨am, ao⟩ : S77)) := ⟨_, rfl⟩;replace H : (QaG.l0 k1 l0 ax (wrap64 (aa + 1))) = some r := by first | (rw [ai]; with_reducible exact H) | (have aw := (Option.bind_some _ _).symm.trans H; rw [ai]; with_reducible exact aw) | (have aw := (Option.bind_some _ _).symm.trans H; with_reducible exact aw) | with_reducible exact H | (rw [ai]; exact H) | exact H
        have aJ := am_ ai;clear ai;have H' := am_ H;clear H;have ay : 0 ≤ (aa : Int) := Sh.od;have az : aa < (l0.length : Int) := Sh.od;obtain ⟨bh, aU, aj, ak⟩ := at_T79 bk.out aa ay az;cases aU;try replace aj := Sh.cw aj
        try replace ak := Sh.cw ak
        replace ay := eq_true ay;replace az := eq_true az;go_wp2_with (first | ((with_reducible refine Sh.k 42 ?_); refine Sh.gB (some 20) Tryz.func42 #[.agg #[.int .i64 ((rd_T79 l0 aa).f0), .int .u64 ((rd_T79 l0 aa).f1)]] (QbN.calls ((rd_T79 l0 aa).f0) ((rd_T79 l0 aa).f1) am ao _ A8.out) fun aA hb => ?_; replace ae := am_ (Kd.R_below (Sh.rl ae.out) hb); replace HB := Sh.hb hb; (try clear hb); (try clear hk); have aV : 0 ≤ (aa : Int) := Sh.od; have aW : (aa : Int) < ((ac.length : Int) : Int) := Sh.od; obtain ⟨af, aK, aL, aM, aX, bl, aN⟩ := Kd.R_form ae.out (by omega); (first | cases aL | (injection aL with ea_ en_ ec_; (first | subst ea_ | (injection ea_ with ea_; subst ea_)); subst ec_; clear en_)); have aO := am_ aM; have bm := am_ aN; clear aM aX aN; obtain ⟨bn, aP, aQ, ap, aq⟩ := Kd.R_elem ae.out z77 (aa : Int) aV aW; obtain rfl := k77_openM aQ; have aY : aA.cell? ⟨af, (aa : Int).toNat * 2, none⟩ = some (.int .i64 ((rd_T77 ac aa).f0)) := ap 0 _ rfl; have aZ : aA.cell? ⟨af, (aa : Int).toNat * 2 + 1, none⟩ = some (.int .u64 ((rd_T77 ac aa).f1)) := ap 1 _ rfl; have a1 : aA.frozen? ⟨af, (aa : Int).toNat * 2, none⟩ = false := aq 0; have a2 : aA.frozen? ⟨af, (aa : Int).toNat * 2 + 1, none⟩ = false := aq 1; clear aP ap aq; (try clear aQ); replace aV := eq_true aV; replace aW := eq_true aW; have aR := am_ (show Kd.R k77 77 aA w.heap.size (fun _ => True) (.slice (some ⟨af, 0, none⟩) ac.length aK) ac from (Sh.rl ae.out)); obtain ⟨bo, av, aS, al, ar⟩ := Kd.R_elem aR.out z77 (aa : Int) (of_decide_eq_true (by first | (with_reducible assumption) | assumption)) (by have h_ : (aa : Int) < ((ac.length : Int) : Int) := Sh.od; first | exact h_ | (have e_ := (Kd.R_reads' ae.out).1; omega) | simpa using h_); obtain rfl := k77_openM aS; have aB := Kd.R_seg aR.out (aa : Int) (of_decide_eq_true (by first | (with_reducible assumption) | assumption)) (by have h_ : (aa : Int) < ((ac.length : Int) : Int) := Sh.od; first | exact h_ | (have e_ := (Kd.R_reads' ae.out).1; omega) | simpa using h_) (seg := [.int .i64 am, .int .u64 ao]) (j := 0) av al (show 2 ≤ 2 from by decide) (x' := (⟨am, ao⟩ : S77)) (k77_mkM _ _ _ (⟨am, ao⟩ : S77) ) (fun _ hk => hk); have aC := al 0 _ rfl; (try simp only [show (k77).sz = 2 from rfl, Nat.mul_one, Nat.add_zero] at aC); have aD := ar 0; (try simp only [show (k77).sz = 2 from rfl, Nat.mul_one, Nat.add_zero] at aD); have aE := al 1 _ rfl; (try simp only [show (k77).sz = 2 from rfl, Nat.mul_one, Nat.add_zero] at aE); have aF := ar 1; (try simp only [show (k77).sz = 2 from rfl, Nat.mul_one, Nat.add_zero] at aF); clear av al ar; (try clear aS)) | ((with_reducible refine gate_store (t := 77) (p := 21) rfl ?_); refine store_event (t := 77) (p := 21) (v := ?vo_w13) (w1 := ((aA.setCell ⟨af, (aa : Int).toNat * 2, none⟩ (.int .i64 am)).setCell ⟨af, (aa : Int).toNat * 2 + 1, none⟩ (.int .u64 ao))) ?hg ?ho ?hn ?hr ?_; (case ho => rfl); (case hg => rfl); (case hn => rfl); (case hr => first | (go_simp; done) | (go_simp; rfl)); intro a6 hw; have hg : aA.grownBy a6 (some af) := (by rw [hw]; exact aB.2); have hp_ : Kd.R k77 77 a6 w.heap.size (fun _ => True) (.slice (some ⟨af, 0, none⟩) ac.length aK) ax := (by rw [hw, aJ.out]; exact aB.1); clear aB; replace ae := am_ hp_; replace HB := am_ ((by rw [hw]; exact below_set (below_set (HB.out) aO.out) aO.out : Below w.heap.size w a6)); clear hg hw hp_));go_roundg k1
        case measure => have := bf.out; omega
        case rel => exact ⟨(ax), (wrap64 (aa + 1)), (Sh.es), H', ⟨by have := bf.out; omega⟩, ⟨Sh.rl ae.out⟩, ⟨Sh.bw⟩⟩
       ·rw [if_neg c9] at H
        cases H
      ·rw [if_neg c7] at H
       cases H
     ·rw [if_neg c6] at H
      replace c6 := decide_eq_false c6;obtain rfl := Option.some.inj H;go_wp2;go_ret;exact ⟨_, Sh.eR, Sh.rl ae.out, Sh.bw⟩
  ·rw [if_neg c3] at H
   cases H
 ·rw [if_neg c2] at H
  cases H
def Qbt.f (k : Nat) (aa : Int) (ac : List (S79)) : Option (Int × (List (S77))) := (QaG.f k ac).bind fun ae => (some (aa, ae))
theorem Qbt.mono : ∀ a0 a1 k, LeO (Qbt.f k a0 a1) (Qbt.f (k + 1) a0 a1) := by
 intro a0 a1 k;unfold Qbt.f;repeat' with_reducible first | apply QaG.mono | exact LeO.refl _ | exact LeO.none _ | apply LeO.ite | refine LeO.bind ?_ fun _ => ?_
theorem Qbt.calls (k : Nat) (ai : Int) (aq : Option Addr) (ar : Nat) (ah : List (S79)) (r1 : Int) (r2 : List (S77)) (w : World) (av : Kd.C k79 w aq ah.length ah) (aw : ah.length ≤ ar) (h : Qbt.f k ai ah = some (r1, r2)) :
  Calls Tryz.prog 79 #[.agg #[.int .i64 ai, .slice aq ah.length ar]] w fun e w' => ∃ aV : Value, e = .returned (.agg #[.int .i64 r1, aV]) ∧ Kd.R k77 77 w' w.heap.size (fun _ => True) aV r2 ∧ Below w.heap.size w w' := by
 have aW := Tryz.underlying110;have aX := Tryz.underlying100;have aB := am_ av;have aC := am_ aw;clear av aw;have HB := am_ (Below.refl w.heap.size w);have H := h;clear h;unfold Qbt.f at H;obtain ⟨au, A2, H⟩ := Sh.ba H;obtain ⟨rfl, rfl⟩ := Prod.mk.inj (Option.some.inj H);go_enter Tryz.func79, Tryz.ntmps79;go_wp2_with (first | ((with_reducible refine Sh.d 1 ?_); refine Sh.bz w (N := 1) (cs := #[.int .i64 ai, .slice aq ah.length ar]) (t := 110) (h := ?_); clear HB; intro aD w3 aa aY HB) | ((with_reducible refine Sh.d 2 ?_); refine Sh.bx (N := 2) (cs := #[.int .i64 0, .slice none 0 0]) (t := 100) (h := ?_); intro ak hg w4 hbox hb; have ac := am_ hbox; have aZ := Sh.ag w hg; replace HB := Sh.hb hb; have al := am_ (Sh.nl hg aa.out); have am := am_ (Sh.ng hg aa.out); replace aa := Sh.ab aa hb; clear hb hbox hg) | ((with_reducible refine Sh.d 3 ?_); refine Sh.bx (N := 3) (cs := #[.int .i64 0, .slice none 0 0]) (t := 100) (h := ?_); intro ax hg w5 hbox hb; have aj := am_ hbox; have a1 := Sh.ag w hg; replace HB := Sh.hb hb; have af := am_ (Sh.nl hg aa.out); have ao := am_ (Sh.ng hg aa.out); replace aa := Sh.ab aa hb; have ae := am_ (Sh.nl hg ac.out); have ap := am_ (Sh.ng hg ac.out); replace ac := Sh.ab ac hb; clear hb hbox hg; have a6 := al.out; have a7 := am.out; have a8 := af.out; have bf := ao.out; obtain ⟨aQ, aR, aS, aT⟩ := Sh.b2 aa.out; have bg := ap.out; have bh := ae.out; obtain ⟨aE, aF, aG, aH⟩ := Sh.b2 aj.out) | ((with_reducible refine Sh.k 19 ?_); refine Sh.gL (some 9) Tryz.func19 #[.slice aq ah.length ar] (h := ?_); (with_reducible refine (QaG.calls k _ _ ah au _ (Sh.cB aB.out) aC.out A2.out).mono ?_); rintro e bj ⟨bi, rfl, a2, hb⟩; refine ⟨_, rfl, ?_⟩; have ay := am_ (Kd.R_lower a2 (below_size Sh.bw)); replace aa := am_ (blk_below (g := aD) (o := .cells #[.int .i64 ai, .slice aq ah.length ar] 110 (0, 0)) (by refine Sh.pl ?_; refine blk_far ?_ af.out _; refine Sh.pl ?_; exact aa.out) hb); replace ac := am_ (blk_below (g := ak) (o := .cells #[.int .i64 0, .slice none 0 0] 100 (0, 0)) (by refine Sh.pl ?_; refine blk_far ?_ ae.out _; refine Sh.pl ?_; exact ac.out) hb); replace aj := am_ (blk_below (g := ax) (o := .cells #[.int .i64 ai, .slice none 0 0] 100 (0, 0)) (by refine Sh.pl ?_; refine blk_put (cs := #[.int .i64 0, .slice none 0 0]) ?_ 0 _ rfl; refine Sh.pl ?_; exact aj.out) hb); replace HB := Sh.hb hb; (try clear hb); (try clear a2); obtain ⟨az, aA, aU⟩ := Kd.R_slice ay.out; subst aU; obtain ⟨aI, aJ, aK, aL⟩ := Sh.b2 aj.out; obtain ⟨aM, aN, aO, aP⟩ := Sh.b2 ac.out));refine bodyPost_ret (results_cell_row rfl _ _ ak 100 #[.int .i64 ai, .slice az au.length aA] (0, 0) _ rfl (by refine Sh.pl ?_; refine blk_put (cs := #[.int .i64 ai, .slice none 0 0]) ?_ 1 _ rfl; refine Sh.pl ?_; refine blk_put (cs := #[.int .i64 0, .slice none 0 0]) ?_ 0 _ rfl; refine Sh.pl ?_; refine blk_far ?_ ae.out _; refine Sh.pl ?_; exact ac.out) Tryz.underlying100 rfl (by kernel_rfl)) rfl ?_;exact ⟨_, Sh.eR, Sh.rl (Kd.R_mono (Kd.R_far (p := ⟨ak, 1, none⟩) (Kd.R_far (p := ⟨ak, 0, none⟩) (Kd.R_far (p := ⟨ax, 1, none⟩) (Kd.R_types (Kd.R_types ay.out aj.out (by decide)) ac.out (by decide)) (fun _ hk => hk.1.2) (.slice az au.length aA)) (fun _ hk => hk.2) (.int .i64 ai)) (fun _ hk => hk.2) (.slice az au.length aA)) (fun _ hk => trivial)), Sh.bw⟩
def QaP.l0 : Nat → List (S110) → List (S100) → Int → Option ((List (S100)))
 | 0, _, _, _ => none
 | k + 1, x0, x3, x4 => if x4 < (x0.length : Int) then (if 0 ≤ x4 then ((Qbt.f k ((rd_T110 x0 x4).f0) ((rd_T110 x0 x4).f1)).bind fun aa => (if x4 < (x3.length : Int) then (QaP.l0 k x0 (x3.set (x4 : Int).toNat (⟨aa.1, aa.2⟩ : S100)) (wrap64 (x4 + 1))) else (none))) else (none)) else (some x3)
def QaP.f (k : Nat) (l0 : List (S110)) : Option ((List (S100))) := if 0 ≤ (l0.length : Int) then (if ((l0.length : Int) : Int).toNat ≤ 8796093022208 then (QaP.l0 k l0 (List.replicate ((l0.length : Int) : Int).toNat z100) 0) else (none)) else (none)
theorem QaP.mono_l : ∀ k, (∀ y0 y1 y2, LeO (QaP.l0 k y0 y1 y2) (QaP.l0 (k + 1) y0 y1 y2))
 | 0 => fun _ _ _ r h => by simp [QaP.l0] at h
 | k + 1 => by
  have aa := QaP.mono_l k
  ·intro y0 y1 y2
   unfold QaP.l0
   repeat' with_reducible first | apply aa | apply Qbt.mono | exact LeO.refl _ | exact LeO.none _ | apply LeO.ite | refine LeO.bind ?_ fun _ => ?_
theorem QaP.mono : ∀ a0 k, LeO (QaP.f k a0) (QaP.f (k + 1) a0) := by
 intro a0 k;have aa := QaP.mono_l k;unfold QaP.f;repeat' with_reducible first | apply aa | apply Qbt.mono | exact LeO.refl _ | exact LeO.none _ | apply LeO.ite | refine LeO.bind ?_ fun _ => ?_
theorem QaP.calls (k : Nat) (A0 : Option Addr) (c0 : Nat) (l0 : List (S110)) (r : List (S100)) (w : World) (bu : Kd.C k110 w A0 l0.length l0) (hc0 : l0.length ≤ c0) (h : QaP.f k l0 = some r) :
  Calls Tryz.prog 60 #[.slice A0 l0.length c0] w fun e w' => ∃ bv : Value, e = .returned (bv) ∧ Kd.S k100 100 w' w.heap.size (fun _ => True) bv r ∧ Below w.heap.size w w' := by
 have bA := Tryz.underlying110;have bB := Tryz.underlying100;have bI := am_ bu;have bO := am_ hc0;clear bu hc0;have HB := am_ (Below.refl w.heap.size w);have H := h;clear h;unfold QaP.f at H;by_cases c2 : 0 ≤ (l0.length : Int)
 ·rw [if_pos c2] at H
  have c2b0 := eq_true c2;have c2b1 := decide_eq_true c2;clear c2;by_cases c3 : ((l0.length : Int) : Int).toNat ≤ 8796093022208
  ·rw [if_pos c3] at H
   have c3b0 := eq_true c3;have c3b1 := decide_eq_true c3;clear c3;obtain ⟨aP, ah⟩ : ∃ y_ : List (S100), y_ = (List.replicate ((l0.length : Int) : Int).toNat z100) := ⟨_, rfl⟩;replace H : (QaP.l0 k l0 aP 0) = some r := by first | (rw [ah]; with_reducible exact H) | (have aC := (Option.bind_some _ _).symm.trans H; rw [ah]; with_reducible exact aC) | (have aC := (Option.bind_some _ _).symm.trans H; with_reducible exact aC) | with_reducible exact H | (rw [ah]; exact H) | exact H
   have aB := am_ ah;clear ah;have H' := am_ H;clear H;go_enter Tryz.func60, Tryz.ntmps60;go_wp2_with (first | ((with_reducible refine Sh.d 7 ?_); refine Kd.S_make k100 _ 100 rfl (N := 7) rfl 80 _ _ rfl (l0.length : Int) rfl rfl Tryz.underlying80 (.agg #[(.int .i64 0), (.slice none 0 0)]) 32 info100 rfl (by decide) (by omega) z100 (ok := fun _ => True) (okp := fun _ => True) (k100_mkM _ _ _ z100 (Kd.R_nil _ _ _ _ _)) (fun _ hk => hk) trivial (of_decide_eq_true (by first | (with_reducible assumption) | assumption)) (Nat.le_trans (Nat.mul_le_mul_right _ (of_decide_eq_true (by first | (with_reducible assumption) | assumption) : (l0.length : Int).toNat ≤ 8796093022208)) (by omega)) (Below.refl _ _) (Nat.le_refl _) ?_; intro a7 w4 aQ hb hg_ hnew_; clear hg_ hnew_; (first | rw [← aB.out] at aQ | (simp only [Int.reduceToNat] at aQ; rw [← aB.out] at aQ)); have aR := am_ (Kd.S_lower aQ (below_size Sh.bw)); replace HB := Sh.hb hb; clear hb aQ));go_loopg [4] k (fun kq v4 w' => ∃ (ae : List (S100)) (aa : Int), v4 = .int .i64 aa ∧ Aside0 (QaP.l0 kq l0 ae aa = some r) ∧ Aside0 (kq ≤ k) ∧ Aside0 (Kd.S k100 100 w' w.heap.size (fun _ => True) a7 ae) ∧ Aside0 (Below w.heap.size w w'))
   case atStart => exact ⟨(aP), (0), (Sh.es), H', ⟨Nat.le_refl _⟩, ⟨by (with_reducible repeat (first | apply Kd.S_alloc | apply Kd.S_drewN | apply Kd.S_drew)); exact aR.out⟩, ⟨Sh.bw⟩⟩
   case round =>
    clear H';obtain ⟨ae, aa, rfl, HA, bC, ac, HB⟩ := hrel;cases gk with
    | zero => exact absurd HA.out (by simp [QaP.l0])
    | succ k1 =>
     have H := HA.out;clear HA;simp only [QaP.l0] at H;by_cases c6 : aa < (l0.length : Int)
     ·rw [if_pos c6] at H
      replace c6 := decide_eq_true c6;by_cases c7 : 0 ≤ aa
      ·rw [if_pos c7] at H
       replace c7 := decide_eq_true c7;obtain ⟨⟨aq, ai⟩, bD, H⟩ := Sh.bd H;have A8 := am_ bD;clear bD;by_cases c9 : aa < (ae.length : Int)
       ·rw [if_pos c9] at H
        replace c9 := decide_eq_true c9;obtain ⟨aD, aj⟩ : ∃ y_ : List (S100), y_ = (ae.set (aa : Int).toNat (⟨aq, ai⟩ : S100)) := ⟨_, rfl⟩;replace H : (QaP.l0 k1 l0 aD (wrap64 (aa + 1))) = some r := by first | (rw [aj]; with_reducible exact H) | (have aC := (Option.bind_some _ _).symm.trans H; rw [aj]; with_reducible exact aC) | (have aC := (Option.bind_some _ _).symm.trans H; with_reducible exact aC) | with_reducible exact H | (rw [aj]; exact H) | exact H
        have aS := am_ aj;clear aj;have H' := am_ H;clear H;have aE : 0 ≤ (aa : Int) := Sh.od;have aF : aa < (l0.length : Int) := Sh.od;obtain ⟨bE, aG, aH, a8, ak, al, am, ao⟩ := at_T110 bI.out aa aE aF;cases a8;try replace ak := Sh.cw ak
        try replace al := Sh.cw al
        have ax := am_ ao;have ay := am_ am;clear ao am;replace aE := eq_true aE;replace aF := eq_true aF;go_wp2_with (first | ((with_reducible refine Sh.k 79 ?_); refine Sh.gL (some 20) Tryz.func79 #[.agg #[.int .i64 ((rd_T110 l0 aa).f0), .slice aG ((rd_T110 l0 aa).f1).length aH]] (h := ?_); (with_reducible refine (Qbt.calls k1 ((rd_T110 l0 aa).f0) _ _ ((rd_T110 l0 aa).f1) aq ai _ (Sh.cB ax.out) ay.out A8.out).mono ?_); rintro e aI ⟨bJ, rfl, bf, hb⟩; refine ⟨_, rfl, ?_⟩; replace ac := am_ (Kd.S_elder' (by (with_reducible repeat (first | apply Kd.S_alloc | apply Kd.S_drewN | apply Kd.S_drew)); exact ac.out) (Kd.R_base bf) hb); have ap := am_ (Kd.R_lower bf (below_size Sh.bw)); replace HB := Sh.hb hb; (try clear hb); (try clear hk); (try clear bf); have bg : 0 ≤ (aa : Int) := Sh.od; have bh : (aa : Int) < ((ae.length : Int) : Int) := Sh.od; obtain ⟨af, aT, aU, aV, bi, bK, aW⟩ := Kd.S_form ac.out (by omega); (first | cases aU | (injection aU with ea_ en_ ec_; (first | subst ea_ | (injection ea_ with ea_; subst ea_)); subst ec_; clear en_)); have aX := am_ aV; have bL := am_ aW; clear aV bi aW; obtain ⟨_, bM, aY, aZ, ar, au, _, _⟩ := Kd.S_elem ac.out z100 (aa : Int) bg bh; obtain ⟨aJ, rfl, bj⟩ := k100_openM aZ; have bk : aI.cell? ⟨af, (aa : Int).toNat * 2, none⟩ = some (.int .i64 ((rd_T100 ae aa).f0)) := ar 0 _ rfl; have bl : aI.cell? ⟨af, (aa : Int).toNat * 2 + 1, none⟩ = some (aJ) := ar 1 _ rfl; have bm : aI.frozen? ⟨af, (aa : Int).toNat * 2, none⟩ = false := au 0; have bn : aI.frozen? ⟨af, (aa : Int).toNat * 2 + 1, none⟩ = false := au 1; clear aY ar au; (try clear aZ); replace bg := eq_true bg; replace bh := eq_true bh; obtain ⟨az, aA, bo⟩ := Kd.R_slice ap.out; subst bo; have n_ := am_ (Kd.S_mono (ok' := (fun k_ => some k_ ≠ (.slice az ai.length aA : Value).ownBlock)) ac.out (fun k_ hk => hk.2)); clear ac; have ac := n_; clear n_; have bp := am_ (show Kd.S k100 100 aI w.heap.size (fun k_ => ((fun _ => True)) k_ ∧ ¬ ((fun k_ => some k_ = (.slice az ai.length aA : Value).ownBlock)) k_) (.slice (some ⟨af, 0, none⟩) ae.length aT) ae from (by (with_reducible repeat (first | apply Kd.S_alloc | apply Kd.S_drewN | apply Kd.S_drew)); exact Kd.S_mono ac.out (fun k_ hk => ⟨trivial, fun e_ => hk e_⟩))); obtain ⟨bF, bN, a1, a2, av, aw, hoki12, a6⟩ := Kd.S_elem bp.out z100 (aa : Int) (of_decide_eq_true (by first | (with_reducible assumption) | assumption)) (by have h_ : (aa : Int) < ((ae.length : Int) : Int) := Sh.od; first | exact h_ | (have e_ := (Kd.S_reads' ac.out).1; omega) | simpa using h_); obtain ⟨bq, rfl, br⟩ := k100_openM a2; have aK := Kd.S_seg a6 (of_decide_eq_true (by first | (with_reducible assumption) | assumption)) (by have h_ : (aa : Int) < ((ae.length : Int) : Int) := Sh.od; first | exact h_ | (have e_ := (Kd.S_reads' ac.out).1; omega) | simpa using h_) (seg := [.int .i64 aq, .slice az ai.length aA]) (j := 0) (show 2 ≤ 2 from by decide) (x' := (⟨aq, ai⟩ : S100)) (k100_mkM _ _ _ (⟨aq, ai⟩ : S100) (Kd.R_mono (Kd.R_tight rfl (Kd.R_mono (ok' := fun k_ => ((fun _ => True)) k_ ∧ k_ ≠ af) (Kd.R_apart' (ap.out) (Kd.S_typed ac.out) (by decide)) (fun k_ hk => ⟨trivial, fun e_ => (hk.2) (by rw [e_]; rfl)⟩))) (fun _ h_ => Or.inr (h_)))) (fun _ hk => hk) (fun k_ hk_ => ((Kd.R_mono (ok' := fun k_ => ((fun _ => True)) k_ ∧ k_ ≠ af) (Kd.R_apart' (ap.out) (Kd.S_typed ac.out) (by decide)) (fun k_ hk => ⟨trivial, fun e_ => (hk.2) (by rw [e_]; rfl)⟩))).1 k_ hk_.symm); have aL := av 0 _ rfl; (try simp only [show (k100).sz = 2 from rfl, Nat.mul_one, Nat.add_zero] at aL); have aM := aw 0; (try simp only [show (k100).sz = 2 from rfl, Nat.mul_one, Nat.add_zero] at aM); have aN := av 1 _ rfl; (try simp only [show (k100).sz = 2 from rfl, Nat.mul_one, Nat.add_zero] at aN); have aO := aw 1; (try simp only [show (k100).sz = 2 from rfl, Nat.mul_one, Nat.add_zero] at aO); clear a1 av aw hoki12 a6; (try clear a2)) | ((with_reducible refine gate_store (t := 100) (p := 21) rfl ?_); refine store_event (t := 100) (p := 21) (v := ?vo_w13) (w1 := ((aI.setCell ⟨af, (aa : Int).toNat * 2, none⟩ (.int .i64 aq)).setCell ⟨af, (aa : Int).toNat * 2 + 1, none⟩ (.slice az ai.length aA))) ?hg ?ho ?hn ?hr ?_; (case ho => rfl); (case hg => rfl); (case hn => rfl); (case hr => first | (go_simp; done) | (go_simp; rfl)); intro bs hw; have hg : aI.grownBy bs (some af) := (by rw [hw]; exact aK.2); have hp_ : Kd.S k100 100 bs w.heap.size (fun _ => True) (.slice (some ⟨af, 0, none⟩) ae.length aT) aD := (by rw [hw, aS.out]; exact aK.1); clear aK; have bG := am_ hp_; have bH := am_ ((by rw [hw]; exact below_set (below_set (HB.out) aX.out) aX.out : Below w.heap.size w bs)); clear ac; clear HB; clear ap; have ac := bG; have HB := bH; clear bG bH; clear hg hw hp_));go_roundg k1
        case measure => have := bC.out; omega
        case rel => exact ⟨(aD), (wrap64 (aa + 1)), (Sh.es), H', ⟨by have := bC.out; omega⟩, ⟨by (with_reducible repeat (first | apply Kd.S_alloc | apply Kd.S_drewN | apply Kd.S_drew)); exact ac.out⟩, ⟨Sh.bw⟩⟩
       ·rw [if_neg c9] at H
        cases H
      ·rw [if_neg c7] at H
       cases H
     ·rw [if_neg c6] at H
      replace c6 := decide_eq_false c6;obtain rfl := Option.some.inj H;go_wp2;go_ret;exact ⟨_, Sh.eR, by (with_reducible repeat (first | apply Kd.S_alloc | apply Kd.S_drewN | apply Kd.S_drew)); exact ac.out, Sh.bw⟩
  ·rw [if_neg c3] at H
   cases H
 ·rw [if_neg c2] at H
  cases H
end Go.Proofs.YtdbfcmoifpgnbaaGreat.P
