/- Go functions of this seat as Lean functions, and the proofs that the calls come to what these say; printed by a program of this session. No condition. -/
import Derived.Lib.SliceRun
import Derived.Test.YtnfpolhpanpeiaaP0
import Derived.Test.YtnfpolhpanpeiaaMFnExactFairLasso4
import Derived.Test.YtnfpolhpanpeiaaMFnExactFairLasso3
import Derived.Test.YtnfpolhpanpeiaaMFnExactFairLasso8
import Derived.Test.YtnfpolhpanpeiaaMFnExactFairLasso10
import Derived.Test.YtnfpolhpanpeiaaMFnExactFairLasso11
set_option linter.unusedVariables false
set_option linter.unusedSimpArgs false
set_option maxHeartbeats 40000000
set_option maxRecDepth 100000
namespace Go.Proofs.Ytnfpolhpanpeiaa.P
open Go.RowKit Go.Proofs.YtnfpolhpanpeiaaW.PrintWords Go.Proofs.YtnfpolhpanpeiaaW.PrintLast Go.Proofs.YtnfpolhpanpeiaaW.PrintMore Go.Proofs.Ytnfpolhpanpeiaa.Hof
attribute [local go_sem] max2_int min2_int max_two min_two max_three min_three max_four min_four
-- over slices_IndexFunc_int_int_74.gen spec_l11Parts.calls
theorem idxO_total (q : Int → Bool) : ∀ (l : List Int) (i : Nat), ∃ r, idxO (fun x => some (q x)) l (i : Int) = some r ∧ ((r = -1 ∧ ∀ x ∈ l, q x = false) ∨ ∃ k : Nat, k < l.length ∧ r = ((i + k : Nat) : Int) ∧ (∀ j, j < k → q (l.getD j 0) = false) ∧ q (l.getD k 0) = true)
  | [], i => ⟨-1, rfl, .inl ⟨rfl, by simp⟩⟩
  | x :: l, i => by
    cases hx : q x with
    | true => exact ⟨(i : Int), by simp [idxO, hx], .inr ⟨0, by simp, by simp, fun j hj => absurd hj (Nat.not_lt_zero j), by simpa using hx⟩⟩
    | false =>
      obtain ⟨r, h1, h2⟩ := idxO_total q l (i + 1)
      refine ⟨r, by simpa [idxO, hx] using h1, ?_⟩
      rcases h2 with ⟨h2, h3⟩ | ⟨k, h2, h3, h4, h5⟩
      · exact .inl ⟨h2, fun y hy => by rcases List.mem_cons.1 hy with rfl | hy; exact hx; exact h3 y hy⟩
      · refine .inr ⟨k + 1, by simpa using h2, by rw [h3]; congr 1; omega, fun j hj => ?_, by simpa using h5⟩
        cases j with
        | zero => simpa using hx
        | succ j => simpa using h4 j (by omega)
theorem TJ_gr {w W : World} (h : Below w.heap.size w W) (row : Option Nat) : w.grownBy W row := ⟨h.os, h.tape, h.output, h.size, fun i hi _ => h.block i hi⟩
theorem TJ_kept (q : Int → Bool) (l : List Int) (k : Nat) (h : ∀ j, j < k → q (l.getD j 0) = false) (hk : k < l.length) (hq : q (l.getD k 0) = true) : (l.take (k + 1)).filter (fun x => !q x) = l.take k := by
  have e : l.take (k + 1) = l.take k ++ [l.getD k 0] := by
    rw [List.take_add_one, List.getD_eq_getElem?_getD, List.getElem?_eq_getElem hk]; rfl
  rw [e, List.filter_append, List.filter_cons_of_neg (by simp only [hq]; decide), List.filter_nil, List.append_nil, List.filter_eq_self]
  intro x hx
  obtain ⟨j, hj, ej⟩ := List.mem_iff_getElem.1 hx
  have hjk : j < k := by rw [List.length_take] at hj; omega
  have := h j hjk
  rw [List.getD_eq_getElem?_getD, List.getElem?_eq_getElem (by omega), Option.getD_some] at this
  rw [List.getElem_take] at ej
  rw [← ej, this]
  rfl
theorem zero3_ (w : World) : (zeroValue 3).run Try.prog w = .ok (.int .i64 0) w := by kernel_rfl
theorem TJ_zeros {base gS n c : Nat} : ∀ (m a : Nat) (W : World) (cur : List Int), a + m ≤ cur.length → Kd.R (Kd.int .i64) 3 W base (fun _ => True) (.slice (some ⟨gS, 0, none⟩) n c) cur → ∃ cur', Kd.R (Kd.int .i64) 3 (W.setCells gS a (List.replicate m (.int .i64 0))) base (fun _ => True) (.slice (some ⟨gS, 0, none⟩) n c) cur' ∧ cur'.length = cur.length ∧ cur'.take a = cur.take a ∧ W.grownBy (W.setCells gS a (List.replicate m (.int .i64 0))) (some gS)
  | 0, a, W, cur, _, h => ⟨cur, h, rfl, rfl, World.grownBy.refl _ _⟩
  | m + 1, a, W, cur, hl, h => by
    have hp := Kd.R_putg h (a : Int) (0 : Int)
    rw [Int.toNat_natCast] at hp
    obtain ⟨cur', h1, h2, h3, h4⟩ := TJ_zeros (n := n) (c := c) m (a + 1) (W.setCell ⟨gS, a, none⟩ (.int .i64 0)) (cur.set a 0) (by rw [List.length_set]; omega) hp.1
    refine ⟨cur', h1, by rw [h2, List.length_set], ?_, hp.2.trans h4⟩
    have := congrArg (List.take a) h3
    rw [List.take_take, List.take_take, Nat.min_eq_left (by omega)] at this
    rw [this, List.take_set_of_le (Nat.le_refl a)]
theorem slices_DeleteFunc_int_int.gen (gf : Nat) (lb : Array Value) (eg : ∀ args w, (callFunc gf args).run Try.prog w = .ok (.enter gf args) w) (q : Int → Bool) (base : Nat) (A : Option Addr) (c : Nat) (l : List Int) (w : World) (hR : Kd.R (Kd.int .i64) 3 w base (fun _ => True) (.slice A l.length c) l)
  (hp : ∀ (W : World) (x : Int), w.grownBy W (Value.slice A l.length c).ownBlock → x ∈ l → Calls Try.prog gf (#[.int .i64 x] ++ lb) W fun e w' => e = .returned (.bool (q x)) ∧ Below W.heap.size W w') :
  Calls Try.prog 63 #[.slice A l.length c, .func (.func gf) #[] lb] w fun e w' => ∃ v, e = .returned v ∧ Kd.R (Kd.int .i64) 3 w' base (fun _ => True) v (l.filter (fun x => !q x)) ∧ v.ownBlock = (Value.slice A l.length c).ownBlock ∧ w.grownBy w' (Value.slice A l.length c).ownBlock := by
 obtain ⟨r, hi, hr⟩ := idxO_total q l 0
 have hC := (Kd.R_reads' hR).2.2
 have hcl := (Kd.R_reads' hR).2.1
 have HI := am_ (slices_IndexFunc_int_int_74.gen gf lb eg (fun x => some (q x)) A c l r w hC hcl (fun W x b hb hx hq => by injection hq with hq; subst hq; exact hp W x (TJ_gr hb _) hx) hi)
 have HR := am_ hR
 have HP := am_ hp
 have hll : l.length ≤ 9223372036854775807 := hC.2.1
 clear hC hcl hi hR hp
 rcases hr with ⟨rfl, hall⟩ | ⟨k, hk, rfl, hlt, hqk⟩
 · have ef : l.filter (fun x => !q x) = l := List.filter_eq_self.2 (fun x hx => by rw [hall x hx]; rfl)
   rw [ef]
   clear hall ef
   go_enter Try.func63, Try.ntmps63
   go_wp2_with (go_at_call 74; refine HI.out.mono ?_; rintro e w' ⟨rfl, hb⟩)
   exact bodyPost_ret (results_tmp rfl _ _ _) rfl ⟨.slice A l.length c, rfl, Kd.R_below HR.out hb, rfl, TJ_gr hb _⟩
 · obtain ⟨_, ⟨e1, e2⟩ | ⟨gS, c2, cur0, e1, hbS, hcur0, _⟩⟩ := Kd.own_of_R HR.out
   · omega
   injection e1 with eA _ ec
   subst eA ec
   rw [Nat.zero_add] at HI
   have kb := am_ (TJ_kept q l k hlt hk hqk)
   have HW := am_ (World.grownBy.refl w (some gS))
   clear hlt hqk hcur0
   have HK := am_ hk
   have hkz : (((k : Nat) : Int) == -1) = false := beq_eq_false_iff_ne.mpr (by omega)
   go_enter Try.func63, Try.ntmps63
   go_wp2_with (go_at_call 74; refine HI.out.mono ?_; rintro e w1 ⟨rfl, hb⟩; have n1_ := am_ (Kd.R_below HR.out hb); have n2_ := am_ (TJ_gr hb (some gS)); clear HR HW HI hb; have HR := n1_; have HW := n2_; clear n1_ n2_)
   go_loopg [5, 6] (l.length - (k + 1)) (fun kq v5 v6 w' => ∃ (a b : Nat) (cur : List Int), v5 = .int .i64 (a : Int) ∧ v6 = .int .i64 (b : Int) ∧ a < b ∧ b ≤ l.length ∧ l.length - b ≤ kq ∧ Aside0 (cur.length = l.length ∧ cur.take a = (l.take b).filter (fun x => !q x) ∧ cur.drop b = l.drop b) ∧ Aside0 (Kd.R (Kd.int .i64) 3 w' base (fun _ => True) (.slice (some ⟨gS, 0, none⟩) l.length c) cur) ∧ Aside0 (w.grownBy w' (some gS)))
   case atStart => exact ⟨k, k + 1, l, rfl, by go_num, by omega, by have := HK.out; omega, by omega, ⟨rfl, kb.out.symm, rfl⟩, HR, HW⟩
   case round =>
    clear HR HW kb hkz
    obtain ⟨a, b, cur, rfl, rfl, hab, hbl, hgk, HC, HR, HW⟩ := hrel
    have hlen := HC.out.1
    by_cases hlt : b < l.length
    ·skip
     have hltz : decide ((b : Int) < (l.length : Int)) = true := decide_eq_true (by omega)
     have h0b : 0 ≤ (b : Int) := by omega
     have h0a : 0 ≤ (a : Int) := by omega
     have hblz : (b : Int) < (l.length : Int) := by omega
     have halz : (a : Int) < (l.length : Int) := by omega
     have hx : cur.getD b 0 = l.getD b 0 := by
      have := congrArg (fun t : List Int => t.getD 0 0) HC.out.2.2
      simpa using this
     have hcb : wr.cell? ⟨gS, b, none⟩ = some (.int .i64 (l.getD b 0)) := by
      have := (Kd.R_celln 0 HR.out (b : Int) h0b hblz).1
      rw [Int.toNat_natCast] at this
      rw [this, ← hx]
      rfl
     have hca : wr.cell? ⟨gS, a, none⟩ = some (.int .i64 (cur.getD a 0)) := by
      have := (Kd.R_celln 0 HR.out (a : Int) h0a halz).1
      rw [Int.toNat_natCast] at this
      rw [this]
      rfl
     have hfa : wr.frozen? ⟨gS, a, none⟩ = false := by
      have := (Kd.R_celln 0 HR.out (a : Int) h0a halz).2
      rwa [Int.toNat_natCast] at this
     have hin : l.getD b 0 ∈ l := getD_in hlt 0
     have htk : (l.take (b + 1)).filter (fun x => !q x) = (l.take b).filter (fun x => !q x) ++ (if q (l.getD b 0) = true then [] else [l.getD b 0]) := by
      have e : l.take (b + 1) = l.take b ++ [l.getD b 0] := by
       rw [List.take_add_one, List.getD_eq_getElem?_getD, List.getElem?_eq_getElem hlt]; rfl
      rw [e, List.filter_append]
      congr 1
      by_cases cq : q (l.getD b 0) = true
      · rw [if_pos cq, List.filter_cons_of_neg (by rw [cq]; decide)]; rfl
      · rw [if_neg cq, List.filter_cons_of_pos (by rw [Bool.eq_false_iff.mpr cq]; rfl)]; rfl
     have hdr : cur.drop (b + 1) = l.drop (b + 1) := by
      have := congrArg (List.drop 1) HC.out.2.2
      simpa [List.drop_drop, Nat.add_comm] using this
     have HT := am_ htk
     have HD := am_ hdr
     have HCL := am_ hlen
     clear htk hdr hx hlen
     have hcall := HP.out wr (l.getD b 0) HW.out hin
     generalize l.getD b 0 = y at hcall hcb HT hin
     cases hqy : q y with
     | true =>
      rw [hqy] at hcall
      go_wp2_with (go_at_fn gf; refine hcall.mono ?_; rintro e w3 ⟨rfl, hb⟩; have n1_ := am_ (Kd.R_below HR.out hb); have n2_ := am_ (HW.out.trans (TJ_gr hb (some gS))); clear HR HW hcb hca hfa hb; have HR := n1_; have HW := n2_; clear n1_ n2_)
      go_roundg (l.length - (b + 1))
      case measure => omega
      case rel => exact ⟨a, b + 1, cur, rfl, by go_num, by omega, by omega, by omega, ⟨HCL.out, by rw [HT.out, if_pos hqy, List.append_nil]; exact HC.out.2.1, HD.out⟩, ⟨HR.out⟩, ⟨HW.out⟩⟩
     | false =>
      rw [hqy] at hcall
      go_wp2_with (first | (go_at_fn gf; refine hcall.mono ?_; rintro e w3 ⟨rfl, hb⟩; have n1_ := am_ (Kd.R_below HR.out hb); have n2_ := am_ (HW.out.trans (TJ_gr hb (some gS))); have hca3 : w3.cell? ⟨gS, a, none⟩ = some (.int .i64 (cur.getD a 0)) := (hb.cell (World.block_lt_of_cell? _ _ hca)).trans hca; have hfa3 : w3.frozen? ⟨gS, a, none⟩ = false := (by have h_ := (Kd.R_celln 0 n1_.out (a : Int) h0a halz).2; rwa [Int.toNat_natCast] at h_); clear HR HW hcb hca hfa hb; have HR := n1_; have HW := n2_; clear n1_ n2_) | ((with_reducible refine gate_store (t := 3) (p := 33) rfl ?_); refine store_event (t := 3) (p := 33) (v := ?vo_w4) (w1 := (w3.setCell ⟨gS, a, none⟩ (.int .i64 y))) ?hg ?ho ?hn ?hr ?_; (case ho => rfl); (case hg => rfl); (case hn => rfl); (case hr => first | (go_simp; done) | (go_simp; rfl)); intro w4 hw; have hp_ := Kd.R_putg HR.out (a : Int) y; rw [Int.toNat_natCast] at hp_; have n1_ := am_ (show Kd.R (Kd.int .i64) 3 w4 base (fun _ => True) (.slice (some ⟨gS, 0, none⟩) l.length c) (cur.set a y) from by rw [hw]; exact hp_.1); have n2_ := am_ (show w.grownBy w4 (some gS) from by rw [hw]; exact HW.out.trans hp_.2); clear hp_ hw HR HW hca3 hfa3; have HR := n1_; have HW := n2_; clear n1_ n2_))
      go_roundg (l.length - (b + 1))
      case measure => omega
      case rel => exact ⟨a + 1, b + 1, cur.set a y, by go_num, by go_num, by omega, by omega, by omega, ⟨by rw [List.length_set]; exact HCL.out, by
        rw [HT.out, if_neg (by rw [hqy]; decide), ← HC.out.2.1]
        rw [List.take_add_one, List.take_set_of_le (Nat.le_refl a), List.getElem?_set_self (by have := HCL.out; omega)]
        rfl, by rw [List.drop_set_of_lt (by omega)]; exact HD.out⟩, ⟨HR.out⟩, ⟨HW.out⟩⟩
    ·skip
     have eb : b = l.length := by omega
     have hltz : decide ((b : Int) < (l.length : Int)) = false := decide_eq_false (by omega)
     have hfin : cur.take a = l.filter (fun x => !q x) := by rw [HC.out.2.1, eb, List.take_length]
     obtain ⟨i0, hi0, hi0a, hi0b, hi0c⟩ := info_parts info3
     have hNc : l.length ≤ c := by have := (Kd.R_reads' HR.out).2.1; exact this
     have hcut1 : ∀ W : World, (Instr.slice 26 (.slice (some ⟨gS, 0, none⟩) l.length c) (some (.int .i64 (a : Int))) none none).run Try.prog W = .ok (.slice (some ⟨gS, a, none⟩) (l.length - a) (c - a)) W := by
      intro W
      rw [cut_from (P := Try.prog) 26 3 .i64 Try.underlying26 hi0 1 hi0b (some ⟨gS, 0, none⟩) l.length c (a : Int) (by omega) (by omega) W, Int.toNat_natCast, if_neg (by omega)]
      simp [Addr.add] <;> omega
     have hcut2 := cut_to (P := Try.prog) 26 3 .i64 Try.underlying26 hi0 (some ⟨gS, 0, none⟩) l.length c (a : Int) (by omega) (by omega) hNc
     rw [Int.toNat_natCast] at hcut2
     have hat : ∀ j, j < l.length - a → wr.cell? ⟨gS, a + j, none⟩ = some (.int .i64 (cur.getD (a + j) 0)) ∧ wr.frozen? ⟨gS, a + j, none⟩ = false := fun j hj => by
      have := Kd.R_celln 0 HR.out ((a + j : Nat) : Int) (by omega) (by omega)
      rw [Int.toNat_natCast] at this
      exact ⟨by rw [this.1]; rfl, this.2⟩
     have hclr : ∀ ty, (Builtin.clear_ #[26] ty #[.slice (some ⟨gS, a, none⟩) (l.length - a) (c - a)]).run Try.prog wr = .ok (.tuple #[]) (wr.setCells gS a (List.replicate (l.length - a) (.int .i64 0))) := fun ty => Lib.run_clear_slice wr 26 3 ty (.int .i64 0) Try.underlying26 zero3_ rfl rfl gS a (l.length - a) (c - a) (by omega) (fun j hj => by rw [(hat j hj).1]; rfl) (fun j hj => (hat j hj).2)
     obtain ⟨cur', hz1, hz2, hz3, hz4⟩ := TJ_zeros (n := l.length) (c := c) (l.length - a) a wr cur (by omega) HR.out
     have HZ1 := am_ hz1
     have HZ3 := am_ hz3
     have HZ4 := am_ hz4
     have HF := am_ hfin
     clear hz1 hz3 hz4 hat hfin hi0 hi0a hi0b hi0c
     go_wp2
     have hR2 := Kd.R_take HZ1.out (m := a) (by rw [hz2]; omega)
     rw [HZ3.out, HF.out] at hR2
     exact bodyPost_ret (results_tmp rfl _ _ _) rfl ⟨.slice (some ⟨gS, 0, none⟩) a c, rfl, hR2, rfl, HW.out.trans HZ4.out⟩

-- over slices_IndexFunc_int_int_74.gen spec_l11Parts.calls impl_leastWay.calls impl_inside.calls impl_meeting.calls
def fl_clo.T1 : Bool × List (List Nat × List Nat) := (true, [([], []), ([], []), ([0, 1], [0, 1]), ([2], [2]), ([], []), ([], []), ([4, 5], [4, 5]), ([6], [6]), ([3, 7], [3, 7]), ([8, 0, 1, 2, 3, 4, 5, 6, 7, 8], [8])])
def fl_clo.B1 : List Nat := [0, 0, 3, 7, 0, 0, 48, 112, 255, 511]
theorem fl_clo.tab1 : rtab .any (opsOf Try.f65 1) = fl_clo.T1 := by kernel_rfl
theorem fl_clo.bits1 : waitsOk fl_clo.T1.2 fl_clo.B1 = true := by kernel_rfl
theorem fl_clo.calls (x : Int) (b11 b9 : Nat) (AP : Option Addr) (cP : Nat) (P : List Int) (meet : Int) (W : World) (hP : Kd.C (Kd.int .i64) W AP P.length P) (h11 : W.heap[b11]? = some (.cells #[.slice AP P.length cP] 26 (0, 0))) (h9 : W.heap[b9]? = some (.cells #[.int .i64 meet] 3 (0, 0))) (hx : 0 ≤ x ∧ x < (P.length : Int)) (hm : 0 ≤ meet ∧ meet < (P.length : Int)) :
  Calls Try.prog 65 #[.int .i64 x, .pointer (some ⟨b11, 0, none⟩), .pointer (some ⟨b9, 0, none⟩)] W fun e w' => e = .returned (.bool (rd P x != rd P meet)) ∧ Below W.heap.size W w' := by
 obtain ⟨x0, x1⟩ := hx
 obtain ⟨m0, m1⟩ := hm
 obtain ⟨ad, e1, hx1⟩ := Kd.at_int hP x x0 x1
 subst e1
 obtain ⟨ad2, e2, hx2⟩ := Kd.at_int hP meet m0 m1
 injection e2 with e2
 subst e2
 have hc11 := Sh.bc h11 0 rfl
 have hc9 := Sh.bc h9 0 rfl
 clear hP h11 h9
 have x0b := decide_eq_true x0
 have x1b := decide_eq_true x1
 have m0b := decide_eq_true m0
 have m1b := decide_eq_true m1
 have x0t := eq_true x0
 have x1t := eq_true x1
 have m0t := eq_true m0
 have m1t := eq_true m1
 go_enter Try.func65, Try.ntmps65
 go_wp2
 refine start_ (n := 10) (S := fun w' => w'.cell? ⟨b11, 0, none⟩ = some (.slice (some ad) P.length cP) ∧ w'.cell? ⟨b9, 0, none⟩ = some (.int .i64 meet) ∧ w'.cell? (ad.add x.toNat) = some (.int .i64 (rd P x)) ∧ w'.cell? (ad.add meet.toNat) = some (.int .i64 (rd P meet))) (ds := []) (Sh.nm 10 0) (by kernel_rfl) rfl rfl ⟨hc11, hc9, hx1, hx2⟩ (fun hHeld => ?_)
 refine with_tabW fl_clo.tab1 fl_clo.bits1 (fun HT_ HW_ => ?_)
 refine Sh.qT 0 hHeld ?_; refine Sh.qA 1 ?_
 refine Sh.qA 2 ?_ (v := .pointer (some (ad.add x.toNat))) (hy := by intro w'; go_simp; first | done | (intro h_; omega))
 refine Sh.qT 3 hHeld ?_; refine Sh.qT 4 hHeld ?_; refine Sh.qT 5 hHeld ?_
 refine Sh.qA 6 ?_ (v := .pointer (some (ad.add meet.toNat))) (hy := by intro w'; go_simp; first | done | (intro h_; omega))
 refine Sh.qT 7 hHeld ?_
 refine Sh.qA 8 ?_ (v := .bool (rd P x != rd P meet)) (hy := by intro w'; go_simp; first | done | rfl)
 refine Sh.qA 9 ?_
 refine done_ (done_of HT_.out (by kernel_rfl)) ?_
 clear hHeld HT_ HW_
 go_wp2
 exact bodyPost_ret (results_tmp rfl _ _ _) rfl ⟨rfl, below_drew1 (Below.refl _ _)⟩

-- over slices_IndexFunc_int_int_74.gen spec_l11Parts.calls impl_leastWay.calls impl_inside.calls impl_meeting.calls
def impl_fairLasso.g : Nat → List (List Int) → List (List Int) → List Int → Int → Int → List Int → Option (List Int)
 | 0, _, _, _, _, _, _ => none
 | k + 1, go, arcs, P, meet, i, loop => if i < (go.length : Int) then (if 0 ≤ i ∧ 0 < loop.length then (if (∀ v ∈ rd_L1 go i, 0 ≤ v ∧ v < (P.length : Int)) then ((slices_Clone_int_int.f (rd_L1 go i)).bind fun cl => (impl_leastWay.f k arcs (loop.drop (loop.length - 1)) (cl.filter (fun v => !(rd P v != rd P meet)))).bind fun way => if 1 ≤ way.length ∧ loop.length + way.length < 17592186044416 then impl_fairLasso.g k go arcs P meet (wrap64 (i + 1)) (loop ++ way.drop 1) else none) else none) else none) else some loop
def impl_fairLasso.f (k : Nat) (N : List (List Int)) (fr : List Int) (go : List (List Int)) : Option (List Int × List Int × Bool) :=
 (impl_meeting.f k N fr go).bind fun meet => if meet < 0 then some ([], [], false) else (impl_leastWay.f k N fr [meet]).bind fun stem => (impl_parts.f k N).bind fun P => if 0 ≤ meet ∧ meet < (P.length : Int) then ((impl_inside.f k N P (rd P meet)).bind fun arcs => (impl_fairLasso.g k go arcs P meet 0 [meet]).bind fun loop => if 0 < loop.length ∧ 0 ≤ rd loop ((loop.length : Int) - 1) ∧ rd loop ((loop.length : Int) - 1) < (arcs.length : Int) ∧ 1 ≤ stem.length ∧ loop.length < 17592186044416 ∧ stem.length < 17592186044416 then ((impl_leastWay.f k arcs (rd_L1 arcs (rd loop ((loop.length : Int) - 1))) [meet]).bind fun way => if 1 ≤ way.length ∧ loop.length + way.length < 17592186044416 then some (stem.take (stem.length - 1), loop ++ way.take (way.length - 1), true) else none) else none) else none
theorem TJ_rC {W W1 : World} {A : Option Addr} {c base e : Nat} {ok : Nat → Prop} {xs : List Int} (h : Kd.R (Kd.int .i64) e W base ok (.slice A xs.length c) xs) (hs : Below W.heap.size W W1 := by (repeat (with_reducible first | apply below_alloc | apply pw_below_drewN | apply below_drew1)); exact Below.refl _ _) : Kd.C (Kd.int .i64) W1 A xs.length xs := (Kd.R_reads' (Kd.R_below h hs)).2.2
/-- impl.fairLasso: the arcs inside the part and the loop's first row, in whatever order. -/
def MK4 (arcs : List (List Int)) (lp : List Int) (W1 W : World) (fa fb : Bool) (vA vL : Value) : Prop :=
  Below W1.heap.size W1 W ∧ (fa = true → Kd.S (Kd.slice 3 (Kd.int .i64)) 26 W W1.heap.size (fun _ => True) vA arcs) ∧ (fb = true → Kd.R (Kd.int .i64) 3 W W1.heap.size (fun _ => True) vL lp) ∧ (fa = true → fb = true → Kd.S (Kd.slice 3 (Kd.int .i64)) 26 W W1.heap.size (fun k => True ∧ some k ≠ vL.ownBlock) vA arcs)
section
variable {arcs : List (List Int)} {lp : List Int} {W1 W W2 : World} {fa fb : Bool} {vA vL v : Value}
theorem MK4.b (h : MK4 arcs lp W1 W fa fb vA vL) : Below W1.heap.size W1 W := h.1
theorem MK4.pa (h : MK4 arcs lp W1 W false fb vA vL) (hw : Below W.heap.size W W2) (ho : Kd.S (Kd.slice 3 (Kd.int .i64)) 26 W2 W.heap.size (fun _ => True) v arcs) : MK4 arcs lp W1 W2 true fb v vL :=
  ⟨below_step h.1 hw, fun _ => Kd.S_lower ho (below_size h.1), fun k => Kd.R_below (h.2.2.1 k) hw, fun _ k => Kd.S_lower (Kd.S_new' ho (fun j hj => Kd.R_lt (h.2.2.1 k) j hj)) (below_size h.1)⟩
theorem MK4.pb (h : MK4 arcs lp W1 W fa false vA vL) (hw : Below W.heap.size W W2) (ho : Kd.R (Kd.int .i64) 3 W2 W.heap.size (fun _ => True) v lp) : MK4 arcs lp W1 W2 fa true vA v :=
  ⟨below_step h.1 hw, fun k => Kd.S_below (h.2.1 k) hw, fun _ => Kd.R_lower ho (below_size h.1), fun k _ => Kd.S_elder' (h.2.1 k) (fun j hj => Kd.R_base ho j hj) hw⟩
end
theorem TJ_bg {w0 W W2 : World} {row : Option Nat} (hB : Below w0.heap.size w0 W) (hg : W.grownBy W2 row) (hr : ∀ k, row = some k → w0.heap.size ≤ k) : Below w0.heap.size w0 W2 :=
  ⟨hg.os.trans hB.os, hg.tape.trans hB.tape, hg.output.trans hB.output, Nat.le_trans hB.size hg.size, fun i hi => (hg.block i (Nat.lt_of_lt_of_le hi hB.size) (fun e => by have := hr i e.symm; omega)).trans (hB.block i hi)⟩
theorem TJ_clone {l cl : List Int} (h : slices_Clone_int_int.f l = some cl) : cl = l := by
  unfold slices_Clone_int_int.f at h
  split at h
  · exact (Option.some.inj h).symm
  · cases h
def impl_fairLasso.T5 : Bool × List (List Nat × List Nat) := (true, [([], []), ([], []), ([], []), ([], []), ([2, 3], [2, 3]), ([4], [4]), ([0, 1, 5], [0, 1, 5]), ([], []), ([7], [7]), ([6, 6, 0, 1, 2, 3, 4, 5, 6], [6]), ([8, 9, 0, 1, 2, 3, 4, 5, 6, 7, 8, 9], [8])])
def impl_fairLasso.B5 : List Nat := [0, 0, 0, 0, 12, 28, 63, 0, 128, 127, 1023]
theorem impl_fairLasso.tab5 : rtab .any (opsOf Try.f44 5) = impl_fairLasso.T5 := by kernel_rfl
theorem impl_fairLasso.bits5 : waitsOk impl_fairLasso.T5.2 impl_fairLasso.B5 = true := by kernel_rfl
def impl_fairLasso.T13 : Bool × List (List Nat × List Nat) := (true, [([], []), ([], []), ([], []), ([], []), ([3], [3]), ([4], [4]), ([2, 5], [2, 5]), ([6], [6]), ([1, 7], [1, 7]), ([8], [8]), ([], []), ([10], [10]), ([0, 9, 11], [0, 9, 11]), ([12, 12, 0, 1, 2, 3, 4, 5, 6, 7, 8, 9, 10, 11, 12], [12])])
def impl_fairLasso.B13 : List Nat := [0, 0, 0, 0, 8, 24, 60, 124, 254, 510, 0, 1024, 4095, 8191]
theorem impl_fairLasso.tab13 : rtab .any (opsOf Try.f44 13) = impl_fairLasso.T13 := by kernel_rfl
theorem impl_fairLasso.bits13 : waitsOk impl_fairLasso.T13.2 impl_fairLasso.B13 = true := by kernel_rfl
def impl_fairLasso.T14 : Bool × List (List Nat × List Nat) := (true, [([], []), ([], []), ([1], [1]), ([2], [2]), ([0, 3], [0, 3]), ([], []), ([], []), ([], []), ([7], [7]), ([8], [8]), ([6, 9], [6, 9]), ([5, 10], [5, 10]), ([4, 11, 0, 1, 2, 3, 4], [4]), ([11, 12, 0, 1, 2, 3, 4, 5, 6, 7, 8, 9, 10, 11, 12], [11]), ([13, 0, 1, 2, 3, 4, 5, 6, 7, 8, 9, 10, 11, 12, 13], [])])
def impl_fairLasso.B14 : List Nat := [0, 0, 2, 6, 15, 0, 0, 0, 128, 384, 960, 2016, 4095, 8191, 16383]
theorem impl_fairLasso.tab14 : rtab .any (opsOf Try.f44 14) = impl_fairLasso.T14 := by kernel_rfl
theorem impl_fairLasso.bits14 : waitsOk impl_fairLasso.T14.2 impl_fairLasso.B14 = true := by kernel_rfl
theorem impl_fairLasso.calls_ (k : Nat) (A0 : Option Addr) (c0 : Nat) (N : List (List Int)) (A1 : Option Addr) (c1 : Nat) (fr : List Int) (A2 : Option Addr) (c2 : Nat) (go : List (List Int)) (r1 r2 : List Int) (r3 : Bool) (w : World) (hr0 : Kd.C (Kd.slice 3 (Kd.int .i64)) w A0 N.length N) (hc0 : N.length ≤ c0) (hr1 : Kd.C (Kd.int .i64) w A1 fr.length fr) (hc1 : fr.length ≤ c1) (hr2 : Kd.C (Kd.slice 3 (Kd.int .i64)) w A2 go.length go) (hc2 : go.length ≤ c2) (h : impl_fairLasso.f k N fr go = some (r1, r2, r3)) :
  Calls Try.prog 44 #[.slice A0 N.length c0, .slice A1 fr.length c1, .slice A2 go.length c2] w fun e w' => ∃ v0_ v1_ : Value, e = .returned (.tuple #[v0_, v1_, .bool r3]) ∧ Kd.R (Kd.int .i64) 3 w' w.heap.size (fun k_ => some k_ ≠ (v1_ : Value).ownBlock) v0_ r1 ∧ Kd.R (Kd.int .i64) 3 w' w.heap.size (fun k_ => some k_ ≠ (v0_ : Value).ownBlock) v1_ r2 ∧ Below w.heap.size w w' := by
 have HN := am_ hr0
 have HC := am_ hc0
 have HF := am_ hr1
 have HFC := am_ hc1
 have HG := am_ hr2
 have HGC := am_ hc2
 clear hr0 hc0 hr1 hc1 hr2 hc2
 have HB := am_ (Below.refl w.heap.size w)
 unfold impl_fairLasso.f at h
 obtain ⟨meet, AM_, h⟩ := Sh.ba h
 by_cases c1_ : meet < 0
 ·rw [if_pos c1_] at h
  have c1b := decide_eq_true c1_
  clear c1_
  simp only [Option.some.injEq, Prod.mk.injEq] at h
  obtain ⟨rfl, rfl, rfl⟩ := h
  go_enter Try.func44, Try.ntmps44
  go_wp2_with (first | (go_at_call 60; (with_reducible refine (impl_meeting.calls k _ _ N _ _ fr _ _ go meet _ (Sh.cB HN.out) HC.out (Sh.cB HF.out) HFC.out (Sh.cB HG.out) HGC.out AM_.out).mono ?_); rintro e w3 ⟨rfl, hb⟩; replace HB := Sh.hb hb; clear hb) | ((with_reducible refine Sh.d 9 ?_); refine Sh.bx (N := 9) (cs := #[.int .i64 0]) (t := 3) (h := ?_); intro b9 hg w4 hbox hb; have GE9 := Sh.ag w hg; replace HB := Sh.hb hb; have B9 := am_ hbox; clear hg hb hbox; have hc9 := Sh.bc B9.out 0 rfl; have hf9 := blk_frozen B9.out 0) | ((with_reducible refine gate_store (t := 3) (p := 9) rfl ?_); refine store_event (t := 3) (p := 9) (v := ?vo_w5) (w1 := (w4.setCell ⟨b9, 0, none⟩ (.int .i64 meet))) ?hg ?ho ?hn ?hr ?_; (case ho => rfl); (case hg => rfl); (case hn => rfl); (case hr => first | (go_simp; done) | (go_simp; rfl)); intro w5 hw; have n2_ := am_ (show w5.heap[b9]? = some (.cells #[.int .i64 meet] 3 (0, 0)) from (by rw [hw]; exact blk_put B9.out 0 _ rfl)); have n3_ := am_ (show Below w.heap.size w w5 from (by rw [hw]; exact below_set HB.out GE9.out)); clear hw B9 HB hc9 hf9; have B9 := n2_; have HB := n3_; clear n2_ n3_; have hc9 := Sh.bc B9.out 0 rfl))
  exact bodyPost_ret (results_list (rs := [.tmp 6, .tmp 7, .tmp 8]) rfl (by simp) (.tmp (.tmp (.tmp .nil)))) rfl ⟨.slice none 0 0, .slice none 0 0, rfl, Kd.R_nil _ _ _ _ _, Kd.R_nil _ _ _ _ _, Sh.bw⟩
 ·rw [if_neg c1_] at h
  have c1b := decide_eq_false c1_
  clear c1_
  obtain ⟨stem, AS_, h⟩ := Sh.ba h
  obtain ⟨P, AP_, h⟩ := Sh.ba h
  by_cases c2_ : 0 ≤ meet ∧ meet < (P.length : Int)
  ·rw [if_pos c2_] at h
   obtain ⟨m0, m1⟩ := c2_
   have m0t := eq_true m0
   have m0b := decide_eq_true m0
   have m1t := eq_true m1
   have m1b := decide_eq_true m1
   obtain ⟨arcs, AA_, h⟩ := Sh.ba h
   obtain ⟨loop, AL_, h⟩ := Sh.ba h
   by_cases c3_ : 0 < loop.length ∧ 0 ≤ rd loop ((loop.length : Int) - 1) ∧ rd loop ((loop.length : Int) - 1) < (arcs.length : Int) ∧ 1 ≤ stem.length ∧ loop.length < 17592186044416 ∧ stem.length < 17592186044416
   ·rw [if_pos c3_] at h
    obtain ⟨way, AW_, h⟩ := Sh.ba h
    by_cases c4_ : 1 ≤ way.length ∧ loop.length + way.length < 17592186044416
    ·rw [if_pos c4_] at h
     simp only [Option.some.injEq, Prod.mk.injEq] at h
     obtain ⟨rfl, rfl, rfl⟩ := h
     have K3 := am_ c3_
     have K4 := am_ c4_
     clear c3_ c4_
     obtain ⟨ym, hym⟩ : ∃ y_ : List Int, y_ = [meet] := ⟨_, rfl⟩
     rw [← hym] at AS_ AL_ AW_
     have NY := am_ hym
     clear hym
     go_enter Try.func44, Try.ntmps44
     go_wp2_with (first | (go_at_call 60; (with_reducible refine (impl_meeting.calls k _ _ N _ _ fr _ _ go meet _ (Sh.cB HN.out) HC.out (Sh.cB HF.out) HFC.out (Sh.cB HG.out) HGC.out AM_.out).mono ?_); rintro e w3 ⟨rfl, hb⟩; replace HB := Sh.hb hb; clear hb) | ((with_reducible refine Sh.d 9 ?_); refine Sh.bx (N := 9) (cs := #[.int .i64 0]) (t := 3) (h := ?_); intro b9 hg w4 hbox hb; have GE9 := Sh.ag w hg; replace HB := Sh.hb hb; have B9 := am_ hbox; clear hg hb hbox; have hc9 := Sh.bc B9.out 0 rfl; have hf9 := blk_frozen B9.out 0) | ((with_reducible refine gate_store (t := 3) (p := 9) rfl ?_); refine store_event (t := 3) (p := 9) (v := ?vo_w5) (w1 := (w4.setCell ⟨b9, 0, none⟩ (.int .i64 meet))) ?hg ?ho ?hn ?hr ?_; (case ho => rfl); (case hg => rfl); (case hn => rfl); (case hr => first | (go_simp; done) | (go_simp; rfl)); intro w5 hw; have n2_ := am_ (show w5.heap[b9]? = some (.cells #[.int .i64 meet] 3 (0, 0)) from (by rw [hw]; exact blk_put B9.out 0 _ rfl)); have n3_ := am_ (show Below w.heap.size w w5 from (by rw [hw]; exact below_set HB.out GE9.out)); clear hw B9 HB hc9 hf9; have B9 := n2_; have HB := n3_; clear n2_ n3_; have hc9 := Sh.bc B9.out 0 rfl) | ((with_reducible refine Sh.d 28 ?_); refine Kd.R_lit (Kd.int .i64) _ 3 ?hg (N := 28) ?hd (xs := ([meet] : List Int)) (inner := [.int .i64 meet]) (ok := fun _ => True) (okp := fun _ => True) ?hr ?hp (fun _ hk => hk) trivial (Below.refl _ _) (Nat.le_refl _) (by simp) ?_; (case hd => rfl); (case hg => rfl); (case hr => first | (go_simp; done) | (go_simp; rfl)); (case hp => exact (Reps.one (show Kd.M (Kd.int .i64) _ _ _ meet [.int .i64 meet] from rfl) (Reps.none _ _))); intro v6 w6 ho hb hg_ hnew_; clear hg_ hnew_; rw [← NY.out] at ho; have B9' := am_ (blk_below (blk_below B9.out TJ_bl) hb); replace HB := Sh.hb hb; clear hc9 B9 hb; have B9 := B9'; clear B9'; obtain ⟨A6, c6, e6⟩ := Kd.R_slice ho; subst e6; have HO6 := am_ ho; clear ho; have hc9 := Sh.bc B9.out 0 rfl) | (go_at_call 61; (with_reducible refine (impl_leastWay.calls k _ _ N _ _ fr _ _ ym stem _ (Sh.cB HN.out) HC.out (Sh.cB HF.out) HFC.out (TJ_rC HO6.out) (Kd.R_reads' HO6.out).2.1 AS_.out).mono ?_); rintro e w7 ⟨v7, rfl, ho, hb⟩; have n1_ := am_ (Kd.R_lower ho (below_size Sh.bw)); have n2_ := am_ (blk_below (blk_below B9.out TJ_bl) hb); replace HB := Sh.hb hb; clear hb ho B9 hc9 HO6; have B9 := n2_; have RS := n1_; clear n1_ n2_; have hc9 := Sh.bc B9.out 0 rfl) | (go_at_call 30; (with_reducible refine (impl_parts.calls k _ _ N P _ (Sh.cB HN.out) HC.out AP_.out).mono ?_); rintro e w8 ⟨v8, rfl, ho, hb⟩; have n1_ := am_ (Kd.R_lower ho (below_size Sh.bw)); have n2_ := am_ (blk_below (blk_below B9.out TJ_bl) hb); have n3_ := am_ (Kd.R_below (Sh.rl RS.out) hb); have n4_ := am_ (show ∀ j, (v7 : Value).ownBlock = some j → v8.ownBlock ≠ some j from fun j hj e_ => Nat.lt_irrefl _ (Nat.lt_of_lt_of_le (Kd.R_lt RS.out j hj) (Kd.R_base ho j e_))); replace HB := Sh.hb hb; clear hb ho B9 hc9 RS; have B9 := n2_; have RP := n1_; have RS := n3_; have APP := n4_; clear n1_ n2_ n3_ n4_; obtain ⟨Ap, cp, ep⟩ := Kd.R_slice RP.out; subst ep; have hc9 := Sh.bc B9.out 0 rfl) | ((with_reducible refine Sh.d 11 ?_); refine Sh.bx (N := 11) (cs := #[.slice none 0 0]) (t := 26) (h := ?_); intro b11 hg w9 hbox hb; have GE11 := Sh.ag w hg; have n1_ := am_ (blk_below (blk_below B9.out TJ_bl) hb); have n2_ := am_ (Kd.R_below (Sh.rl RS.out) hb); have n3_ := am_ (Kd.R_below (Sh.rl RP.out) hb); replace HB := Sh.hb hb; have B11 := am_ hbox; clear hg hb hbox hc9 B9 RS RP; have B9 := n1_; have RS := n2_; have RP := n3_; clear n1_ n2_ n3_; have hc11 := Sh.bc B11.out 0 rfl; have hf11 := blk_frozen B11.out 0; have hc9 := Sh.bc B9.out 0 rfl) | ((with_reducible refine gate_store (t := 26) (p := 11) rfl ?_); refine store_event (t := 26) (p := 11) (v := ?vo_w10) (w1 := (w9.setCell ⟨b11, 0, none⟩ (.slice Ap P.length cp))) ?hg ?ho ?hn ?hr ?_; (case ho => rfl); (case hg => rfl); (case hn => rfl); (case hr => first | (go_simp; done) | (go_simp; rfl)); intro wA hw; have hne_ : b9 ≠ b11 := (fun e_ => by have h1_ := B9.out; rw [e_, B11.out] at h1_; injection h1_ with h1_; injection h1_ with _ h1_; exact absurd h1_ (by decide)); have n1_ := am_ (show wA.heap[b9]? = some (.cells #[.int .i64 meet] 3 (0, 0)) from (by rw [hw, Below.heap_setCell w9 ⟨b11, 0, none⟩ _ b9 hne_]; exact B9.out)); have n2_ := am_ (show wA.heap[b11]? = some (.cells #[.slice Ap P.length cp] 26 (0, 0)) from (by rw [hw]; exact blk_put B11.out 0 _ rfl)); have n3_ := am_ (show Below w.heap.size w wA from (by rw [hw]; exact below_set HB.out GE11.out)); have n4_ := am_ (show Kd.R (Kd.int .i64) 3 wA w.heap.size (fun _ => True) v7 stem from (by rw [hw]; exact TJ_set RS.out B11.out (by decide))); have n5_ := am_ (show Kd.R (Kd.int .i64) 3 wA w.heap.size (fun _ => True) (.slice Ap P.length cp) P from (by rw [hw]; exact TJ_set RP.out B11.out (by decide))); clear hw hne_ B9 B11 HB RS RP hc11 hf11 hc9; have B9 := n1_; have B11 := n2_; have HB := n3_; have RS := n4_; have RP := n5_; clear n1_ n2_ n3_ n4_ n5_; have hc9 := Sh.bc B9.out 0 rfl; have hc11 := Sh.bc B11.out 0 rfl))
     skip
     skip
     have hl9 := blk_lt B9.out
     obtain ⟨adP, eP, hxP⟩ := Kd.at_int (Kd.R_reads' RP.out).2.2 meet m0 m1
     subst eP
     obtain ⟨qq, hqq⟩ : ∃ qq, qq = rd P meet := ⟨_, rfl⟩
     rw [← hqq] at hxP AA_
     have HQQ := am_ hqq
     clear hqq
     have FS := am_ (show ∀ W, Below wA.heap.size wA W → W.cell? ⟨b11, 0, none⟩ = some (.slice (some adP) P.length cp) ∧ W.cell? ⟨b9, 0, none⟩ = some (.int .i64 meet) ∧ W.cell? (adP.add meet.toNat) = some (.int .i64 qq) from fun W hW => ⟨Sh.bc (blk_below B11.out hW) 0 rfl, Sh.bc (blk_below B9.out hW) 0 rfl, Sh.cw hxP hW⟩)
     have hHeld0 := FS.out _ (below_drew1 (Below.refl _ wA))
     obtain ⟨vA, hvA⟩ : ∃ v : Value, v = undef := ⟨_, rfl⟩
     obtain ⟨vL, hvL⟩ : ∃ v : Value, v = undef := ⟨_, rfl⟩
     have hM := am_ (show MK4 arcs ym wA wA.drew false false vA vL from ⟨below_drew1 (Below.refl _ _), by simp, by simp, by simp⟩)
     clear hl9 hxP hvA hvL
     refine start_ (n := 11) (S := fun w' => w'.cell? ⟨b11, 0, none⟩ = some (.slice (some adP) P.length cp) ∧ w'.cell? ⟨b9, 0, none⟩ = some (.int .i64 meet) ∧ w'.cell? (adP.add meet.toNat) = some (.int .i64 qq)) (ds := []) (Sh.nm 11 0) (by kernel_rfl) rfl rfl ⟨hHeld0.1, hHeld0.2.1, hHeld0.2.2⟩ (fun hHeld => ?_)
     refine with_tabW impl_fairLasso.tab5 impl_fairLasso.bits5 (fun HT_ HW_ => ?_)
     generalize wA.drew = w' at hHeld hM ⊢
     refine Sh.qA 0 ?_; refine Sh.qT 1 hHeld ?_; refine Sh.qT 2 hHeld ?_; refine Sh.qT 3 hHeld ?_; refine Sh.qA 4 ?_; refine Sh.qT 5 hHeld ?_; refine Sh.qT 7 hHeld ?_
     refine join_ (σ := Value × Value) 1 (Sh.nm 11 1023) (fun s => [(38, s.1), (40, s.2), (12, s.1)]) (fun s w' => MK4 arcs ym wA w' true true s.1 s.2 ∧ (w'.cell? ⟨b11, 0, none⟩ = some (.slice (some adP) P.length cp) ∧ w'.cell? ⟨b9, 0, none⟩ = some (.int .i64 meet) ∧ w'.cell? (adP.add meet.toNat) = some (.int .i64 qq))) ?_ ?_
     rotate_left
     · intro hJ6_8
       refine join_ (σ := Value × Value) 2 (Sh.nm 11 767) (fun s => [(38, s.1), (12, s.1)]) (fun s w' => MK4 arcs ym wA w' true false s.1 s.2 ∧ (w'.cell? ⟨b11, 0, none⟩ = some (.slice (some adP) P.length cp) ∧ w'.cell? ⟨b9, 0, none⟩ = some (.int .i64 meet) ∧ w'.cell? (adP.add meet.toNat) = some (.int .i64 qq))) ?_ ?_
       rotate_left
       · intro hJ6
         refine join_ (σ := Value × Value) 3 (Sh.nm 11 447) (fun s => [(40, s.2)]) (fun s w' => MK4 arcs ym wA w' false true s.1 s.2 ∧ (w'.cell? ⟨b11, 0, none⟩ = some (.slice (some adP) P.length cp) ∧ w'.cell? ⟨b9, 0, none⟩ = some (.int .i64 meet) ∧ w'.cell? (adP.add meet.toNat) = some (.int .i64 qq))) ?_ ?_
         rotate_left
         · intro hJ8
           refine two_ (i := 6) (j := 8) (Ni := some 38) (Nj := some 40) (Sh.nm 11 255) (Sh.nm 11 447) rfl rfl rfl rfl (two_of HT_.out (by kernel_rfl)) (by decide) (by decide) (fun K hK => ?_) (fun K hK => ?_)
           · skip
             refine goes_ Try.func62 (by kernel_rfl) rfl #[.slice A0 N.length c0, .slice (some adP) P.length cp, .int .i64 qq] (by rfl) rfl rfl (by simp only [List.map_toArray, List.map_cons, List.map_nil]; rfl) ?_
             with_reducible refine (impl_inside.calls k _ _ N _ _ P qq arcs _ (Kd.C_below HN.out (below_step HB.out (MK4.b hM.out))) HC.out (TJ_rC RP.out (MK4.b hM.out)) (Kd.R_reads' RP.out).2.1 AA_.out).mono ?_
             rintro e w1 ⟨v1, rfl, ho, hb⟩
             refine ⟨_, rfl, ?_⟩
             have hM2 := am_ (MK4.pa hM.out hb ho)
             clear ho hb hM
             refine Sh.kN hK ⟨(FS.out _ (MK4.b hM2.out)).1, (FS.out _ (MK4.b hM2.out)).2.1, (FS.out _ (MK4.b hM2.out)).2.2⟩ fun hHeld => ?_
             clear hK K
             refine Sh.qA 9 ?_
             exact norm_ (by first | (simp only [putAll, Act.put, List.setIfInBounds_toArray, List.set_cons_zero, List.set_cons_succ]; done) | (simp only [putAll, Act.put, List.setIfInBounds_toArray, List.set_cons_zero, List.set_cons_succ]; rfl)) (hJ6 (v1, vL) _ ⟨hM2.out, hHeld⟩)
           · skip
             refine Kd.R_lit_step (Kd.int .i64) _ 3 (by rfl) rfl (xs := ([meet] : List Int)) (inner := [.int .i64 meet]) (ok := fun _ => True) (okp := fun _ => True) (by first | (go_simp; done) | (go_simp; rfl)) (Reps.one (show Kd.M (Kd.int .i64) _ _ _ meet [.int .i64 meet] from rfl) (Reps.none _ _)) (fun _ hk => hk) trivial (Below.refl _ _) (Nat.le_refl _) (by simp) ?_
             intro v1 w1 ho hb _ _
             rw [← NY.out] at ho
             have hM2 := am_ (MK4.pb hM.out hb ho)
             clear ho hb hM
             refine Sh.kN hK ⟨(FS.out _ (MK4.b hM2.out)).1, (FS.out _ (MK4.b hM2.out)).2.1, (FS.out _ (MK4.b hM2.out)).2.2⟩ fun hHeld => ?_
             clear hK K
             exact norm_ (by first | (simp only [putAll, Act.put, List.setIfInBounds_toArray, List.set_cons_zero, List.set_cons_succ]; done) | (simp only [putAll, Act.put, List.setIfInBounds_toArray, List.set_cons_zero, List.set_cons_succ]; rfl)) (hJ8 (vA, v1) _ ⟨hM2.out, hHeld⟩)
         · skip
           rintro ⟨vA, vL⟩ w' ⟨hM, hHeld⟩
           dsimp only at hM
           replace hM := am_ hM
           refine norm_ (a' := ?_) ?_ ?_
           rotate_left
           · simp only [putAll, Act.put, List.setIfInBounds_toArray, List.set_cons_zero, List.set_cons_succ]
             rfl
           refine one_ (i := 6) (N := some 38) (Sh.nm 11 511) rfl rfl (one_of HT_.out (by kernel_rfl)) (by decide) (fun K hK => ?_)
           refine goes_ Try.func62 (by kernel_rfl) rfl #[.slice A0 N.length c0, .slice (some adP) P.length cp, .int .i64 qq] (by rfl) rfl rfl (by simp only [List.map_toArray, List.map_cons, List.map_nil]; rfl) ?_
           with_reducible refine (impl_inside.calls k _ _ N _ _ P qq arcs _ (Kd.C_below HN.out (below_step HB.out (MK4.b hM.out))) HC.out (TJ_rC RP.out (MK4.b hM.out)) (Kd.R_reads' RP.out).2.1 AA_.out).mono ?_
           rintro e w1 ⟨v1, rfl, ho, hb⟩
           refine ⟨_, rfl, ?_⟩
           have hM2 := am_ (MK4.pa hM.out hb ho)
           clear ho hb hM
           refine Sh.kN hK ⟨(FS.out _ (MK4.b hM2.out)).1, (FS.out _ (MK4.b hM2.out)).2.1, (FS.out _ (MK4.b hM2.out)).2.2⟩ fun hHeld => ?_
           clear hK K
           refine Sh.qA 9 ?_
           exact norm_ (by first | (simp only [putAll, Act.put, List.setIfInBounds_toArray, List.set_cons_zero, List.set_cons_succ]; done) | (simp only [putAll, Act.put, List.setIfInBounds_toArray, List.set_cons_zero, List.set_cons_succ]; rfl)) (hJ6_8 (v1, vL) _ ⟨hM2.out, hHeld⟩)
       · skip
         rintro ⟨vA, vL⟩ w' ⟨hM, hHeld⟩
         dsimp only at hM
         replace hM := am_ hM
         refine norm_ (a' := ?_) ?_ ?_
         rotate_left
         · simp only [putAll, Act.put, List.setIfInBounds_toArray, List.set_cons_zero, List.set_cons_succ]
           rfl
         refine one_ (i := 8) (N := some 40) (Sh.nm 11 1023) rfl rfl (one_of HT_.out (by kernel_rfl)) (by decide) (fun K hK => ?_)
         refine Kd.R_lit_step (Kd.int .i64) _ 3 (by rfl) rfl (xs := ([meet] : List Int)) (inner := [.int .i64 meet]) (ok := fun _ => True) (okp := fun _ => True) (by first | (go_simp; done) | (go_simp; rfl)) (Reps.one (show Kd.M (Kd.int .i64) _ _ _ meet [.int .i64 meet] from rfl) (Reps.none _ _)) (fun _ hk => hk) trivial (Below.refl _ _) (Nat.le_refl _) (by simp) ?_
         intro v1 w1 ho hb _ _
         rw [← NY.out] at ho
         have hM2 := am_ (MK4.pb hM.out hb ho)
         clear ho hb hM
         refine Sh.kN hK ⟨(FS.out _ (MK4.b hM2.out)).1, (FS.out _ (MK4.b hM2.out)).2.1, (FS.out _ (MK4.b hM2.out)).2.2⟩ fun hHeld => ?_
         clear hK K
         exact norm_ (by first | (simp only [putAll, Act.put, List.setIfInBounds_toArray, List.set_cons_zero, List.set_cons_succ]; done) | (simp only [putAll, Act.put, List.setIfInBounds_toArray, List.set_cons_zero, List.set_cons_succ]; rfl)) (hJ6_8 (vA, v1) _ ⟨hM2.out, hHeld⟩)
     rintro ⟨vA, vL⟩ w' ⟨hM, hHeld⟩
     dsimp only at hM
     replace hM := am_ hM
     refine norm_ (a' := ?_) ?_ ?_
     rotate_left
     · simp only [putAll, Act.put, List.setIfInBounds_toArray, List.set_cons_zero, List.set_cons_succ]
       rfl
     refine Sh.qA 10 ?_
     refine done_ (done_of HT_.out (by kernel_rfl)) ?_
     clear hHeld hHeld0
     obtain ⟨AA, cA, eA⟩ := Kd.S_slice (hM.out.2.1 rfl)
     subst eA
     have HLp := am_ (hM.out.2.2.1 rfl)
     have HA := am_ (hM.out.2.2.2 rfl rfl)
     have HB0 := am_ (MK4.b hM.out)
     have WS := am_ (below_size HB.out)
     clear hM
     obtain ⟨i3, hi3, hz3a, hz3b, hz3c⟩ := info_parts info3
     have HI3 := am_ hi3
     have HZ3 := am_ hz3b
     clear hi3 hz3a hz3b hz3c hc9 hc11
     go_wp2
     go_loopg [13, 43] k (fun kq v13 v43 w' => ∃ (i : Int) (vL : Value) (lp : List Int), v13 = vL ∧ v43 = .int .i64 i ∧ Aside0 (impl_fairLasso.g kq go arcs P meet i lp = some loop) ∧ Aside0 (kq ≤ k) ∧ Aside0 (Kd.R (Kd.int .i64) 3 w' wA.heap.size (fun _ => True) vL lp) ∧ Aside0 (Kd.S (Kd.slice 3 (Kd.int .i64)) 26 w' wA.heap.size (fun j => True ∧ some j ≠ vL.ownBlock) (.slice AA arcs.length cA) arcs) ∧ Aside0 (Below wA.heap.size wA w'))
     case atStart => exact ⟨0, _, _, rfl, rfl, AL_, ⟨Nat.le_refl _⟩, HLp, HA, HB0⟩
     case round =>
      clear AL_ HLp HA HB0
      obtain ⟨i, vL, lp, rfl, rfl, HE, HK1, HLp, HA, HB0⟩ := hrel
      cases gk with
      | zero => exact absurd HE.out (by simp [impl_fairLasso.g])
      | succ k1 =>
       have H := HE.out
       clear HE
       simp only [impl_fairLasso.g] at H
       by_cases d1 : i < (go.length : Int)
       ·rw [if_pos d1] at H
        by_cases d2 : 0 ≤ i ∧ 0 < lp.length
        ·rw [if_pos d2] at H
         obtain ⟨p2, l2⟩ := d2
         by_cases d3 : (∀ v ∈ rd_L1 go i, 0 ≤ v ∧ v < (P.length : Int))
         ·rw [if_pos d3] at H
          obtain ⟨cl, AC_, H⟩ := Sh.ba H
          obtain ⟨wy, AY_, H⟩ := Sh.ba H
          by_cases d4 : 1 ≤ wy.length ∧ lp.length + wy.length < 17592186044416
          ·rw [if_pos d4] at H
           have ecl := TJ_clone AC_.out
           have D3 := am_ (show ∀ v ∈ cl, 0 ≤ v ∧ v < (P.length : Int) from by rw [ecl]; exact d3)
           have D4 := am_ d4
           have L2 := am_ l2
           clear d3 d4 ecl l2
           have d1b := decide_eq_true d1
           have d1t := eq_true d1
           have p2b := decide_eq_true p2
           have p2t := eq_true p2
           have HBW := am_ (below_step HB.out HB0.out)
           obtain ⟨adG, AG1, cG1, eG, hxg, hlg, hig⟩ := at_L1 (Kd.C_below HG.out HBW.out) i p2 d1
           subst eG
           have HGR := am_ hig
           have HGC1 := am_ hlg
           clear hig hlg
           generalize rd_L1 go i = yG at hxg HGR HGC1 AC_
           obtain ⟨yF, hyF⟩ : ∃ y_ : List Int, y_ = cl.filter (fun v => !(rd P v != rd P meet)) := ⟨_, rfl⟩
           rw [← hyF] at AY_
           obtain ⟨AL1, cL1, eL1⟩ := Kd.R_slice HLp.out
           subst eL1
           obtain ⟨jj, hj1⟩ : ∃ j_ : Int, (wrap64 ((lp.length : Int) - 1)) = j_ := ⟨_, rfl⟩
           have hjw : (IntKind.i64.wrap ((lp.length : Int) - 1)) = jj := (i64_w _).trans hj1
           have hjv : jj = (lp.length : Int) - 1 := by rw [← hj1]; unfold wrap64; have := D4.out; have := L2.out; omega
           have j0 : 0 ≤ jj := by have := L2.out; omega
           have jn : jj.toNat = lp.length - 1 := by omega
           obtain ⟨A5, hcut5, hA5, hC5⟩ := print_drop_of (P := Try.prog) (Value.int .i64) 0 26 3 .i64 Try.underlying26 HI3.out HZ3.out AL1 cL1 lp jj j0 (by omega) (Kd.R_reads' HLp.out).2.1
           obtain ⟨yD, hyD⟩ : ∃ y_ : List Int, y_ = lp.drop jj.toNat := ⟨_, rfl⟩
           rw [← hyD] at hcut5 hA5 hC5
           rw [← jn, ← hyD] at AY_
           obtain ⟨yR, hyR⟩ : ∃ y_ : List Int, y_ = wy.drop 1 := ⟨_, rfl⟩
           rw [← hyR] at H
           obtain ⟨yN, hyN⟩ : ∃ y_ : List Int, y_ = lp ++ yR := ⟨_, rfl⟩
           rw [← hyN] at H
           have NF := am_ hyF
           have ND := am_ hyD
           have NR := am_ hyR
           have NN := am_ hyN
           have H' := am_ H
           clear H hyF hyD hyR hyN hjv jn j0
           have hC5' := am_ hC5
           have hA5' := am_ hA5
           clear hC5 hA5
           have P1 := am_ (show (1 : Int) ≤ (wy.length : Int) from by have := D4.out.1; omega)
           have LA := am_ (show (lp.length + yR.length) * 8 ≤ 140737488355328 from by have h_ := D4.out.2; have h2_ := NR.out; rw [h2_, List.length_drop]; omega)
           have RPC := am_ (Kd.R_reads' RP.out).2.2
           have SZ := am_ HB0.out.size
           go_wp2_with (first | (go_at_call 64; (with_reducible refine (slices_Clone_int_int.calls _ _ yG cl _ HGR.out HGC1.out AC_.out).mono ?_); rintro e w3 ⟨v3, rfl, ho, hb⟩; obtain ⟨A3, c3, e3⟩ := Kd.R_slice ho; subst e3; have HCl := am_ ho; have B3 := am_ hb; clear ho hb; have DEL := am_ (slices_DeleteFunc_int_int.gen 65 #[.pointer (some ⟨b11, 0, none⟩), .pointer (some ⟨b9, 0, none⟩)] (enters_of Try.func65 (by kernel_rfl) rfl) (fun v => rd P v != rd P meet) wr.heap.size A3 c3 cl w3 HCl.out (fun Wx x hg hx => fl_clo.calls x b11 b9 (some adP) cp P meet Wx (Kd.C_below RPC.out (TJ_bg (below_step HB0.out B3.out) hg (fun j hj => Nat.le_trans SZ.out (Kd.R_base HCl.out j hj)))) (blk_below B11.out (TJ_bg (below_step HB0.out B3.out) hg (fun j hj => Nat.le_trans SZ.out (Kd.R_base HCl.out j hj)))) (blk_below B9.out (TJ_bg (below_step HB0.out B3.out) hg (fun j hj => Nat.le_trans SZ.out (Kd.R_base HCl.out j hj)))) (D3.out x hx) ⟨m0, m1⟩))) | (go_at_call 63; (with_reducible refine DEL.out.mono ?_); rintro e w4 ⟨v4, rfl, ho, how_, hg⟩; have B4 := am_ (TJ_bg B3.out hg (fun j hj => Kd.R_base HCl.out j hj)); rw [← NF.out] at ho; obtain ⟨A4, c4, e4⟩ := Kd.R_slice ho; subst e4; have CF := am_ (Kd.R_reads' ho).2.2; have CFc := am_ (Kd.R_reads' ho).2.1; have n1_ := am_ (Kd.R_below HLp.out B4.out); have n2_ := am_ (Kd.S_below HA.out B4.out); have n3_ := am_ (below_step HB0.out B4.out); clear HLp HA HB0 DEL HCl B3 B4 ho how_ hg hxg HGR; have HLp := n1_; have HA := n2_; have HB0 := n3_; clear n1_ n2_ n3_; have CA := am_ (Kd.S_reads' HA.out).2.2; have CAc := am_ (Kd.S_reads' HA.out).2.1; have CD := am_ (show Kd.C (Kd.int .i64) w4 A5 yD.length yD from Kd.C_of_reads (enc := Value.int .i64) (d := (0 : Int)) (h1 := fun _ => rfl) (hA5'.out _ (Kd.reads_of_C (enc := Value.int .i64) (d := (0 : Int)) (h1 := fun _ => rfl) (Kd.R_reads' HLp.out).2.2)))) | (go_at_call 61; (with_reducible refine (impl_leastWay.calls k1 _ _ arcs _ _ yD _ _ yF wy _ CA.out CAc.out CD.out hC5'.out CF.out CFc.out AY_.out).mono ?_); rintro e w5 ⟨v5, rfl, ho, hb⟩; obtain ⟨A6, c6w, e6⟩ := Kd.R_slice ho; subst e6; have HWy := am_ ho; have n1_ := am_ (Kd.R_below HLp.out hb); have n2_ := am_ (Kd.S_below HA.out hb); have n3_ := am_ (below_step HB0.out hb); clear HLp HA HB0 CA CD CF ho hb; have HLp := n1_; have HA := n2_; have HB0 := n3_; clear n1_ n2_ n3_; obtain ⟨A7, hcut7, hA7, hC7⟩ := print_drop_of (P := Try.prog) (Value.int .i64) 0 26 3 .i64 Try.underlying26 HI3.out HZ3.out A6 c6w wy 1 (Int.le_of_lt Int.one_pos) P1.out (Kd.R_reads' HWy.out).2.1; rw [show wy.drop (1 : Int).toNat = yR from NR.out.symm] at hcut7 hA7 hC7; have CR := am_ (show Kd.C (Kd.int .i64) w5 A7 yR.length yR from Kd.C_of_reads (enc := Value.int .i64) (d := (0 : Int)) (h1 := fun _ => rfl) (hA7 _ (Kd.reads_of_C (enc := Value.int .i64) (d := (0 : Int)) (h1 := fun _ => rfl) (Kd.R_reads' HWy.out).2.2))); clear hA7 hC7) | ((with_reducible refine gate_builtin (b := .append) (xs := #[.tmp 59, .tmp 61]) rfl ?_); at_builtin; refine Kd.R_append_rows (Kd.int .i64) (w0 := wA) wA.heap.size rfl (.tmp 59) (.tmp 61) 26 3 (.int .i64 0) 8 rfl Try.underlying26 info3 rfl (by decide) (by decide) (.slice AL1 lp.length cL1) lp yR _ _ _ (fun _ => True) (fun _ => False) rfl rfl ?aO ?aR (fun _ _ h => h) (fun _ h => h.elim) ?aF ?aB ?aS ?aL ?_; (case aR => exact CR.out); (case aO => exact HLp.out); (case aF => exact (fun _ _ => trivial)); (case aB => exact HB0.out); (case aS => exact HB0.out.size); (case aL => exact LA.out); intro v6 w6 ho hb hg hat; rw [← NN.out] at ho; have n1_ := am_ (Kd.S_after HA.out hg hat); have n2_ := am_ ho; have n3_ := am_ hb; clear HLp HA HB0 CR HWy hcut7 ho hb hg hat; have HLp := n2_; have HA := n1_; have HB0 := n3_; clear n1_ n2_ n3_))
           go_roundg k1
           case measure => have := HK1.out; omega
           case rel => exact ⟨_, _, _, rfl, rfl, H', ⟨by have := HK1.out; omega⟩, ⟨Sh.rl HLp.out⟩, ⟨Kd.S_below HA.out TJ_bl⟩, ⟨below_step HB0.out TJ_bl⟩⟩
          ·rw [if_neg d4] at H
           cases H
         ·rw [if_neg d3] at H
          cases H
        ·rw [if_neg d2] at H
         cases H
       ·rw [if_neg d1] at H
        have d1b := decide_eq_false d1
        injection H with H
        subst H
        obtain ⟨AL1, cL1, eL1⟩ := Kd.R_slice HLp.out
        subst eL1
        obtain ⟨jj, hjj1⟩ : ∃ j_ : Int, (wrap64 ((lp.length : Int) - 1)) = j_ := ⟨_, rfl⟩
        have hjjw : (IntKind.i64.wrap ((lp.length : Int) - 1)) = jj := (i64_w _).trans hjj1
        have hjjv : jj = (lp.length : Int) - 1 := by rw [← hjj1]; unfold wrap64; have := K3.out; have := K4.out; omega
        have hjj0 : 0 ≤ jj := by have := K3.out; have := K4.out; omega
        have hjjn : jj.toNat = lp.length - 1 := by omega
        obtain ⟨adL, eL, hxl⟩ := Kd.at_int (Kd.R_reads' HLp.out).2.2 jj hjj0 (by omega)
        subst eL
        obtain ⟨xx, hxx⟩ : ∃ xx, xx = rd lp jj := ⟨_, rfl⟩
        have hx3 : rd lp ((lp.length : Int) - 1) = xx := by rw [hxx, hjjv]
        have x0 : 0 ≤ xx := by rw [← hx3]; exact K3.out.2.1
        have x1 : xx < (arcs.length : Int) := by rw [← hx3]; exact K3.out.2.2.1
        rw [← hxx] at hxl
        rw [hx3] at AW_
        obtain ⟨adA, AX, cX, eX, hxa, hla, hia⟩ := at_L1 (Kd.S_reads' HA.out).2.2 xx x0 x1
        subst eX
        have hjjl := decide_eq_true (show jj < (lp.length : Int) by omega)
        have hjjt := eq_true (show jj < (lp.length : Int) by omega)
        have hjj0t := eq_true hjj0
        have hjj0b := decide_eq_true hjj0
        have x0t := eq_true x0
        have x0b := decide_eq_true x0
        have x1t := eq_true x1
        have x1b := decide_eq_true x1
        have HXR := am_ hia
        have HXC := am_ hla
        have NJ := am_ hjjn
        clear hxx hx3 hia hla hjjv hjjn
        have FS13 := am_ (show ∀ W, Below wr.heap.size wr W → (fun w' => w'.cell? (adL.add jj.toNat) = some (.int .i64 xx) ∧ w'.cell? (adA.add xx.toNat) = some (.slice AX (rd_L1 arcs xx).length cX) ∧ w'.cell? ⟨b9, 0, none⟩ = some (.int .i64 meet)) W from fun W hW => ⟨Sh.cw hxl hW, Sh.cw hxa hW, Sh.bc (blk_below (blk_below B9.out HB0.out) hW) 0 rfl⟩)
        go_wp2
        refine start_ (n := 14) (S := fun w' => w'.cell? (adL.add jj.toNat) = some (.int .i64 xx) ∧ w'.cell? (adA.add xx.toNat) = some (.slice AX (rd_L1 arcs xx).length cX) ∧ w'.cell? ⟨b9, 0, none⟩ = some (.int .i64 meet)) (ds := []) (Sh.nm 14 0) (by kernel_rfl) rfl rfl (FS13.out _ (below_drew1 (Below.refl _ _))) (fun hHeld => ?_)
        refine with_tabW impl_fairLasso.tab13 impl_fairLasso.bits13 (fun HT_ HW_ => ?_)
        refine Sh.qA 0 ?_; refine Sh.qA 1 ?_; refine Sh.qA 2 ?_; refine Sh.qA 3 ?_; refine Sh.qA 4 ?_; refine Sh.qA 5 ?_
        refine Sh.qA 6 ?_ (v := .pointer (some (adL.add jj.toNat))) (hy := by intro w'; go_simp; first | done | (intro h_; omega))
        refine Sh.qT 7 hHeld ?_
        refine Sh.qA 8 ?_ (v := .pointer (some (adA.add xx.toNat))) (hy := by intro w'; go_simp; first | done | (intro h_; omega))
        refine Sh.qT 9 hHeld ?_; refine Sh.qT 10 hHeld ?_
        refine one_ (i := 11) (N := some 75) (Sh.nm 14 4095) rfl rfl (one_of HT_.out (by kernel_rfl)) (by decide) fun K hK => ?_
        refine Kd.R_lit_step (Kd.int .i64) _ 3 (by rfl) rfl (xs := ([meet] : List Int)) (inner := [.int .i64 meet]) (ok := fun _ => True) (okp := fun _ => True) (by first | (go_simp; done) | (go_simp; rfl)) (Reps.one (show Kd.M (Kd.int .i64) _ _ _ meet [.int .i64 meet] from rfl) (Reps.none _ _)) (fun _ hk => hk) trivial (Below.refl _ _) (Nat.le_refl _) (by simp) ?_
        intro v11 w11 ho hb _ _
        rw [← NY.out] at ho
        obtain ⟨A11, c11, e11⟩ := Kd.R_slice ho
        subst e11
        have C11 := am_ (Kd.R_reads' ho).2.2
        have C11c := am_ (Kd.R_reads' ho).2.1
        have B11w := am_ (show Below wr.heap.size wr w11 from below_step (below_drew1 (Below.refl _ _)) hb)
        clear ho hb
        refine hK.out _ _ (FS13.out _ B11w.out) (fun hHeld => ?_)
        clear hK K
        refine norm_ (a' := ?_) ?_ ?_
        rotate_left
        · show Act.put _ (some 75) _ = _
          simp only [Act.put, List.setIfInBounds_toArray, List.set_cons_zero, List.set_cons_succ, i64_w, i32_w]
          rfl
        refine one_ (i := 12) (N := some 76) (Sh.nm 14 8191) rfl rfl (one_of HT_.out (by kernel_rfl)) (by decide) fun K hK => ?_
        refine goes_ Try.func61 (by kernel_rfl) rfl #[.slice (some adA) arcs.length cA, .slice AX (rd_L1 arcs xx).length cX, .slice A11 ym.length c11] (by rfl) rfl rfl (by simp only [List.map_toArray, List.map_cons, List.map_nil]; rfl) ?_
        refine (impl_leastWay.calls k _ _ arcs _ _ (rd_L1 arcs xx) _ _ ym way _ (Kd.C_below (Kd.S_reads' HA.out).2.2 B11w.out) (Kd.S_reads' HA.out).2.1 (Kd.C_below HXR.out B11w.out) HXC.out C11.out C11c.out AW_.out).mono ?_
        rintro e w12 ⟨v12, rfl, ho, hb⟩
        refine ⟨_, rfl, ?_⟩
        have B12 := am_ (below_step B11w.out hb)
        obtain ⟨AW, cW, eW⟩ := Kd.R_slice ho
        subst eW
        have HWy := am_ ho
        have n1_ := am_ (Kd.R_below HLp.out B12.out)
        have n3_ := am_ (below_step HB0.out B12.out)
        clear ho hb hHeld C11 C11c hxl hxa HXR HXC
        refine hK.out _ _ (FS13.out _ B12.out) (fun hHeld => ?_)
        clear hK K HLp HB0 HA FS13 B12 B11w
        have HLp := n1_
        have HB0 := n3_
        clear n1_ n3_
        refine norm_ (a' := ?_) ?_ ?_
        rotate_left
        · show Act.put _ (some 76) _ = _
          simp only [Act.put, List.setIfInBounds_toArray, List.set_cons_zero, List.set_cons_succ, i64_w, i32_w]
          rfl
        refine Sh.qA 13 ?_
        refine done_ (done_of HT_.out (by kernel_rfl)) ?_
        clear hHeld HT_ HW_
        obtain ⟨As, cs, es⟩ := Kd.R_slice RS.out
        subst es
        obtain ⟨js, hjs1⟩ : ∃ j_ : Int, (wrap64 ((stem.length : Int) - 1)) = j_ := ⟨_, rfl⟩
        have hjsw : (IntKind.i64.wrap ((stem.length : Int) - 1)) = js := (i64_w _).trans hjs1
        have hjsv : js = (stem.length : Int) - 1 := by rw [← hjs1]; unfold wrap64; have := K3.out; have := K4.out; omega
        have hjs0 : 0 ≤ js := by have := K3.out; have := K4.out; omega
        have hjsn : js.toNat = stem.length - 1 := by omega
        obtain ⟨jw, hjw1⟩ : ∃ j_ : Int, (wrap64 ((way.length : Int) - 1)) = j_ := ⟨_, rfl⟩
        have hjww : (IntKind.i64.wrap ((way.length : Int) - 1)) = jw := (i64_w _).trans hjw1
        have hjwv : jw = (way.length : Int) - 1 := by rw [← hjw1]; unfold wrap64; have := K3.out; have := K4.out; omega
        have hjw0 : 0 ≤ jw := by have := K3.out; have := K4.out; omega
        have hjwn : jw.toNat = way.length - 1 := by omega
        obtain ⟨hcutS, _, _⟩ := print_take_of (P := Try.prog) (Value.int .i64) 0 26 3 .i64 Try.underlying26 HI3.out HZ3.out As cs stem js hjs0 (by omega) (Kd.R_reads' RS.out).2.1
        obtain ⟨hcutW, hAW, hCW⟩ := print_take_of (P := Try.prog) (Value.int .i64) 0 26 3 .i64 Try.underlying26 HI3.out HZ3.out AW cW way jw hjw0 (by omega) (Kd.R_reads' HWy.out).2.1
        rw [hjsn] at hcutS
        rw [hjwn] at hcutW hAW
        obtain ⟨yS, hyS⟩ : ∃ y_ : List Int, y_ = stem.take (stem.length - 1) := ⟨_, rfl⟩
        obtain ⟨yW, hyW⟩ : ∃ y_ : List Int, y_ = way.take (way.length - 1) := ⟨_, rfl⟩
        rw [← hyS] at hcutS
        rw [← hyW] at hcutW hAW
        obtain ⟨yN, hyN⟩ : ∃ y_ : List Int, y_ = lp ++ yW := ⟨_, rfl⟩
        have NS := am_ hyS
        have NW := am_ hyW
        have NN := am_ hyN
        have CR := am_ (show Kd.C (Kd.int .i64) w12 AW yW.length yW from Kd.C_of_reads (enc := Value.int .i64) (d := (0 : Int)) (h1 := fun _ => rfl) (hAW _ (Kd.reads_of_C (enc := Value.int .i64) (d := (0 : Int)) (h1 := fun _ => rfl) (Kd.R_reads' HWy.out).2.2)))
        have LA := am_ (show (lp.length + yW.length) * 8 ≤ 140737488355328 from by have h_ := K4.out.2; rw [hyW, List.length_take]; omega)
        have JS := am_ hjsn
        clear hyS hyW hyN hAW hCW hjsv hjwv hjsn hjwn
        go_wp2
        refine start_ (n := 15) (S := fun w' => True) (ds := []) (Sh.nm 15 0) (by kernel_rfl) rfl rfl trivial (fun hHeld => ?_)
        refine with_tabW impl_fairLasso.tab14 impl_fairLasso.bits14 (fun HT_ HW_ => ?_)
        refine Sh.qA 0 ?_; refine Sh.qA 1 ?_; refine Sh.qA 2 ?_; refine Sh.qA 3 ?_; refine Sh.qA 4 ?_; refine Sh.qA 5 ?_; refine Sh.qA 6 ?_; refine Sh.qA 7 ?_; refine Sh.qA 8 ?_; refine Sh.qA 9 ?_; refine Sh.qA 10 ?_
        refine one_ (i := 11) (N := some 88) (Sh.nm 15 4095) rfl rfl (one_of HT_.out (by kernel_rfl)) (by decide) fun K hK => ?_
        refine Kd.R_append_rows_step (Kd.int .i64) (w0 := wA) (W := w12.drew) wA.heap.size ?hw (.tmp 82) (.tmp 87) 26 3 (.int .i64 0) 8 ?ho Try.underlying26 info3 rfl (by decide) (by decide) (.slice (some adL) lp.length cL1) lp yW AW yW.length cW (fun _ => True) (fun _ => False) ?hs ?hx ?aO ?aR (fun _ _ h => h) (fun _ h => h.elim) ?aF ?aB ?aS ?aL ?_
        case hw => rfl
        case ho => rfl
        case hs => rfl
        case hx => rfl
        case aO => exact HLp.out
        case aR => exact CR.out
        case aF => exact (fun _ _ => trivial)
        case aB => exact below_drew1 HB0.out
        case aS => exact HB0.out.size
        case aL => exact LA.out
        intro v14 w14 ho hb hg hat
        rw [← NN.out] at ho
        refine hK.out _ _ trivial (fun hHeld => ?_)
        clear hK K
        refine norm_ (a' := ?_) ?_ ?_
        rotate_left
        · show Act.put _ (some 88) _ = _
          simp only [Act.put, List.setIfInBounds_toArray, List.set_cons_zero, List.set_cons_succ, i64_w, i32_w]
          rfl
        refine Sh.qA 12 ?_; refine Sh.qA 13 ?_; refine Sh.qA 14 ?_
        refine done_ (done_of HT_.out (by kernel_rfl)) ?_
        clear hHeld HT_ HW_
        go_wp2
        have hl : stem.length - 1 = yS.length := by rw [NS.out, List.length_take]; omega
        have r2 := Kd.R_below (Kd.R_mono (Kd.R_bound RS.out) (ok' := fun j => j < wA.heap.size) (fun j hj => hj.2.2.1)) hb
        have r3 := Kd.R_take r2 (m := stem.length - 1) (Nat.sub_le _ _)
        have r4 : Kd.R (Kd.int .i64) 3 w14 w.heap.size (fun j => some j ≠ v14.ownBlock) (.slice As yS.length cs) (stem.take (stem.length - 1)) := by
         rw [← hl]
         exact Kd.R_mono r3 (fun j hj e_ => by have h_ := Kd.R_base ho j e_.symm; omega)
        have hown : ∀ j, (Value.slice As yS.length cs).ownBlock = some j → j < wA.heap.size := fun j hj => Kd.R_lt RS.out j (by rw [← hj]; cases As <;> rfl)
        have r5 : Kd.R (Kd.int .i64) 3 w14 w.heap.size (fun j => some j ≠ (Value.slice As yS.length cs).ownBlock) v14 (lp ++ way.take (way.length - 1)) := by
         rw [← NW.out, ← NN.out]
         exact Kd.R_lower (Kd.R_mono (Kd.R_bound ho) (fun j hj e_ => by have h_ := hown j e_.symm; have h2_ := hj.2.1; omega)) WS.out
        exact bodyPost_ret (results_list (rs := [.tmp 6, .tmp 7, .tmp 8]) rfl (by simp) (.tmp (.tmp (.tmp .nil)))) rfl ⟨.slice As yS.length cs, v14, rfl, r4, r5, below_step HB.out hb⟩
    ·rw [if_neg c4_] at h
     exact absurd h (by simp)
   ·rw [if_neg c3_] at h
    exact absurd h (by simp)
  ·rw [if_neg c2_] at h
   exact absurd h (by simp)

theorem impl_fairLasso.mono_g : ∀ k, (∀ y0 y1 y2 y3 y4 y5, LeO (impl_fairLasso.g k y0 y1 y2 y3 y4 y5) (impl_fairLasso.g (k + 1) y0 y1 y2 y3 y4 y5))
 | 0 => fun _ _ _ _ _ _ r h => by simp [impl_fairLasso.g] at h
 | k + 1 => by
  have ih0 := impl_fairLasso.mono_g k
  intros
  unfold impl_fairLasso.g
  repeat' with_reducible first | apply ih0 | apply impl_leastWay.mono | exact LeO.refl _ | exact LeO.none _ | apply LeO.ite | refine LeO.bind ?_ fun _ => ?_
theorem impl_fairLasso.mono : ∀ a0 a1 a2 k, LeO (impl_fairLasso.f k a0 a1 a2) (impl_fairLasso.f (k + 1) a0 a1 a2) := by
  intro a0 a1 a2 k
  have ih0 := impl_fairLasso.mono_g k
  unfold impl_fairLasso.f
  repeat' with_reducible first | apply ih0 | apply impl_meeting.mono | apply impl_leastWay.mono | apply impl_parts.mono | apply impl_inside.mono | exact LeO.refl _ | exact LeO.none _ | apply LeO.ite | refine LeO.bind ?_ fun _ => ?_
theorem impl_fairLasso.calls (k : Nat) (A0 : Option Addr) (c0 : Nat) (l0 : List (List Int)) (A1 : Option Addr) (c1 : Nat) (l1 : List Int) (A2 : Option Addr) (c2 : Nat) (l2 : List (List Int)) (r1 : List Int) (r2 : List Int) (r3 : Bool) (w : World) (hr0 : Kd.C (Kd.slice 3 (Kd.int .i64)) w A0 l0.length l0) (hc0 : l0.length ≤ c0) (hr1 : Kd.C (Kd.int .i64) w A1 l1.length l1) (hc1 : l1.length ≤ c1) (hr2 : Kd.C (Kd.slice 3 (Kd.int .i64)) w A2 l2.length l2) (hc2 : l2.length ≤ c2) (h : impl_fairLasso.f k l0 l1 l2 = some (r1, r2, r3)) :
  Calls Try.prog 44 #[.slice A0 l0.length c0, .slice A1 l1.length c1, .slice A2 l2.length c2] w fun e w' => ∃ v0_ v1_ : Value, e = .returned (.tuple #[v0_, v1_, .bool r3]) ∧ Kd.R (Kd.int .i64) 3 w' w.heap.size (fun k_ => some k_ ≠ (v1_ : Value).ownBlock) v0_ r1 ∧ Kd.R (Kd.int .i64) 3 w' w.heap.size (fun k_ => some k_ ≠ (v0_ : Value).ownBlock) v1_ r2 ∧ Below w.heap.size w w' := by
  exact impl_fairLasso.calls_ k A0 c0 l0 A1 c1 l1 A2 c2 l2 r1 r2 r3 w hr0 hc0 hr1 hc1 hr2 hc2 h
def impl_FairLasso.f (k : Nat) (l0_0 : List (List Int)) (l1 : List Int) (l2 : List (List Int)) : Option (List Int × List Int × Bool) := (impl_isGraphFrom.f k l0_0 l1).bind fun t459 => (if t459 = true then ((impl_areGoals.f k l2 (l0_0.length : Int)).bind fun t460 => (if t460 = true then ((impl_fairLasso.f k l0_0 l1 l2).bind fun bt461 => (some (bt461.1, bt461.2.1, bt461.2.2))) else (some (([] : List Int), ([] : List Int), false)))) else (some (([] : List Int), ([] : List Int), false)))
theorem impl_FairLasso.mono : ∀ a0 a1 a2 k, LeO (impl_FairLasso.f k a0 a1 a2) (impl_FairLasso.f (k + 1) a0 a1 a2) := by
 intro a0 a1 a2 k
 unfold impl_FairLasso.f
 repeat' with_reducible first | apply impl_areGoals.mono | apply impl_fairLasso.mono | apply impl_isGraphFrom.mono | exact LeO.refl _ | exact LeO.none _ | apply LeO.ite | refine LeO.bind ?_ fun _ => ?_
theorem impl_FairLasso.calls (k : Nat) (A0_0 : Option Addr) (c0_0 : Nat) (l0_0 : List (List Int)) (A1 : Option Addr) (c1 : Nat) (l1 : List Int) (A2 : Option Addr) (c2 : Nat) (l2 : List (List Int)) (r1 : List Int) (r2 : List Int) (r3 : Bool) (w : World) (hr0_0 : Kd.C (Kd.slice 3 (Kd.int .i64)) w A0_0 l0_0.length l0_0) (hc0_0 : l0_0.length ≤ c0_0) (hr1 : Kd.C (Kd.int .i64) w A1 l1.length l1) (hc1 : l1.length ≤ c1) (hr2 : Kd.C (Kd.slice 3 (Kd.int .i64)) w A2 l2.length l2) (hc2 : l2.length ≤ c2) (h : impl_FairLasso.f k l0_0 l1 l2 = some (r1, r2, r3)) :
  Calls Try.prog 26 #[.agg #[.slice A0_0 l0_0.length c0_0], .slice A1 l1.length c1, .slice A2 l2.length c2] w fun e w' => ∃ v0_ v1_ : Value, e = .returned (.tuple #[v0_, v1_, .bool r3]) ∧ Kd.R (Kd.int .i64) 3 w' w.heap.size (fun k_ => some k_ ≠ (v1_ : Value).ownBlock) v0_ r1 ∧ Kd.R (Kd.int .i64) 3 w' w.heap.size (fun k_ => some k_ ≠ (v0_ : Value).ownBlock) v1_ r2 ∧ Below w.heap.size w w' := by
 have hu29 := Try.underlying29
 have HR0_0 := am_ hr0_0
 have HC0_0 := am_ hc0_0
 clear hr0_0 hc0_0
 have HR1 := am_ hr1
 have HC1 := am_ hc1
 clear hr1 hc1
 have HR2 := am_ hr2
 have HC2 := am_ hc2
 clear hr2 hc2
 have HB := am_ (Below.refl w.heap.size w)
 have H := h
 clear h
 unfold impl_FairLasso.f at H
 obtain ⟨t459, A4, H⟩ := Sh.ba H
 by_cases c5 : t459 = true
 ·subst c5
  rw [if_pos rfl] at H
  obtain ⟨t460, A6, H⟩ := Sh.ba H
  by_cases c7 : t460 = true
  ·subst c7
   rw [if_pos rfl] at H
   obtain ⟨⟨t461, t462, t463⟩, A80, H⟩ := Sh.bd H
   have A8 := am_ A80
   clear A80
   simp only [Option.some.injEq, Prod.mk.injEq] at H
   obtain ⟨rfl, rfl, rfl⟩ := H
   go_enter Try.func26, Try.ntmps26
   go_wp2_with (first | ((with_reducible refine Sh.d 3 ?_); (try (refine gate_guard (by rfl) ?_; dsimp only)); refine Sh.bz w (N := 3) (cs := #[.slice A0_0 l0_0.length c0_0]) (t := 29) (h := ?_); clear HB; intro gb458 w9 BK458 GE458 HB; have hcz10_0 := Sh.bc BK458.out 0; have hfz10_0 := blk_frozen BK458.out 0) | ((with_reducible refine Sh.k 43 ?_); refine Sh.gB (some 11) Try.func43 #[.agg #[.slice A0_0 l0_0.length c0_0], .slice A1 l1.length c1] (impl_isGraphFrom.calls k _ _ l0_0 _ _ l1 true _ (Sh.cB HR0_0.out) HC0_0.out (Sh.cB HR1.out) HC1.out A4.out) fun w11 hb => ?_; replace BK458 := Sh.ab BK458 hb; replace HB := Sh.hb hb; (try clear hb); (try clear hk); (try clear hi); have hcz12_0 := Sh.bc BK458.out 0; have hfz12_0 := blk_frozen BK458.out 0) | (go_at_call 39; (with_reducible refine (impl_areGoals.calls k _ _ l2 (l0_0.length : Int) true _ (Sh.cB HR2.out) HC2.out A6.out).mono ?_); rintro e w13 ⟨rfl, hb⟩; replace BK458 := Sh.ab BK458 hb; replace HB := Sh.hb hb; (try clear hb); have hcz14_0 := Sh.bc BK458.out 0; have hfz14_0 := blk_frozen BK458.out 0) | ((with_reducible refine Sh.k 44 ?_); refine Sh.gL (some 25) Try.func44 #[.slice A0_0 l0_0.length c0_0, .slice A1 l1.length c1, .slice A2 l2.length c2] (h := ?_); (with_reducible refine (impl_fairLasso.calls k _ _ l0_0 _ _ l1 _ _ l2 t461 t462 t463 _ (Sh.cB HR0_0.out) HC0_0.out (Sh.cB HR1.out) HC1.out (Sh.cB HR2.out) HC2.out A8.out).mono ?_); rintro e w15 ⟨v464, v466, rfl, ho0, ho1, hb⟩; refine ⟨_, rfl, ?_⟩; have HO465 := am_ (Kd.R_lower ho0 (below_size Sh.bw)); have HO467 := am_ (Kd.R_lower ho1 (below_size Sh.bw)); replace BK458 := Sh.ab BK458 hb; replace HB := Sh.hb hb; (try clear hb); (try clear ho0); (try clear ho1)))
   go_ret3
   exact ⟨_, _, by first | rfl | (simp [errW_none, errW_some] <;> rfl) | (simp [*, errW_none, errW_some] <;> rfl), Sh.rl HO465.out, Sh.rl HO467.out, Sh.bw⟩
  ·replace c7 := Bool.eq_false_iff.mpr c7
   subst c7
   rw [Sh.nf] at H
   simp only [Option.some.injEq, Prod.mk.injEq] at H
   obtain ⟨rfl, rfl, rfl⟩ := H
   go_enter Try.func26, Try.ntmps26
   go_wp2_with (first | ((with_reducible refine Sh.d 3 ?_); (try (refine gate_guard (by rfl) ?_; dsimp only)); refine Sh.bz w (N := 3) (cs := #[.slice A0_0 l0_0.length c0_0]) (t := 29) (h := ?_); clear HB; intro gb458 w16 BK458 GE458 HB; have hcz17_0 := Sh.bc BK458.out 0; have hfz17_0 := blk_frozen BK458.out 0) | ((with_reducible refine Sh.k 43 ?_); refine Sh.gB (some 11) Try.func43 #[.agg #[.slice A0_0 l0_0.length c0_0], .slice A1 l1.length c1] (impl_isGraphFrom.calls k _ _ l0_0 _ _ l1 true _ (Sh.cB HR0_0.out) HC0_0.out (Sh.cB HR1.out) HC1.out A4.out) fun w18 hb => ?_; replace BK458 := Sh.ab BK458 hb; replace HB := Sh.hb hb; (try clear hb); have hcz19_0 := Sh.bc BK458.out 0; have hfz19_0 := blk_frozen BK458.out 0) | (go_at_call 39; (with_reducible refine (impl_areGoals.calls k _ _ l2 (l0_0.length : Int) false _ (Sh.cB HR2.out) HC2.out A6.out).mono ?_); rintro e w20 ⟨rfl, hb⟩; replace BK458 := Sh.ab BK458 hb; replace HB := Sh.hb hb; (try clear hb)))
   go_ret3
   exact ⟨_, _, by first | rfl | (simp [errW_none, errW_some] <;> rfl) | (simp [*, errW_none, errW_some] <;> rfl), by first | exact Kd.R_nil _ _ _ _ _ | exact Kd.N_nil _ _ _ _ _ | exact Kd.V_nil _ _ _ _ _ | exact Kd.Q_nil _ _ _ _ _ | exact Kd.S_nil _ _ _ _ _, by first | exact Kd.R_nil _ _ _ _ _ | exact Kd.N_nil _ _ _ _ _ | exact Kd.V_nil _ _ _ _ _ | exact Kd.Q_nil _ _ _ _ _ | exact Kd.S_nil _ _ _ _ _, Sh.bw⟩
 ·replace c5 := Bool.eq_false_iff.mpr c5
  subst c5
  rw [Sh.nf] at H
  simp only [Option.some.injEq, Prod.mk.injEq] at H
  obtain ⟨rfl, rfl, rfl⟩ := H
  go_enter Try.func26, Try.ntmps26
  go_wp2_with (first | ((with_reducible refine Sh.d 3 ?_); (try (refine gate_guard (by rfl) ?_; dsimp only)); refine Sh.bz w (N := 3) (cs := #[.slice A0_0 l0_0.length c0_0]) (t := 29) (h := ?_); clear HB; intro gb458 w21 BK458 GE458 HB; have hcz22_0 := Sh.bc BK458.out 0; have hfz22_0 := blk_frozen BK458.out 0) | ((with_reducible refine Sh.k 43 ?_); refine Sh.gB (some 11) Try.func43 #[.agg #[.slice A0_0 l0_0.length c0_0], .slice A1 l1.length c1] (impl_isGraphFrom.calls k _ _ l0_0 _ _ l1 false _ (Sh.cB HR0_0.out) HC0_0.out (Sh.cB HR1.out) HC1.out A4.out) fun w23 hb => ?_; replace BK458 := Sh.ab BK458 hb; replace HB := Sh.hb hb; (try clear hb)))
  go_ret3
  exact ⟨_, _, by first | rfl | (simp [errW_none, errW_some] <;> rfl) | (simp [*, errW_none, errW_some] <;> rfl), by first | exact Kd.R_nil _ _ _ _ _ | exact Kd.N_nil _ _ _ _ _ | exact Kd.V_nil _ _ _ _ _ | exact Kd.Q_nil _ _ _ _ _ | exact Kd.S_nil _ _ _ _ _, by first | exact Kd.R_nil _ _ _ _ _ | exact Kd.N_nil _ _ _ _ _ | exact Kd.V_nil _ _ _ _ _ | exact Kd.Q_nil _ _ _ _ _ | exact Kd.S_nil _ _ _ _ _, Sh.bw⟩
end Go.Proofs.Ytnfpolhpanpeiaa.P
