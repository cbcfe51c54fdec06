
/- The pure statement of the law FnCompared: what the printed functions compute makes the law true, for every input. No condition. -/
import Derived.Test.YtejlobcjgbeeaaaOpen
import Derived.Test.YtejlobcjgbeeaaaAid
import Derived.Test.YtejlobcjgbeeaaaMFnCompared5
set_option linter.unusedVariables false
set_option linter.unusedSimpArgs false
namespace Go.Proofs.Ytejlobcjgbeeaaa.Pure
open Go.RowKit Go.Proofs.YtejlobcjgbeeaaaW.PrintWords Go.Proofs.Ytejlobcjgbeeaaa.P Go.Proofs.Ytejlobcjgbeeaaa.Hof Go.Proofs.Ytejlobcjgbeeaaa.Open Go.Proofs.Ytejlobcjgbeeaaa.Aid
-- LEMMAS
theorem big_eq (a b : List Int) (ha : a.length ≤ 9223372036854775807) (hb : b.length ≤ 9223372036854775807) : laws_big.f a b = some (decide (¬ (a.length + b.length ≤ 1048576))) := by
 unfold laws_big.f
 by_cases h : (a.length : Int) > 1048576
 ·rw [if_pos h, decide_eq_true (by omega)]
 ·rw [if_neg h, wid (by omega) (by omega)]
  congr 1
  rw [decide_eq_decide]; omega
theorem sameInts_l0 (l : List Int) (hl : l.length ≤ 9223372036854775807) (d : Nat) : ∀ (j : Nat), j + d = l.length → Ev (fun k => laws_sameInts.l0 k l l (l.length : Int) (j : Int)) true := by
 induction d with
 | zero => exact fun j hd => Ev.step (f := fun _ => some true) (fun k => by simp only [laws_sameInts.l0]; rw [if_neg (by omega)]) (Ev.now _)
 | succ d ih => exact fun j hd => Ev.step (fun k => by simp only [laws_sameInts.l0]; rw [if_pos (by omega), if_pos (by omega), if_pos (by omega), if_pos (by omega), if_pos trivial, wsucc (by omega)]) (ih (j + 1) (by omega))
theorem sameInts_ev (l : List Int) (hl : l.length ≤ 9223372036854775807) : Ev (fun k => laws_sameInts.f k l l) true :=
 Ev.congr (fun k => by simp only [laws_sameInts.f, if_true]; rfl) (sameInts_l0 l hl l.length 0 (by omega))
theorem sameCircuit_l0 (ins : Int) (gs : List S66) (os : List Int) (hl : gs.length ≤ 9223372036854775807) (d : Nat) : ∀ (j : Nat), j + d = gs.length → Ev (fun k => laws_sameCircuit.l0 k (gs.length : Int) (j : Int) ins gs os ins gs os) true := by
 induction d with
 | zero => exact fun j hd => Ev.step (f := fun _ => some true) (fun k => by simp only [laws_sameCircuit.l0]; rw [if_neg (by omega)]) (Ev.now _)
 | succ d ih => exact fun j hd => Ev.step (fun k => by simp only [laws_sameCircuit.l0]; rw [if_pos (by omega), if_pos (by omega), if_pos (by omega), if_pos (by omega), if_neg (by simp), wsucc (by omega)]) (ih (j + 1) (by omega))
theorem sameCircuit_ev (ins : Int) (gs : List S66) (os : List Int) (hl : gs.length ≤ 9223372036854775807) (ho : os.length ≤ 9223372036854775807) : Ev (fun k => laws_sameCircuit.f k ins gs os ins gs os) true := by
 refine ev_pos rfl (ev_pos rfl (Ev.bind (sameInts_ev os ho) ?_))
 exact Ev.step (fun k => by rw [laws_sameCircuit.j0, if_neg (by simp)]; rfl) (sameCircuit_l0 ins gs os hl gs.length 0 (by omega))
theorem numberOf_l0 (l : List Int) (hl : l.length ≤ 1048576 ∧ ∀ x ∈ l, InU8 x) (d : Nat) : ∀ (j : Nat) (x : Int), j + d = l.length → 0 ≤ x → x < 1000003 → ∃ r, Ev (fun k => laws_numberOf.l0 k x l (l.length : Int) (j : Int)) r ∧ 0 ≤ r ∧ r < 1000003 := by
 induction d with
 | zero =>
  intro j x hj h0 h1
  exact ⟨x, Ev.step (f := fun _ => some x) (fun k => by simp only [laws_numberOf.l0]; rw [if_neg (by omega)]) (Ev.now _), h0, h1⟩
 | succ d ih =>
  intro j x hj h0 h1
  have hm := hl.2 _ (getD_mem (l := l) (j := j) (by omega) 0)
  have hm1 := hm.1; have hm2 := hm.2
  obtain ⟨r, hr, h2, h3⟩ := ih (j + 1) ((31 * x + l.getD j 0).tmod 1000003) (by omega) (by rw [Int.tmod_eq_emod_of_nonneg (by omega)]; omega) (by rw [Int.tmod_eq_emod_of_nonneg (by omega)]; omega)
  refine ⟨r, ?_, h2, h3⟩
  exact Ev.step (fun k => by simp only [laws_numberOf.l0]; rw [if_pos (by omega), if_pos (by omega), if_pos (by omega), rd_nat, wid (x := l.getD j 0) (by omega) (by omega), wid (x := 31 * x) (by omega) (by omega), wid (by omega) (by omega), wsucc (by omega)]) hr
theorem numberOf_ex (l : List Int) (hl : l.length ≤ 1048576 ∧ ∀ x ∈ l, InU8 x) : ∃ r, Ev (fun k => laws_numberOf.f k l) r ∧ 0 ≤ r ∧ r < 1000003 := numberOf_l0 l hl l.length 0 0 (by omega) (by omega) (by omega)
theorem wu (x : Int) : IntKind.u64.wrap x = x % 18446744073709551616 := IntKind.wrap_u64 x
theorem wu_in (x : Int) : 0 ≤ IntKind.u64.wrap x ∧ IntKind.u64.wrap x < 18446744073709551616 := by rw [wu]; omega
theorem two_dvd {n : Nat} (h : n ≤ 64) : ((2 : Int) ^ n) ∣ 18446744073709551616 := ⟨2 ^ (64 - n), by rw [← Int.pow_add, show n + (64 - n) = 64 by omega]; rfl⟩
theorem two_le {n : Nat} (h : n ≤ 64) : ((2 : Int) ^ n) ≤ 18446744073709551616 := Int.le_of_dvd (by decide) (two_dvd h)
theorem two_nat (n : Nat) : ((2 ^ n : Nat) : Int) = (2 : Int) ^ n := by simp
theorem and_mask (a : Int) (n : Nat) (hn : n ≤ 64) (h0 : 0 ≤ a) (h1 : a < 18446744073709551616) : Go.bits .and .u64 a (2 ^ n - 1) = a % 2 ^ n := by
 obtain ⟨m, rfl⟩ := Int.eq_ofNat_of_zero_le h0
 have h2 : (2 ^ n : Nat) ≤ 18446744073709551616 := by have := two_le hn; rw [← two_nat] at this; omega
 have h3 : 0 < (2 ^ n : Nat) := Nat.two_pow_pos n
 rw [show (2 : Int) ^ n - 1 = ((2 ^ n - 1 : Nat) : Int) by rw [← two_nat]; omega, bits_and_u64_nat _ _ (by omega) (by omega), Nat.and_two_pow_sub_one_eq_mod, ← two_nat]
 rfl
def wordv : List Bool → Nat
 | [] => 0
 | b :: t => b.toNat + 2 * wordv t
theorem wordv_lt : ∀ l : List Bool, wordv l < 2 ^ l.length
 | [] => by simp [wordv]
 | b :: t => by
  have h := wordv_lt t
  simp only [wordv, List.length_cons, Nat.pow_succ]
  cases b <;> simp <;> omega
theorem wordv_snoc : ∀ (l : List Bool) (b : Bool), wordv (l ++ [b]) = wordv l + b.toNat * 2 ^ l.length
 | [], b => by simp [wordv]
 | c :: t, b => by
  simp only [List.cons_append, wordv, wordv_snoc t b, List.length_cons, Nat.pow_succ]
  cases b <;> simp <;> omega
def GateOk (g : S66) (own : Int) : Prop := (g.f0 = 1 ∧ 0 ≤ g.f1 ∧ g.f1 ≤ 1 ∧ g.f2 = 0) ∨ (g.f0 = 2 ∧ 0 ≤ g.f1 ∧ g.f1 < own ∧ g.f2 = 0) ∨ ((g.f0 = 3 ∨ g.f0 = 4 ∨ g.f0 = 5) ∧ 0 ≤ g.f1 ∧ g.f1 < own ∧ 0 ≤ g.f2 ∧ g.f2 < own)
def GoodC (ins : Int) (gs : List S66) (os : List Int) : Prop := (0 ≤ ins ∧ ins ≤ 16) ∧ gs.length ≤ 300 ∧ os.length ≤ 16 ∧ (∀ k, k < gs.length → GateOk (gs.getD k z66) (ins + (k : Int))) ∧ ∀ w ∈ os, 0 ≤ w ∧ w < ins + (gs.length : Int)
def Wires (n : Int) (l : List Int) : Prop := ∀ w ∈ l, 0 ≤ w ∧ w < n
def wv (v : List Bool) (w : Int) : Bool := v.getD w.toNat false
def gateV (v : List Bool) (g : S66) : Bool := if g.f0 = 2 then !(wv v g.f1) else if g.f0 = 3 then wv v g.f1 && wv v g.f2 else if g.f0 = 4 then wv v g.f1 || wv v g.f2 else if g.f0 = 5 then (wv v g.f1 != wv v g.f2) else g.f1 == 1
def runC (v : List Bool) (gs : List S66) : List Bool := gs.foldl (fun v g => v ++ [gateV v g]) v
theorem runC_cons (v : List Bool) (g : S66) (gs : List S66) : runC v (g :: gs) = runC (v ++ [gateV v g]) gs := rfl
theorem runC_nil (v : List Bool) : runC v [] = v := rfl
theorem runC_append (v : List Bool) (gs hs : List S66) : runC v (gs ++ hs) = runC (runC v gs) hs := List.foldl_append
theorem runC_len : ∀ (gs : List S66) (v : List Bool), (runC v gs).length = v.length + gs.length
 | [], v => rfl
 | g :: gs, v => by rw [runC_cons, runC_len gs]; simp; omega
theorem wv_append {v u : List Bool} {w : Int} (h0 : 0 ≤ w) (h : w < (v.length : Int)) : wv (v ++ u) w = wv v w := by
 unfold wv
 rw [List.getD_eq_getElem?_getD, List.getD_eq_getElem?_getD, List.getElem?_append_left (by omega)]
theorem wv_last (v : List Bool) (b : Bool) {w : Int} (h : w = (v.length : Int)) : wv (v ++ [b]) w = b := by
 subst h
 unfold wv
 rw [Int.toNat_natCast, List.getD_eq_getElem?_getD]; simp
theorem wv_run : ∀ (gs : List S66) (v : List Bool) {w : Int}, 0 ≤ w → w < (v.length : Int) → wv (runC v gs) w = wv v w
 | [], v, w, h0, h => rfl
 | g :: gs, v, w, h0, h => by rw [runC_cons, wv_run gs _ h0 (by simp; omega), wv_append h0 h]
def num (v : List Bool) (ws : List Int) : Nat := wordv (ws.map (wv v))
theorem num_run {gs : List S66} {v : List Bool} {ws : List Int} (h : Wires (v.length : Int) ws) : num (runC v gs) ws = num v ws := by
 unfold num
 rw [List.map_congr_left (fun w hw => wv_run gs v (h w hw).1 (h w hw).2)]
theorem num_append {v u : List Bool} {ws : List Int} (h : Wires (v.length : Int) ws) : num (v ++ u) ws = num v ws := by
 unfold num
 rw [List.map_congr_left (fun w hw => wv_append (h w hw).1 (h w hw).2)]
theorem l1In_eq (n lo hi : Int) : spec_l1In.f n lo hi = some (decide (lo ≤ n ∧ n ≤ hi)) := by
 simp only [spec_l1In.f]
 by_cases h : n ≥ lo
 ·rw [if_pos h]; congr 1; simp; intro _; exact h
 ·rw [if_neg h]; congr 1; simp; intro h'; omega
theorem l1In_tells (n lo hi : Int) : Tells (fun _ => spec_l1In.f n lo hi) (lo ≤ n ∧ n ≤ hi) := by
 simp only [l1In_eq]; exact tells_some (by simp)
theorem l1All_l0 (l : List Int) (lo hi : Int) (hl : l.length ≤ 9223372036854775807) (d : Nat) : ∀ (j : Nat), j + d = l.length →
  Tells (fun k => spec_l1All.l0 k lo hi l (l.length : Int) (j : Int)) (∀ x ∈ l.drop j, lo ≤ x ∧ x ≤ hi) := by
 induction d with
 | zero => exact fun j hd => tells_step (f := fun _ => some true) (fun k => by simp only [spec_l1All.l0]; rw [if_neg (by omega)]) (tells_yes (by rw [List.drop_of_length_le (by omega)]; simp))
 | succ d ih =>
  intro j hd
  have hj : j < l.length := by omega
  refine tells_step (fun k => by simp only [spec_l1All.l0]; rw [if_pos (by omega), if_pos (by omega), if_pos (by omega), wsucc (by omega), rd_nat]) ?_
  rw [drop_cons hj 0]
  refine tells_ask (l1In_tells _ lo hi) (fun hin => tells_pos rfl ?_) (fun hin => tells_neg (by simp) (tells_no (fun h => hin (h _ (by simp)))))
  exact tells_iff (ih (j + 1) (by omega)) ⟨fun h x hx => by
   rcases List.mem_cons.1 hx with rfl | hx
   ·exact hin
   ·exact h x hx, fun h x hx => h x (by simp [hx])⟩
theorem l1All_tells (l : List Int) (lo hi : Int) (hl : l.length ≤ 9223372036854775807) : Tells (fun k => spec_l1All.f k l lo hi) (∀ x ∈ l, lo ≤ x ∧ x ≤ hi) := by
 have := l1All_l0 l lo hi hl l.length 0 (by omega)
 rwa [List.drop_zero] at this
theorem l1Own_eq (l : List Int) (h : l.length ≤ 1048576) : spec_l1Own.f l = some l := by
 simp only [spec_l1Own.f, Option.bind_some, List.nil_append, List.length_nil]
 rw [if_pos (by omega)]
theorem rdg (gs : List S66) (j : Nat) : rd_T66 gs (j : Int) = gs.getD j z66 := by simp [rd_T66]
theorem areWiresBelow_tells (l : List Int) (n : Int) : Tells (fun _ => impl_areWiresBelow.f l n) (Wires n l) := by
 have hA : Tells (fun _ => slices_ContainsFunc_int_int_by_impl_areWiresBelow_1.f l n) (∃ w ∈ l, ¬ (0 ≤ w ∧ w < n)) := anyO_tells l (fun w _ => by
  simp only [impl_areWiresBelow_1.f]
  exact tells_if (fun h => tells_yes (by omega)) (fun h => tells_some (by simp; omega)))
 refine tells_ask hA (fun h => tells_no ?_) (fun h => tells_yes (fun w hw => Classical.byContradiction (fun g => h ⟨w, hw, g⟩)))
 obtain ⟨w, hw, h⟩ := h
 exact fun g => h (g w hw)
theorem uses_tells (g : S66) (own : Int) (h1 : 1 ≤ g.f0) (h5 : g.f0 ≤ 5) (h2 : (g.f0 = 1 ∧ 0 ≤ g.f1 ∧ g.f1 ≤ 1 ∧ g.f2 = 0) ∨ (g.f0 = 2 ∧ g.f2 = 0) ∨ 2 < g.f0) : Tells (fun k => impl_isGate.j2 k own false g.f0 g.f1 g.f2) (GateOk g own) := by
 obtain ⟨ws, e, hw⟩ : ∃ ws, impl_Gate_uses.f g.f0 g.f1 g.f2 = some ws ∧ (Wires own ws ↔ GateOk g own) := by
  unfold impl_Gate_uses.f
  by_cases k1 : g.f0 = 1
  ·rw [if_pos k1]; exact ⟨_, rfl, by unfold Wires GateOk; simp; omega⟩
  ·rw [if_neg k1]
   by_cases k2 : g.f0 = 2
   ·rw [if_pos k2]; exact ⟨_, rfl, by unfold Wires GateOk; simp; omega⟩
   ·rw [if_neg k2]; exact ⟨_, rfl, by unfold Wires GateOk; simp; omega⟩
 refine tells_step (fun k => by rw [impl_isGate.j2, if_neg (by simp), e, Option.bind_some]) ?_
 obtain ⟨b, hb, hi⟩ := areWiresBelow_tells ws own
 exact ⟨b, Ev.bind hb (Ev.now _), hi.trans hw⟩
theorem isGate_tells (g : S66) (own : Int) : Tells (fun k => impl_isGate.f k g.f0 g.f1 g.f2 own) (GateOk g own) := by
 have no0 : ∀ {Q : Prop}, ¬ Q → Tells (fun k => impl_isGate.j0 k own true g.f0 g.f1 g.f2) Q := fun h => tells_step (f := fun _ => some false) (fun k => by simp only [impl_isGate.j0, if_true]) (tells_no h)
 have no1 : ∀ {Q : Prop}, ¬ Q → Tells (fun k => impl_isGate.j1 k own true g.f0 g.f1 g.f2) Q := fun h => tells_step (f := fun _ => some false) (fun k => by simp only [impl_isGate.j1, if_true]) (tells_no h)
 have no2 : ∀ {Q : Prop}, ¬ Q → Tells (fun k => impl_isGate.j2 k own true g.f0 g.f1 g.f2) Q := fun h => tells_step (f := fun _ => some false) (fun k => by simp only [impl_isGate.j2, if_true]) (tells_no h)
 refine tells_if (fun h => no0 (fun c => by unfold GateOk at c; omega)) (fun h1 => ?_)
 by_cases h2 : g.f0 > 5
 ·exact tells_congr (fun k => by rw [decide_eq_true h2]) (no0 (fun c => by unfold GateOk at c; omega))
 refine tells_step (fun k => by rw [decide_eq_false h2, impl_isGate.j0, if_neg (by simp)]) ?_
 refine tells_if (fun k1 => tells_if (fun h => no1 (fun c => by unfold GateOk at c; omega)) (fun h3 => ?_)) (fun k1 => ?_)
 ·by_cases h4 : g.f1 > 1
  ·exact tells_congr (fun k => by rw [decide_eq_true h4]) (no1 (fun c => by unfold GateOk at c; omega))
  refine tells_step (fun k => by rw [decide_eq_false h4, impl_isGate.j1, if_neg (by simp), if_pos (by omega)]) ?_
  by_cases h6 : g.f2 = 0
  ·exact tells_congr (fun k => by rw [h6]) (uses_tells g own (by omega) (by omega) (.inl ⟨k1, by omega, by omega, h6⟩) |> fun h => by rw [h6] at h; exact h)
  ·exact tells_congr (fun k => by rw [bne_iff_ne.2 h6]) (no2 (fun c => by unfold GateOk at c; omega))
 ·refine tells_step (fun k => by rw [impl_isGate.j1, if_neg (by simp)]) ?_
  refine tells_if (fun k2 => ?_) (fun k2 => uses_tells g own (by omega) (by omega) (.inr (.inr (by omega))))
  by_cases h6 : g.f2 = 0
  ·exact tells_congr (fun k => by rw [h6]) (uses_tells g own (by omega) (by omega) (.inr (.inl ⟨by omega, h6⟩)) |> fun h => by rw [h6] at h; exact h)
  ·exact tells_congr (fun k => by rw [bne_iff_ne.2 h6]) (no2 (fun c => by unfold GateOk at c; omega))
theorem l4Gate_tells (g : S66) (own : Int) (ho : -1000000 ≤ own ∧ own ≤ 1000000) : Tells (fun k => spec_l4Gate.f k g.f0 g.f1 g.f2 own) (GateOk g own) := by
 have w : wrap64 (own - 1) = own - 1 := wid (by omega) (by omega)
 have two : (g.f0 = 3 ∨ g.f0 = 4 ∨ g.f0 = 5) → Tells (fun k => spec_l4Gate.j0 k own true g.f0 g.f1 g.f2) (GateOk g own) := fun h => by
  refine tells_step (fun k => by rw [spec_l4Gate.j0, if_pos rfl, w]) ?_
  refine tells_ask (l1In_tells _ 0 (own - 1)) (fun h1 => tells_pos rfl ?_) (fun h1 => tells_neg (by simp) (tells_no (fun c => by unfold GateOk at c; omega)))
  exact tells_ask (l1In_tells _ 0 (own - 1)) (fun h2 => tells_yes (by unfold GateOk; omega)) (fun h2 => tells_no (fun c => by unfold GateOk at c; omega))
 refine tells_if (fun k1 => ?_) (fun k1 => tells_if (fun k2 => ?_) (fun k2 => tells_if (fun k3 => ?_) (fun k3 => tells_if (fun k4 => ?_) (fun k4 => ?_))))
 ·refine tells_ask (l1In_tells _ 0 1) (fun h1 => tells_pos rfl (tells_some ?_)) (fun h1 => tells_neg (by simp) (tells_no (fun c => by unfold GateOk at c; omega)))
  rw [beq_iff_eq]; unfold GateOk; omega
 ·rw [w]
  refine tells_ask (l1In_tells _ 0 (own - 1)) (fun h1 => tells_pos rfl (tells_some ?_)) (fun h1 => tells_neg (by simp) (tells_no (fun c => by unfold GateOk at c; omega)))
  rw [beq_iff_eq]; unfold GateOk; omega
 ·exact tells_congr (fun k => by rw [k3]) (by have := two (by omega); rw [k3] at this; exact this)
 ·exact tells_congr (fun k => by rw [k4]) (by have := two (by omega); rw [k4] at this; exact this)
 ·by_cases k5 : g.f0 = 5
  ·exact tells_congr (fun k => by rw [k5]) (by have := two (by omega); rw [k5] at this; exact this)
  ·refine tells_step (f := fun _ => some false) (fun k => by rw [beq_eq_false_iff_ne.2 k5, spec_l4Gate.j0, if_neg (by simp)]) (tells_no (fun c => by unfold GateOk at c; omega))
theorem wires_eq (ins : Int) (gs : List S66) (os : List Int) (h : -1000000 ≤ ins ∧ ins ≤ 1000000) (hg : gs.length ≤ 1000000) : impl_Circuit_wires.f ins gs os = some (ins + (gs.length : Int)) := by
 unfold impl_Circuit_wires.f; rw [wid (by omega) (by omega)]
theorem l4Wires_eq (ins : Int) (gs : List S66) (os : List Int) (h : -1000000 ≤ ins ∧ ins ≤ 1000000) (hg : gs.length ≤ 1000000) : spec_l4Wires.f ins gs os = some (ins + (gs.length : Int)) := by
 unfold spec_l4Wires.f; rw [wid (by omega) (by omega)]
theorem goods_step {gs : List S66} {ins : Int} {j : Nat} (hj : j < gs.length) : (GateOk (gs.getD j z66) (ins + (j : Int)) ∧ ∀ k, j + 1 ≤ k → k < gs.length → GateOk (gs.getD k z66) (ins + (k : Int))) ↔ ∀ k, j ≤ k → k < gs.length → GateOk (gs.getD k z66) (ins + (k : Int)) :=
 ⟨fun h k h1 h2 => by
  rcases Nat.eq_or_lt_of_le h1 with h3 | h3
  ·subst h3; exact h.1
  ·exact h.2 k h3 h2, fun h => ⟨h j (Nat.le_refl _) hj, fun k h1 h2 => h k (by omega) h2⟩⟩
theorem GoodCircuit_l0 (ins : Int) (gs : List S66) (os : List Int) (hi : 0 ≤ ins ∧ ins ≤ 16) (hg : gs.length ≤ 300) (d : Nat) : ∀ (j : Nat), j + d = gs.length →
  Tells (fun k => impl_GoodCircuit.l0 k gs (gs.length : Int) (j : Int) ins gs os) ((∀ k, j ≤ k → k < gs.length → GateOk (gs.getD k z66) (ins + (k : Int))) ∧ Wires (ins + (gs.length : Int)) os) := by
 induction d with
 | zero =>
  intro j hd
  refine tells_step (fun k => by simp only [impl_GoodCircuit.l0]; rw [if_neg (by omega), wires_eq ins gs os (by omega) (by omega), Option.bind_some]) ?_
  obtain ⟨b, hb, hi⟩ := areWiresBelow_tells os (ins + (gs.length : Int))
  exact ⟨b, Ev.bind hb (Ev.now _), hi.trans ⟨fun h => ⟨fun k h1 h2 => by omega, h⟩, fun h => h.2⟩⟩
 | succ d ih =>
  intro j hd
  have hj : j < gs.length := by omega
  refine tells_step (fun k => by simp only [impl_GoodCircuit.l0]; rw [if_pos (by omega), if_pos (by omega), if_pos (by omega), rdg, wid (x := ins + (j : Int)) (by omega) (by omega), wsucc (by omega)]) ?_
  refine tells_ask (isGate_tells _ _) (fun h => tells_pos rfl ?_) (fun h => tells_neg (by simp) (tells_no (fun g => h (g.1 j (Nat.le_refl _) hj))))
  exact tells_iff (ih (j + 1) (by omega)) ⟨fun g => ⟨(goods_step hj).1 ⟨h, g.1⟩, g.2⟩, fun g => ⟨((goods_step hj).2 g.1).2, g.2⟩⟩
theorem impl_GoodCircuit_tells (ins : Int) (gs : List S66) (os : List Int) : Tells (fun k => impl_GoodCircuit.f k ins gs os) (GoodC ins gs os) := by
 have no0 : ∀ {Q : Prop}, ¬ Q → Tells (fun k => impl_GoodCircuit.j0 k true ins gs os) Q := fun h => tells_step (f := fun _ => some false) (fun k => by simp only [impl_GoodCircuit.j0, if_true]) (tells_no h)
 refine tells_if (fun h => no0 (fun c => by have := c.1; omega)) (fun h1 => tells_if (fun h => no0 (fun c => by have := c.1; omega)) (fun h2 => tells_if (fun h => no0 (fun c => by have := c.2.1; omega)) (fun h3 => ?_)))
 by_cases h4 : (os.length : Int) > 16
 ·exact tells_congr (fun k => by rw [decide_eq_true h4]) (no0 (fun c => by have := c.2.2.1; omega))
 refine tells_step (fun k => by rw [decide_eq_false h4, impl_GoodCircuit.j0, if_neg (by simp)]) ?_
 exact tells_iff (GoodCircuit_l0 ins gs os (by omega) (by omega) gs.length 0 (by omega)) ⟨fun g => ⟨by omega, by omega, by omega, fun k hk => g.1 k (by omega) hk, g.2⟩, fun g => ⟨fun k _ hk => g.2.2.2.1 k hk, g.2.2.2.2⟩⟩
theorem sGoodCircuit_l0 (ins : Int) (gs : List S66) (os : List Int) (hi : 0 ≤ ins ∧ ins ≤ 16) (hg : gs.length ≤ 300) (ho : os.length ≤ 16) (d : Nat) : ∀ (j : Nat), j + d = gs.length →
  Tells (fun k => spec_GoodCircuit.l0 k gs (gs.length : Int) (j : Int) ins gs os) ((∀ k, j ≤ k → k < gs.length → GateOk (gs.getD k z66) (ins + (k : Int))) ∧ Wires (ins + (gs.length : Int)) os) := by
 induction d with
 | zero =>
  intro j hd
  refine tells_step (fun k => by simp only [spec_GoodCircuit.l0]; rw [if_neg (by omega), l4Wires_eq ins gs os (by omega) (by omega), Option.bind_some, wid (by omega) (by omega)]) ?_
  obtain ⟨b, hb, hi⟩ := l1All_tells os 0 (ins + (gs.length : Int) - 1) (by omega)
  exact ⟨b, Ev.bind hb (Ev.now _), hi.trans ⟨fun h => ⟨fun k h1 h2 => by omega, fun w hw => by have := h w hw; omega⟩, fun h w hw => by have := h.2 w hw; omega⟩⟩
 | succ d ih =>
  intro j hd
  have hj : j < gs.length := by omega
  refine tells_step (fun k => by simp only [spec_GoodCircuit.l0]; rw [if_pos (by omega), if_pos (by omega), if_pos (by omega), rdg, wid (x := ins + (j : Int)) (by omega) (by omega), wsucc (by omega)]) ?_
  refine tells_ask (l4Gate_tells _ _ (by omega)) (fun h => tells_pos rfl ?_) (fun h => tells_neg (by simp) (tells_no (fun g => h (g.1 j (Nat.le_refl _) hj))))
  exact tells_iff (ih (j + 1) (by omega)) ⟨fun g => ⟨(goods_step hj).1 ⟨h, g.1⟩, g.2⟩, fun g => ⟨((goods_step hj).2 g.1).2, g.2⟩⟩
theorem spec_GoodCircuit_tells (ins : Int) (gs : List S66) (os : List Int) : Tells (fun k => spec_GoodCircuit.f k ins gs os) (GoodC ins gs os) := by
 have no0 : ∀ {Q : Prop}, ¬ Q → Tells (fun k => spec_GoodCircuit.j0 k true ins gs os) Q := fun h => tells_step (f := fun _ => some false) (fun k => by simp only [spec_GoodCircuit.j0, if_true]) (tells_no h)
 refine tells_ask (l1In_tells ins 0 16) (fun h1 => tells_pos rfl ?_) (fun h => tells_neg (by simp) (no0 (fun c => h c.1)))
 refine tells_if (fun h => no0 (fun c => by have := c.2.1; omega)) (fun h3 => ?_)
 by_cases h4 : (os.length : Int) > 16
 ·exact tells_congr (fun k => by rw [decide_eq_true h4]) (no0 (fun c => by have := c.2.2.1; omega))
 refine tells_step (fun k => by rw [decide_eq_false h4, spec_GoodCircuit.j0, if_neg (by simp)]) ?_
 exact tells_iff (sGoodCircuit_l0 ins gs os (by omega) (by omega) (by omega) gs.length 0 (by omega)) ⟨fun g => ⟨by omega, by omega, by omega, fun k hk => g.1 k (by omega) hk, g.2⟩, fun g => ⟨fun k _ hk => g.2.2.2.1 k hk, g.2.2.2.2⟩⟩
def ListsOk (ins : Int) (gs : List S66) (os a b : List Int) : Prop := GoodC ins gs os ∧ a.length = b.length ∧ a.length ≤ 16 ∧ Wires (ins + (gs.length : Int)) a ∧ Wires (ins + (gs.length : Int)) b
theorem areLists_tells (ins : Int) (gs : List S66) (os a b : List Int) : Tells (fun k => impl_areLists.f k ins gs os a b) (ListsOk ins gs os a b) := by
 refine tells_ask (impl_GoodCircuit_tells ins gs os) (fun hg => tells_pos rfl ?_) (fun h => tells_neg (by simp) (tells_no (fun c => h c.1)))
 have h1 := hg.1
 have h2 := hg.2.1
 refine tells_if (fun e => tells_if (fun l => ?_) (fun l => tells_no (fun c => by have := c.2.2.1; omega))) (fun e => tells_no (fun c => by have := c.2.1; omega))
 refine tells_congr (fun k => by rw [wires_eq ins gs os (by omega) (by omega), Option.bind_some]) ?_
 refine tells_ask (areWiresBelow_tells a _) (fun ha => tells_pos rfl ?_) (fun h => tells_neg (by simp) (tells_no (fun c => h c.2.2.2.1)))
 refine tells_congr (fun k => by rw [Option.bind_some]) ?_
 exact tells_ask (areWiresBelow_tells b _) (fun hb => tells_yes ⟨hg, by omega, by omega, ha, hb⟩) (fun h => tells_no (fun c => h c.2.2.2.2))
theorem all_wires (n : Int) (l : List Int) (hn : -1000000 ≤ n ∧ n ≤ 1000000) (hl : l.length ≤ 1000000) : Tells (fun k => spec_l1All.f k l 0 (wrap64 (n - 1))) (Wires n l) := by
 rw [wid (by omega) (by omega)]
 exact tells_iff (l1All_tells l 0 (n - 1) (by omega)) ⟨fun h w hw => by have := h w hw; omega, fun h w hw => by have := h w hw; omega⟩
theorem l4Lists_tells (ins : Int) (gs : List S66) (os a b : List Int) : Tells (fun k => spec_l4Lists.f k ins gs os a b) (ListsOk ins gs os a b) := by
 refine tells_ask (spec_GoodCircuit_tells ins gs os) (fun hg => tells_pos rfl ?_) (fun h => tells_neg (by simp) (tells_no (fun c => h c.1)))
 have h1 := hg.1
 have h2 := hg.2.1
 refine tells_if (fun e => tells_if (fun l => ?_) (fun l => tells_no (fun c => by have := c.2.2.1; omega))) (fun e => tells_no (fun c => by have := c.2.1; omega))
 refine tells_congr (fun k => by rw [l4Wires_eq ins gs os (by omega) (by omega), Option.bind_some]) ?_
 refine tells_ask (all_wires _ a (by omega) (by omega)) (fun ha => tells_pos rfl ?_) (fun h => tells_neg (by simp) (tells_no (fun c => h c.2.2.2.1)))
 refine tells_congr (fun k => by rw [Option.bind_some]) ?_
 exact tells_ask (all_wires _ b (by omega) (by omega)) (fun hb => tells_yes ⟨hg, by omega, by omega, ha, hb⟩) (fun h => tells_no (fun c => h c.2.2.2.2))
theorem copyCircuit_eq (ins : Int) (gs : List S66) (os : List Int) (hg : gs.length ≤ 1000000) (ho : os.length ≤ 1000000) : impl_copyCircuit.f ins gs os = some (ins, gs, os) := by
 unfold impl_copyCircuit.f
 rw [impl_Gate.f, if_pos (by omega), Option.bind_some, slices_Clone_int_int.f, if_pos (by omega), Option.bind_some]
theorem l4Own_eq (ins : Int) (gs : List S66) (os : List Int) (hg : gs.length ≤ 1000000) (ho : os.length ≤ 1000000) : spec_l4Own.f ins gs os = some (ins, gs, os) := by
 simp only [spec_l4Own.f, Option.bind_some, List.length_nil, List.nil_append]
 rw [if_pos (by omega), l1Own_eq os (by omega), Option.bind_some]
theorem put_eq (ins : Int) (gs : List S66) (kd a b : Int) (hi : 0 ≤ ins ∧ ins ≤ 16) (hg : gs.length ≤ 100000) : impl_put.f ins gs kd a b = some (ins + (gs.length : Int), gs ++ [(⟨kd, a, b⟩ : S66)]) := by
 unfold impl_put.f
 rw [if_pos (by omega), List.length_append, List.length_singleton, wid (x := ins + ((gs.length + 1 : Nat) : Int)) (by omega) (by omega), wid (by omega) (by omega)]
 simp; omega
theorem gate_eq (ins : Int) (gs : List S66) (kd a b : Int) (hi : 0 ≤ ins ∧ ins ≤ 16) (hg : gs.length ≤ 100000) : spec_gate.f ins gs kd a b = some (ins + (gs.length : Int), gs ++ [(⟨kd, a, b⟩ : S66)]) := by
 unfold spec_gate.f
 rw [if_pos (by omega), List.length_append, List.length_singleton, wid (x := ins + ((gs.length + 1 : Nat) : Int)) (by omega) (by omega), wid (by omega) (by omega)]
 simp; omega
theorem rd_wv (v : List Bool) (w : Int) : rdOf false v w = wv v w := by simp [rdOf, wv]
theorem allWires_l0 (ins : Int) (gs : List S66) (hl : gs.length ≤ 1000) (hi : ins ≤ 1000) (hg : ∀ k, k < gs.length → GateOk (gs.getD k z66) (ins + (k : Int))) (d : Nat) : ∀ (j : Nat) (v : List Bool), j + d = gs.length → (v.length : Int) = ins + (j : Int) →
  Ev (fun k => impl_Circuit_allWires.l0 k v gs (gs.length : Int) (j : Int)) (runC v (gs.drop j)) := by
 induction d with
 | zero =>
  intro j v hd hv
  rw [List.drop_of_length_le (by omega)]
  exact Ev.step (f := fun _ => some v) (fun k => by simp only [impl_Circuit_allWires.l0]; rw [if_neg (by omega)]) (Ev.now _)
 | succ d ih =>
  intro j v hd hv
  have hj : j < gs.length := by omega
  have ok := hg j hj
  rw [drop_cons hj z66, runC_cons]
  generalize hgj : gs.getD j z66 = g at ok
  have go : ∀ b, b = gateV v g → Ev (fun k => impl_Circuit_allWires.l0 k (v ++ [b]) gs (gs.length : Int) ((j + 1 : Nat) : Int)) (runC (v ++ [gateV v g]) (gs.drop (j + 1))) := fun b hb => by
   rw [hb]; exact ih (j + 1) _ (by omega) (by simp; omega)
  have er : rd_T66 gs (j : Int) = g := (rdg gs j).trans hgj
  rcases ok with ⟨k1, ha, hb, hc⟩ | ⟨k2, ha, hb, hc⟩ | ⟨k3, ha, hb, hc, hd2⟩
  ·refine Ev.step (fun k => by simp only [impl_Circuit_allWires.l0]; rw [if_pos (by omega), if_pos (by omega), if_pos (by omega), er, if_neg (by omega), if_neg (by omega), if_neg (by omega), if_neg (by omega), if_pos (by omega), wsucc (by omega)]) (go _ ?_)
   simp [gateV, k1]
  ·refine Ev.step (fun k => by simp only [impl_Circuit_allWires.l0]; rw [if_pos (by omega), if_pos (by omega), if_pos (by omega), er, if_pos (by omega), if_pos ha, if_pos (by omega), if_pos (by omega), wsucc (by omega)]) (go _ ?_)
   simp [gateV, k2, rd_wv]
  ·rcases k3 with k3 | k3 | k3
   ·by_cases q : wv v g.f1 = true
    ·refine Ev.step (fun k => by simp only [impl_Circuit_allWires.l0]; rw [if_pos (by omega), if_pos (by omega), if_pos (by omega), er, if_neg (by omega), if_pos (by omega), if_pos ha, if_pos (by omega), if_pos (by rw [rd_wv]; exact q), if_pos (by omega), if_pos (by omega), if_pos (by omega), wsucc (by omega)]) (go _ ?_)
     simp [gateV, k3, rd_wv, q]
    ·refine Ev.step (fun k => by simp only [impl_Circuit_allWires.l0]; rw [if_pos (by omega), if_pos (by omega), if_pos (by omega), er, if_neg (by omega), if_pos (by omega), if_pos ha, if_pos (by omega), if_neg (by rw [rd_wv]; exact q), if_pos (by omega), wsucc (by omega)]) (go _ ?_)
     simp [gateV, k3, q]
   ·by_cases q : wv v g.f1 = true
    ·refine Ev.step (fun k => by simp only [impl_Circuit_allWires.l0]; rw [if_pos (by omega), if_pos (by omega), if_pos (by omega), er, if_neg (by omega), if_neg (by omega), if_pos (by omega), if_pos ha, if_pos (by omega), if_pos (by rw [rd_wv]; exact q), if_pos (by omega), wsucc (by omega)]) (go _ ?_)
     simp [gateV, k3, q]
    ·refine Ev.step (fun k => by simp only [impl_Circuit_allWires.l0]; rw [if_pos (by omega), if_pos (by omega), if_pos (by omega), er, if_neg (by omega), if_neg (by omega), if_pos (by omega), if_pos ha, if_pos (by omega), if_neg (by rw [rd_wv]; exact q), if_pos (by omega), if_pos (by omega), if_pos (by omega), wsucc (by omega)]) (go _ ?_)
     simp [gateV, k3, rd_wv, q]
   ·refine Ev.step (fun k => by simp only [impl_Circuit_allWires.l0]; rw [if_pos (by omega), if_pos (by omega), if_pos (by omega), er, if_neg (by omega), if_neg (by omega), if_neg (by omega), if_pos (by omega), if_pos ha, if_pos (by omega), if_pos (by omega), if_pos (by omega), if_pos (by omega), wsucc (by omega)]) (go _ ?_)
    simp [gateV, k3, rd_wv]
theorem impl_AllWires_yes {ins : Int} {gs : List S66} {os : List Int} (h : GoodC ins gs os) (v : List Bool) (hv : (v.length : Int) = ins) : Ev (fun k => impl_AllWires.f k ins gs os v) (runC v gs, true) := by
 have h1 := h.1
 have h2 := h.2.1
 refine ev_ask (impl_GoodCircuit_tells ins gs os) (fun _ => ev_pos rfl (ev_pos hv ?_)) (fun g => absurd h g)
 have e : slices_Clone_bool_bool.f v = some v := by rw [slices_Clone_bool_bool.f, if_pos (by omega)]
 have := allWires_l0 ins gs (by omega) (by omega) h.2.2.2.1 gs.length 0 v (by omega) (by omega)
 rw [List.drop_zero] at this
 exact Ev.bind (Ev.bind (ev_const e) this) (Ev.now _)
theorem bits_or_i64_nat (a b : Nat) (ha : a < 4611686018427387904) (hb : b < 4611686018427387904) : Go.bits .or .i64 (a : Int) (b : Int) = ((a ||| b : Nat) : Int) := by
 have hx : a ||| b < 2 ^ 62 := Nat.or_lt_two_pow (by omega) (by omega)
 have h1 : (BitVec.ofInt 64 (a : Int)).toNat = a := by
  rw [BitVec.ofInt_natCast, BitVec.toNat_ofNat]; exact Nat.mod_eq_of_lt (by omega)
 have h2 : (BitVec.ofInt 64 (b : Int)).toNat = b := by
  rw [BitVec.ofInt_natCast, BitVec.toNat_ofNat]; exact Nat.mod_eq_of_lt (by omega)
 show IntKind.i64.wrap ((BitVec.ofInt 64 (a : Int) ||| BitVec.ofInt 64 (b : Int)).toNat : Int) = _
 rw [BitVec.toNat_or, h1, h2, IntKind.wrap_i64]
 omega
theorem shl_i64 {j : Nat} (hj : j < 62) : shl .i64 1 (j : Int) = ((2 ^ j : Nat) : Int) := by
 have hb : IntKind.i64.bits = 64 := rfl
 have h2 : (2 ^ j : Nat) < 4611686018427387904 := Nat.pow_lt_pow_right (by decide : 1 < 2) hj
 simp only [shl, hb]
 rw [Int.toNat_natCast, Nat.min_eq_left (by omega), ← two_nat, Int.one_mul, IntKind.wrap_i64]
 generalize (2 : Nat) ^ j = P at h2 ⊢
 omega
theorem carried_l0 (v : List Bool) (ws : List Int) (hw : Wires (v.length : Int) ws) (hl : ws.length ≤ 60) (d : Nat) : ∀ (j : Nat), j + d = ws.length →
  Ev (fun k => laws_carried.l0 k v ((num v (ws.take j) : Nat) : Int) ws (ws.length : Int) (j : Int)) ((num v ws : Nat) : Int) := by
 induction d with
 | zero =>
  intro j hd
  rw [List.take_of_length_le (by omega)]
  exact Ev.step (f := fun _ => some ((num v ws : Nat) : Int)) (fun k => by simp only [laws_carried.l0]; rw [if_neg (by omega)]) (Ev.now _)
 | succ d ih =>
  intro j hd
  have hj : j < ws.length := by omega
  have hm := hw _ (List.getElem_mem hj)
  have hr : rd ws (j : Int) = ws[j] := by rw [rd_nat, getD_eq hj]
  have hu : IntKind.u64.wrap (j : Int) = (j : Int) := by rw [wu]; omega
  have hlt : num v (ws.take j) < 2 ^ j := by
   have := wordv_lt ((ws.take j).map (wv v))
   rw [List.length_map, List.length_take, Nat.min_eq_left (by omega)] at this
   exact this
  have h2 : (2 ^ j : Nat) < 2 ^ 62 := Nat.pow_lt_pow_right (by decide : 1 < 2) (by omega)
  have hn : num v (ws.take (j + 1)) = num v (ws.take j) + (wv v ws[j]).toNat * 2 ^ j := by
   unfold num
   rw [List.take_succ_eq_append_getElem hj, List.map_append, List.map_singleton, wordv_snoc, List.length_map, List.length_take, Nat.min_eq_left (by omega)]
  have ih := ih (j + 1) (by omega)
  rw [hn] at ih
  by_cases q : wv v ws[j] = true
  ·have ho : Go.bits .or .i64 ((num v (ws.take j) : Nat) : Int) (shl .i64 1 (j : Int)) = ((num v (ws.take j) + (wv v ws[j]).toNat * 2 ^ j : Nat) : Int) := by
    rw [shl_i64 (by omega), bits_or_i64_nat _ _ (by omega) (by omega), Nat.or_comm]
    have h := Nat.two_pow_add_eq_or_of_lt hlt 1
    rw [Nat.mul_one] at h
    rw [← h, q]; simp; omega
   exact Ev.step (fun k => by simp only [laws_carried.l0]; rw [if_pos (by omega), if_pos (by omega), if_pos (by omega), hr, if_pos (by omega), if_pos (by omega), if_pos (by omega), if_pos (by rw [rd_wv]; exact q), hu, if_pos (by omega), ho, wsucc (by omega)]) ih
  ·have e : (num v (ws.take j) + (wv v ws[j]).toNat * 2 ^ j) = num v (ws.take j) := by
    rw [Bool.not_eq_true] at q; rw [q]; simp
   rw [e] at ih
   exact Ev.step (fun k => by simp only [laws_carried.l0]; rw [if_pos (by omega), if_pos (by omega), if_pos (by omega), hr, if_pos (by omega), if_pos (by omega), if_pos (by omega), if_neg (by rw [rd_wv]; exact q), wsucc (by omega)]) ih
theorem carried_ev (v : List Bool) (ws : List Int) (hw : Wires (v.length : Int) ws) (hl : ws.length ≤ 60) : Ev (fun k => laws_carried.f k v ws) ((num v ws : Nat) : Int) := carried_l0 v ws hw hl ws.length 0 (by omega)
def Cu (n p s : Int) : Prop := 0 ≤ p ∧ p ≤ n ∧ 0 ≤ s ∧ s < 18446744073709551616
theorem Cu.up {n m p s : Int} (h : Cu n p s) (hm : n ≤ m) : Cu m p s := ⟨h.1, by have := h.2.1; omega, h.2.2⟩
theorem Cu.zero : Cu 0 0 0 := ⟨by omega, by omega, by omega, by omega⟩
theorem emod_self_le {x a : Int} (h : 0 ≤ x) (ha : 0 < a := by omega) : x % a ≤ x := by
 have h1 := Int.emod_add_mul_ediv x a
 have h2 : 0 ≤ a * (x / a) := Int.mul_nonneg (by omega) (Int.ediv_nonneg h (by omega))
 omega
theorem byte_of (X : Int) (h0 : 0 ≤ X) (h1 : X < 18446744073709551616) : Go.bits .and .u64 (X / 1099511627776) 255 = X / 1099511627776 % 256 := by
 have := and_mask (X / 1099511627776) 8 (by omega) (by omega) (by omega)
 simpa using this
theorem next_ex {l : List Int} (hl : l.length ≤ 9223372036854775807 ∧ ∀ x ∈ l, InU8 x) {n p s : Int} (h : Cu n p s) (hn : n < 4611686018427387904) :
  ∃ v p' s', spec_l1Cur_next.f l p s = some (v, p', s') ∧ 0 ≤ v ∧ v ≤ 255 ∧ Cu (n + 1) p' s' := by
 obtain ⟨h1, h2, h3, h4⟩ := h
 unfold spec_l1Cur_next.f
 have e : wrap64 (p + 1) = p + 1 := wid (by omega) (by omega)
 rw [e]
 have fin : ∀ v S : Int, (0 ≤ v ∧ v ≤ 255) → (0 ≤ S ∧ S < 18446744073709551616) → ∃ v' p' s', some (v, p + 1, S) = some (v', p', s') ∧ 0 ≤ v' ∧ v' ≤ 255 ∧ Cu (n + 1) p' s' := fun v S hv hS => ⟨v, p + 1, S, rfl, hv.1, hv.2, by omega, by omega, hS.1, hS.2⟩
 have big : ∀ X : Int, (0 ≤ X ∧ X < 18446744073709551616) → 0 ≤ wrap64 (Go.bits .and .u64 (X / 1099511627776) 255) ∧ wrap64 (Go.bits .and .u64 (X / 1099511627776) 255) ≤ 255 := fun X hX => by
  rw [byte_of X hX.1 hX.2, wid (by omega) (by omega)]; omega
 by_cases hp : p < (l.length : Int)
 ·rw [if_pos hp, if_pos h1, if_pos (by omega)]
  refine fin _ _ ?_ (wu_in _)
  obtain ⟨j, rfl⟩ := Int.eq_ofNat_of_zero_le h1
  have hm := hl.2 _ (getD_mem (l := l) (j := j) (by omega) 0)
  have hm1 := hm.1; have hm2 := hm.2
  rw [show rd l ((j : Nat) : Int) = l.getD j 0 from rd_nat l j, wid (by omega) (by omega)]
  exact hm
 ·rw [if_neg hp]
  by_cases h5 : p + 1 ≤ (l.length : Int)
  ·omega
  ·rw [if_neg h5]
   exact fin _ _ (big _ (wu_in _)) (wu_in _)
theorem pick_ex {l : List Int} (hl : l.length ≤ 9223372036854775807 ∧ ∀ x ∈ l, InU8 x) {n p s : Int} (h : Cu n p s) (hn : n < 4611686018427387900) (a : Int) (ha : a ≤ 9223372036854775807) :
  ∃ v p' s', spec_l1Cur_pick.f l p s a = some (v, p', s') ∧ 0 ≤ v ∧ v ≤ 65535 ∧ (1 ≤ a → v < a) ∧ Cu (n + 2) p' s' := by
 unfold spec_l1Cur_pick.f
 by_cases h1 : a ≤ 1
 ·rw [if_pos h1]; exact ⟨0, p, s, rfl, by omega, by omega, by omega, h.up (by omega)⟩
 ·rw [if_neg h1]
  obtain ⟨v, p1, s1, e1, hv0, hv1, hc1⟩ := next_ex hl h (by omega)
  rw [e1, Option.bind_some]
  by_cases h2 : a > 200
  ·rw [if_pos h2]
   obtain ⟨u, p2, s2, e2, hu0, hu1, hc2⟩ := next_ex hl hc1 (by omega)
   simp only
   rw [e2, Option.bind_some, if_neg (by omega)]
   refine ⟨_, p2, s2, rfl, ?_⟩
   simp only
   rw [wid (x := v * 256) (by omega) (by omega), wid (by omega) (by omega), Int.tmod_eq_emod_of_nonneg (by omega)]
   have h3 := Int.emod_nonneg (v * 256 + u) (show a ≠ 0 by omega)
   have h4 := Int.emod_lt_of_pos (v * 256 + u) (show 0 < a by omega)
   have h5 : (v * 256 + u) % a ≤ v * 256 + u := emod_self_le (by omega)
   exact ⟨h3, by omega, fun _ => h4, hc2.up (by omega)⟩
  ·rw [if_neg h2, if_neg (by omega)]
   refine ⟨_, p1, s1, rfl, ?_⟩
   simp only
   rw [Int.tmod_eq_emod_of_nonneg (by omega)]
   have h3 := Int.emod_nonneg v (show a ≠ 0 by omega)
   have h4 := Int.emod_lt_of_pos v (show 0 < a by omega)
   exact ⟨h3, by omega, fun _ => h4, hc1.up (by omega)⟩
theorem among_ex {l : List Int} (hl : l.length ≤ 9223372036854775807 ∧ ∀ x ∈ l, InU8 x) {n p s : Int} (h : Cu n p s) (hn : n < 4611686018427387900) (xs : List Int) (hx : 1 ≤ xs.length) (hx2 : xs.length ≤ 1048576) :
  ∃ v p' s', spec_l1Cur_among.f l p s xs = some (v, p', s') ∧ v ∈ xs ∧ Cu (n + 2) p' s' := by
 obtain ⟨v, p', s', e, h0, _, h2, hc⟩ := pick_ex hl h hn (xs.length : Int) (by omega)
 have h2 := h2 (by omega)
 refine ⟨rd xs v, p', s', ?_, ?_, hc⟩
 ·unfold spec_l1Cur_among.f
  rw [e, Option.bind_some, if_pos h0, if_pos h2]
 ·obtain ⟨j, rfl⟩ := Int.eq_ofNat_of_zero_le h0
  rw [show rd xs ((j : Nat) : Int) = xs.getD j 0 from rd_nat xs j]
  exact getD_mem (by omega) 0
theorem one_ex {l : List Int} (hl : l.length ≤ 9223372036854775807 ∧ ∀ x ∈ l, InU8 x) {n p s : Int} (h : Cu n p s) (hn : n < 4611686018427387900) (a : Int) (ha : a ≤ 9223372036854775807) :
  ∃ b p' s', spec_l1Cur_one.f l p s a = some (b, p', s') ∧ Cu (n + 2) p' s' := by
 obtain ⟨v, p', s', e, _, _, _, hc⟩ := pick_ex hl h hn a ha
 exact ⟨v == 0, p', s', by unfold spec_l1Cur_one.f; rw [e]; rfl, hc⟩
theorem wires_l0 {l : List Int} (hl : l.length ≤ 9223372036854775807 ∧ ∀ x ∈ l, InU8 x) (a : Int) (ha : a ≤ 9223372036854775807) : ∀ (m : Nat) (x : List Int) {n p s : Int}, x.length + m ≤ 1000 → Cu n p s → n + 2 * (m : Int) < 1000000 →
  ∃ y p' s', Ev (fun k => spec_l1Cur_wires.l0 k a (m : Int) x l p s) (y, p', s') ∧ y.length = x.length + m ∧ Cu (n + 2 * (m : Int)) p' s'
 | 0, x, n, p, s, hx, h, hn => ⟨x, p, s, Ev.step (f := fun _ => some (x, p, s)) (fun k => by simp only [spec_l1Cur_wires.l0]; rw [if_neg (by omega)]) (Ev.now _), by omega, h.up (by omega)⟩
 | m + 1, x, n, p, s, hx, h, hn => by
  obtain ⟨v, p1, s1, e, _, _, _, hc⟩ := pick_ex hl h (by omega) a ha
  obtain ⟨y, p', s', ey, hy, hc2⟩ := wires_l0 hl a ha m (x ++ [v]) (by simp; omega) hc (by omega)
  refine ⟨y, p', s', ?_, by rw [hy]; simp; omega, hc2.up (by omega)⟩
  refine Ev.step (fun k => by simp only [spec_l1Cur_wires.l0]; rw [if_pos (by omega)]) ?_
  refine Ev.bind (ev_const e) ?_
  refine ev_pos (by show x.length < _; omega) ?_
  exact Ev.congr (fun k => by rw [show wrap64 (((m + 1 : Nat) : Int) - 1) = (m : Int) by rw [wid (by omega) (by omega)]; omega]) ey
theorem wires_ex {l : List Int} (hl : l.length ≤ 9223372036854775807 ∧ ∀ x ∈ l, InU8 x) {n p s : Int} (h : Cu n p s) (hn : n < 100000) (a v : Int) (ha : a ≤ 9223372036854775807) (hv0 : 0 ≤ v) (hv : v ≤ 100) :
  ∃ y p' s', Ev (fun k => spec_l1Cur_wires.f k l p s a v) (y, p', s') ∧ (y.length : Int) = v ∧ Cu (n + 2 * v) p' s' := by
 obtain ⟨v, rfl⟩ := Int.eq_ofNat_of_zero_le hv0
 obtain ⟨y, p', s', e, h1, h3⟩ := wires_l0 hl a ha v [] (by simp; omega) h (by omega)
 exact ⟨y, p', s', e, by simp at h1; omega, h3⟩
theorem circuit_l1 {l : List Int} (hl : l.length ≤ 9223372036854775807 ∧ ∀ x ∈ l, InU8 x) (ins : Int) (os : List Int) : ∀ (d : Nat) (gs : List S66) {n p s : Int}, gs.length + d = 302 → Cu n p s → n + 2 * (d : Int) < 100000 →
  ∃ gs' p' s', Ev (fun k => spec_l1Cur_circuit.l1 k l p s ins gs os) (ins, gs', os, p', s') ∧ gs'.length ≤ 302 ∧ Cu (n + 2 * (d : Int) + 2) p' s'
 | 0, gs, n, p, s, hg, h, hn => by
  obtain ⟨v, p1, s1, e, h0, _, h2, hc⟩ := pick_ex hl h (by omega) 2 (by omega)
  have h2 := h2 (by omega)
  refine ⟨gs, p1, s1, ?_, by omega, hc.up (by omega)⟩
  refine Ev.step (fun k => by rw [spec_l1Cur_circuit.l1]) ?_
  refine Ev.bind (ev_const e) ?_
  exact ev_neg (by show ¬ (gs.length : Int) < wrap64 (300 + v); rw [wid (by omega) (by omega)]; omega) (Ev.now _)
 | d + 1, gs, n, p, s, hg, h, hn => by
  obtain ⟨v, p1, s1, e, h0, _, h2, hc⟩ := pick_ex hl h (by omega) 2 (by omega)
  have h2 := h2 (by omega)
  by_cases c : (gs.length : Int) < 300 + v
  ·obtain ⟨gs', p', s', eg, h5, hc5⟩ := circuit_l1 hl ins os d (gs ++ [(⟨2, 0, 0⟩ : S66)]) (by simp; omega) hc (by omega)
   refine ⟨gs', p', s', ?_, h5, hc5.up (by omega)⟩
   refine Ev.step (fun k => by rw [spec_l1Cur_circuit.l1]) ?_
   refine Ev.bind (ev_const e) ?_
   refine ev_pos (by show (gs.length : Int) < wrap64 (300 + v); rw [wid (by omega) (by omega)]; omega) ?_
   exact ev_pos (by omega) eg
  ·refine ⟨gs, p1, s1, ?_, by omega, hc.up (by omega)⟩
   refine Ev.step (fun k => by rw [spec_l1Cur_circuit.l1]) ?_
   refine Ev.bind (ev_const e) ?_
   exact ev_neg (by show ¬ (gs.length : Int) < wrap64 (300 + v); rw [wid (by omega) (by omega)]; omega) (Ev.now _)
theorem circuit_l0 {l : List Int} (hl : l.length ≤ 9223372036854775807 ∧ ∀ x ∈ l, InU8 x) (ins : Int) (hi : 1 ≤ ins ∧ ins ≤ 8) : ∀ (m : Nat) (gs : List S66) {n p s : Int}, gs.length + m ≤ 100 → Cu n p s → n + 10 * (m : Int) < 10000 →
  ∃ ins' gs' os' p' s', Ev (fun k => spec_l1Cur_circuit.l0 k (m : Int) l p s ins gs) (ins', gs', os', p', s') ∧ -1 ≤ ins' ∧ ins' ≤ 17 ∧ gs'.length ≤ 302 ∧ os'.length ≤ 10 ∧ Cu (n + 10 * (m : Int) + 700) p' s'
 | 0, gs, n, p, s, hg, h, hn => by
  obtain ⟨v, p1, s1, e1, hv0, _, hv, hc1⟩ := pick_ex hl h (by omega) 5 (by omega)
  have hv := hv (by omega)
  obtain ⟨os, p2, s2, e2, ho, hc2⟩ := wires_ex hl hc1 (by omega) (ins + (gs.length : Int)) v (by omega) hv0 (by omega)
  obtain ⟨u, p3, s3, e3, _, _, _, hc3⟩ := pick_ex hl hc2 (by omega) 30 (by omega)
  have go : ∀ {r : Int × List S66 × List Int × Int × Int}, Ev (fun k => if u = 0 then ((spec_l4Wires.f ins gs os).bind fun t160 => (if os.length < 17592186044416 then (some (ins, gs, (os ++ [t160]), p3, s3)) else (none))) else (if u = 1 then ((spec_l1Cur_among.f l p3 s3 (([(-1), 0, 16, 17] : List Int))).bind fun bt167 => (some (bt167.1, gs, os, bt167.2.1, bt167.2.2))) else (if u = 2 then (spec_l1Cur_circuit.l1 k l p3 s3 ins gs os) else (some (ins, gs, os, p3, s3))))) r → Ev (fun k => spec_l1Cur_circuit.l0 k ((0 : Nat) : Int) l p s ins gs) r := fun hr => by
   refine Ev.step (fun k => by simp only [spec_l1Cur_circuit.l0]; rw [if_neg (by omega), l4Wires_eq ins gs [] (by omega) (by omega), Option.bind_some]) ?_
   exact Ev.bind (ev_const e1) (Ev.bind e2 (Ev.bind (ev_const e3) hr))
  by_cases u0 : u = 0
  ·refine ⟨ins, gs, os ++ [ins + (gs.length : Int)], p3, s3, go ?_, by omega, by omega, by omega, by simp; omega, hc3.up (by omega)⟩
   refine ev_pos u0 (Ev.bind (ev_const (l4Wires_eq ins gs os (by omega) (by omega))) (ev_pos (by omega) (Ev.now _)))
  by_cases u1 : u = 1
  ·obtain ⟨w, p4, s4, e4, hw, hc4⟩ := among_ex hl hc3 (by omega) [-1, 0, 16, 17] (by simp) (by simp)
   have hw : -1 ≤ w ∧ w ≤ 17 := by simp only [List.mem_cons, List.not_mem_nil, or_false] at hw; omega
   exact ⟨w, gs, os, p4, s4, go (ev_neg u0 (ev_pos u1 (Ev.bind (ev_const e4) (Ev.now _)))), hw.1, hw.2, by omega, by omega, hc4.up (by omega)⟩
  by_cases u2 : u = 2
  ·obtain ⟨gs', p4, s4, e4, h5, hc4⟩ := circuit_l1 hl ins os (302 - gs.length) gs (by omega) hc3 (by omega)
   exact ⟨ins, gs', os, p4, s4, go (ev_neg u0 (ev_neg u1 (ev_pos u2 e4))), by omega, by omega, h5, by omega, hc4.up (by omega)⟩
  ·exact ⟨ins, gs, os, p3, s3, go (ev_neg u0 (ev_neg u1 (ev_neg u2 (Ev.now _)))), by omega, by omega, by omega, by omega, hc3.up (by omega)⟩
 | m + 1, gs, n, p, s, hg, h, hn => by
  obtain ⟨v, p1, s1, e1, hv0, _, hv, hc1⟩ := pick_ex hl h (by omega) 5 (by omega)
  have hv := hv (by omega)
  have wm : wrap64 (((m + 1 : Nat) : Int) - 1) = (m : Int) := by rw [wid (by omega) (by omega)]; omega
  have wv1 : wrap64 (1 + v) = 1 + v := wid (by omega) (by omega)
  have j1 : ∀ {q p2 s2 : Int}, Cu (n + 4) p2 s2 → ∃ ins' gs' os' p' s', Ev (fun k => spec_l1Cur_circuit.j1 k ((m + 1 : Nat) : Int) l p2 s2 ins gs (1 + v) q 0) (ins', gs', os', p', s') ∧ -1 ≤ ins' ∧ ins' ≤ 17 ∧ gs'.length ≤ 302 ∧ os'.length ≤ 10 ∧ Cu (n + 10 * ((m + 1 : Nat) : Int) + 700) p' s' := fun {q p2 s2} hc2 => by
   by_cases k2 : 1 + v > 2
   ·obtain ⟨u, p3, s3, e3, _, _, _, hc3⟩ := pick_ex hl hc2 (by omega) (ins + (gs.length : Int)) (by omega)
    obtain ⟨ins', gs', os', p', s', e4, r1, r2, r3, r4, hc4⟩ := circuit_l0 hl ins hi m (gs ++ [(⟨1 + v, q, u⟩ : S66)]) (by simp; omega) hc3 (by omega)
    refine ⟨ins', gs', os', p', s', ?_, r1, r2, r3, r4, hc4.up (by omega)⟩
    refine Ev.step (fun k => by simp only [spec_l1Cur_circuit.j1]; rw [if_pos k2, l4Wires_eq ins gs [] (by omega) (by omega), Option.bind_some, wm]) ?_
    refine Ev.bind (ev_const e3) ?_
    exact ev_pos (by omega) e4
   ·obtain ⟨ins', gs', os', p', s', e4, r1, r2, r3, r4, hc4⟩ := circuit_l0 hl ins hi m (gs ++ [(⟨1 + v, q, 0⟩ : S66)]) (by simp; omega) hc2 (by omega)
    refine ⟨ins', gs', os', p', s', ?_, r1, r2, r3, r4, hc4.up (by omega)⟩
    exact Ev.step (fun k => by simp only [spec_l1Cur_circuit.j1]; rw [if_neg k2, if_pos (by omega), wm]) e4
  have top : ∀ {r : Int × List S66 × List Int × Int × Int}, Ev (fun k => if 1 + v = 1 then ((spec_l1Cur_pick.f l p1 s1 2).bind fun bt131 => (spec_l1Cur_circuit.j1 k ((m + 1 : Nat) : Int) l bt131.2.1 bt131.2.2 ins gs (1 + v) bt131.1 0)) else ((spec_l1Cur_pick.f l p1 s1 (ins + (gs.length : Int))).bind fun bt135 => (spec_l1Cur_circuit.j1 k ((m + 1 : Nat) : Int) l bt135.2.1 bt135.2.2 ins gs (1 + v) bt135.1 0))) r → Ev (fun k => spec_l1Cur_circuit.l0 k ((m + 1 : Nat) : Int) l p s ins gs) r := fun hr => by
   refine Ev.step (fun k => by simp only [spec_l1Cur_circuit.l0]; rw [if_pos (by omega)]) ?_
   refine Ev.bind (ev_const e1) ?_
   refine Ev.congr (fun k => ?_) hr
   simp only [wv1]
   rw [l4Wires_eq ins gs [] (by omega) (by omega), Option.bind_some]
  by_cases k1 : 1 + v = 1
  ·obtain ⟨q, p2, s2, e2, _, _, _, hc2⟩ := pick_ex hl hc1 (by omega) 2 (by omega)
   obtain ⟨ins', gs', os', p', s', e4, r⟩ := j1 (q := q) (hc2.up (by omega))
   exact ⟨ins', gs', os', p', s', top (ev_pos k1 (Ev.bind (ev_const e2) e4)), r⟩
  ·obtain ⟨q, p2, s2, e2, _, _, _, hc2⟩ := pick_ex hl hc1 (by omega) (ins + (gs.length : Int)) (by omega)
   obtain ⟨ins', gs', os', p', s', e4, r⟩ := j1 (q := q) (hc2.up (by omega))
   exact ⟨ins', gs', os', p', s', top (ev_neg k1 (Ev.bind (ev_const e2) e4)), r⟩
theorem circuit_ex {l : List Int} (hl : l.length ≤ 9223372036854775807 ∧ ∀ x ∈ l, InU8 x) {p s : Int} (h : Cu 0 p s) :
  ∃ ins gs os p' s', Ev (fun k => spec_l1Cur_circuit.f k l p s) (ins, gs, os, p', s') ∧ -1 ≤ ins ∧ ins ≤ 17 ∧ gs.length ≤ 302 ∧ os.length ≤ 10 ∧ Cu 2000 p' s' := by
 obtain ⟨v, p1, s1, e1, hv0, _, hv, hc1⟩ := pick_ex hl h (by omega) 8 (by omega)
 have hv := hv (by omega)
 obtain ⟨m, p2, s2, e2, hm0, _, hm, hc2⟩ := pick_ex hl hc1 (by omega) 20 (by omega)
 have hm := hm (by omega)
 obtain ⟨m, rfl⟩ := Int.eq_ofNat_of_zero_le hm0
 obtain ⟨ins', gs', os', p', s', e4, r1, r2, r3, r4, hc4⟩ := circuit_l0 hl (1 + v) (by omega) m [] (by simp; omega) hc2 (by omega)
 refine ⟨ins', gs', os', p', s', ?_, r1, r2, r3, r4, hc4.up (by omega)⟩
 refine Ev.bind (ev_const e1) (Ev.bind (ev_const e2) ?_)
 exact Ev.congr (fun k => by show spec_l1Cur_circuit.l0 k (m : Int) l p2 s2 (wrap64 (1 + v)) [] = _; rw [wid (by omega) (by omega)]) e4
theorem DrawAddGates_ex {l : List Int} (hl : l.length ≤ 9223372036854775807 ∧ ∀ x ∈ l, InU8 x) :
  ∃ ins gs os a b c, Ev (fun k => spec_DrawAddGates.f k l) (ins, gs, os, a, b, c) ∧ -1 ≤ ins ∧ ins ≤ 17 ∧ gs.length ≤ 302 ∧ os.length ≤ 10 ∧ a.length ≤ 17 ∧ b.length ≤ 17 := by
 obtain ⟨ins, gs, os, p1, s1, e1, r1, r2, r3, r4, hc1⟩ := circuit_ex hl Cu.zero
 obtain ⟨v, p2, s2, e2, hv0, _, hv, hc2⟩ := pick_ex hl hc1 (by omega) 6 (by omega)
 have hv := hv (by omega)
 obtain ⟨o, p3, s3, e3, hc3⟩ := one_ex hl hc2 (by omega) 12 (by omega)
 have j0 : ∀ {q p4 s4 : Int}, 0 ≤ q → q ≤ 17 → Cu 3000 p4 s4 → ∃ a b c, Ev (fun k => spec_DrawAddGates.j0 k q l p4 s4 ins gs os) (ins, gs, os, a, b, c) ∧ a.length ≤ 17 ∧ b.length ≤ 17 := fun {q p4 s4} q0 q1 hc4 => by
  obtain ⟨a, p5, s5, e5, ha, hc5⟩ := wires_ex hl hc4 (by omega) (ins + (gs.length : Int)) q (by omega) q0 (by omega)
  obtain ⟨b, p6, s6, e6, hb, hc6⟩ := wires_ex hl hc5 (by omega) (ins + (gs.length : Int)) q (by omega) q0 (by omega)
  obtain ⟨c, p7, s7, e7, _, _, _, hc7⟩ := pick_ex hl hc6 (by omega) (ins + (gs.length : Int) + 1) (by omega)
  refine ⟨a, b, c, ?_, by omega, by omega⟩
  refine Ev.step (fun k => by simp only [spec_DrawAddGates.j0]; rw [l4Wires_eq ins gs os (by omega) (by omega)]) ?_
  refine Ev.bind (Ev.now _) (Ev.bind e5 (Ev.bind (Ev.now _) (Ev.bind e6 (Ev.bind (Ev.now _) (Ev.bind (ev_const (r := (c, p7, s7)) ?_) (Ev.now _))))))
  ·rw [wid (by omega) (by omega)]; exact e7
 cases o with
 | true =>
  obtain ⟨q, p4, s4, e4, hq, hc4⟩ := among_ex hl hc3 (by omega) [16, 17] (by simp) (by simp)
  have hq : 0 ≤ q ∧ q ≤ 17 := by simp only [List.mem_cons, List.not_mem_nil, or_false] at hq; omega
  obtain ⟨a, b, c, e5, h1, h2⟩ := j0 hq.1 hq.2 (hc4.up (by omega))
  exact ⟨ins, gs, os, a, b, c, Ev.bind e1 (Ev.bind (ev_const e2) (Ev.bind (ev_const e3) (ev_pos rfl (Ev.bind (ev_const e4) e5)))), r1, r2, r3, r4, h1, h2⟩
 | false =>
  obtain ⟨a, b, c, e5, h1, h2⟩ := j0 hv0 (by omega) (hc3.up (by omega))
  exact ⟨ins, gs, os, a, b, c, Ev.bind e1 (Ev.bind (ev_const e2) (Ev.bind (ev_const e3) (ev_neg (by simp) e5))), r1, r2, r3, r4, h1, h2⟩
def lessG : Int → Int → List (Int × Int) → List S66 × Int
 | _, so, [] => ([], so)
 | n, so, (x, y) :: t => ((⟨5, x, y⟩ : S66) :: ⟨2, n, 0⟩ :: ⟨3, n + 1, so⟩ :: ⟨2, x, 0⟩ :: ⟨3, n + 3, y⟩ :: ⟨4, n + 2, n + 4⟩ :: (lessG (n + 6) (n + 5) t).1, (lessG (n + 6) (n + 5) t).2)
def eqG : Int → Int → List (Int × Int) → List S66 × Int
 | _, so, [] => ([], so)
 | n, so, (x, y) :: t => ((⟨5, x, y⟩ : S66) :: ⟨2, n, 0⟩ :: ⟨3, n + 1, so⟩ :: (eqG (n + 3) (n + 2) t).1, (eqG (n + 3) (n + 2) t).2)
theorem lessG_len : ∀ (l : List (Int × Int)) (n so : Int), (lessG n so l).1.length = 6 * l.length
 | [], n, so => rfl
 | (x, y) :: t, n, so => by
  have := lessG_len t (n + 6) (n + 5)
  simp only [lessG, List.length_cons]; omega
theorem eqG_len : ∀ (l : List (Int × Int)) (n so : Int), (eqG n so l).1.length = 3 * l.length
 | [], n, so => rfl
 | (x, y) :: t, n, so => by
  have := eqG_len t (n + 3) (n + 2)
  simp only [eqG, List.length_cons]; omega
theorem lessG_wire : ∀ (l : List (Int × Int)) (n so : Int), 0 ≤ so → so < n → 0 ≤ (lessG n so l).2 ∧ (lessG n so l).2 < n + 6 * (l.length : Int)
 | [], n, so, h0, h1 => ⟨h0, by simp only [lessG, List.length_nil]; omega⟩
 | (x, y) :: t, n, so, h0, h1 => by
  have := lessG_wire t (n + 6) (n + 5) (by omega) (by omega)
  simp only [lessG, List.length_cons]; omega
theorem eqG_wire : ∀ (l : List (Int × Int)) (n so : Int), 0 ≤ so → so < n → 0 ≤ (eqG n so l).2 ∧ (eqG n so l).2 < n + 3 * (l.length : Int)
 | [], n, so, h0, h1 => ⟨h0, by simp only [eqG, List.length_nil]; omega⟩
 | (x, y) :: t, n, so, h0, h1 => by
  have := eqG_wire t (n + 3) (n + 2) (by omega) (by omega)
  simp only [eqG, List.length_cons]; omega
theorem lessG_val : ∀ (l : List (Int × Int)) (n so : Int) (v : List Bool), (v.length : Int) = n → (∀ p ∈ l, (0 ≤ p.1 ∧ p.1 < n) ∧ 0 ≤ p.2 ∧ p.2 < n) → 0 ≤ so → so < n →
  wv (runC v (lessG n so l).1) (lessG n so l).2 = (decide (num v (l.map Prod.fst) < num v (l.map Prod.snd)) || (decide (num v (l.map Prod.fst) = num v (l.map Prod.snd)) && wv v so))
 | [], n, so, v, hn, hl, h0, h1 => by simp [lessG, num, wordv, runC_nil]
 | (x, y) :: t, n, so, v, hn, hl, h0, h1 => by
  obtain ⟨⟨hx0, hx1⟩, hy0, hy1⟩ := hl (x, y) (by simp)
  have hlt : ∀ p ∈ t, (0 ≤ p.1 ∧ p.1 < n) ∧ 0 ≤ p.2 ∧ p.2 < n := fun p hp => hl p (by simp [hp])
  obtain ⟨b1, e1⟩ : ∃ b, b = (wv v x != wv v y) := ⟨_, rfl⟩
  obtain ⟨b2, e2⟩ : ∃ b, b = !b1 := ⟨_, rfl⟩
  obtain ⟨b3, e3⟩ : ∃ b, b = (b2 && wv v so) := ⟨_, rfl⟩
  obtain ⟨b4, e4⟩ : ∃ b, b = !(wv v x) := ⟨_, rfl⟩
  obtain ⟨b5, e5⟩ : ∃ b, b = (b4 && wv v y) := ⟨_, rfl⟩
  obtain ⟨b6, e6⟩ : ∃ b, b = (b3 || b5) := ⟨_, rfl⟩
  have r : runC v (lessG n so ((x, y) :: t)).1 = runC (v ++ [b1] ++ [b2] ++ [b3] ++ [b4] ++ [b5] ++ [b6]) (lessG (n + 6) (n + 5) t).1 := by
   simp only [lessG, runC_cons]
   have g1 : gateV v ⟨5, x, y⟩ = b1 := by simp [gateV, e1]
   rw [g1]
   have g2 : gateV (v ++ [b1]) ⟨2, n, 0⟩ = b2 := by
    simp only [gateV]
    rw [wv_last v b1 hn.symm]; simp [e2]
   rw [g2]
   have g3 : gateV (v ++ [b1] ++ [b2]) ⟨3, n + 1, so⟩ = b3 := by
    simp only [gateV]
    rw [wv_last _ b2 (by simp; omega), wv_append h0 (by simp; omega), wv_append h0 (by omega)]; simp [e3]
   rw [g3]
   have g4 : gateV (v ++ [b1] ++ [b2] ++ [b3]) ⟨2, x, 0⟩ = b4 := by
    simp only [gateV]
    rw [wv_append hx0 (by simp; omega), wv_append hx0 (by simp; omega), wv_append hx0 (by omega)]; simp [e4]
   rw [g4]
   have g5 : gateV (v ++ [b1] ++ [b2] ++ [b3] ++ [b4]) ⟨3, n + 3, y⟩ = b5 := by
    simp only [gateV]
    rw [wv_last _ b4 (by simp; omega), wv_append hy0 (by simp; omega), wv_append hy0 (by simp; omega), wv_append hy0 (by simp; omega), wv_append hy0 (by omega)]; simp [e5]
   rw [g5]
   have g6 : gateV (v ++ [b1] ++ [b2] ++ [b3] ++ [b4] ++ [b5]) ⟨4, n + 2, n + 4⟩ = b6 := by
    simp only [gateV]
    rw [wv_append (w := n + 2) (by omega) (by simp; omega), wv_append (w := n + 2) (by omega) (by simp; omega), wv_last _ b3 (by simp; omega), wv_last _ b5 (by simp; omega)]; simp [e6]
   rw [g6]
  have w1 : Wires (v.length : Int) (t.map Prod.fst) := fun w hw => by
   obtain ⟨p, hp, rfl⟩ := List.mem_map.1 hw
   have := (hlt p hp).1; omega
  have w2 : Wires (v.length : Int) (t.map Prod.snd) := fun w hw => by
   obtain ⟨p, hp, rfl⟩ := List.mem_map.1 hw
   have := (hlt p hp).2; omega
  have up : ∀ ws, Wires (v.length : Int) ws → num (v ++ [b1] ++ [b2] ++ [b3] ++ [b4] ++ [b5] ++ [b6]) ws = num v ws := fun ws hw => by
   rw [num_append (fun w h => by have := hw w h; simp; omega), num_append (fun w h => by have := hw w h; simp; omega), num_append (fun w h => by have := hw w h; simp; omega), num_append (fun w h => by have := hw w h; simp; omega), num_append (fun w h => by have := hw w h; simp; omega), num_append hw]
  have ih := lessG_val t (n + 6) (n + 5) (v ++ [b1] ++ [b2] ++ [b3] ++ [b4] ++ [b5] ++ [b6]) (by simp; omega) (fun p hp => by have := hlt p hp; omega) (by omega) (by omega)
  rw [up _ w1, up _ w2, wv_last _ b6 (by simp; omega), ← r] at ih
  have na : num v (((x, y) :: t).map Prod.fst) = (wv v x).toNat + 2 * num v (t.map Prod.fst) := rfl
  have nb : num v (((x, y) :: t).map Prod.snd) = (wv v y).toNat + 2 * num v (t.map Prod.snd) := rfl
  have e7 : (lessG n so ((x, y) :: t)).2 = (lessG (n + 6) (n + 5) t).2 := rfl
  rw [na, nb, e7, ih, e6, e5, e4, e3, e2, e1]
  generalize num v (t.map Prod.fst) = X
  generalize num v (t.map Prod.snd) = Y
  rw [Bool.eq_iff_iff]
  cases wv v x <;> cases wv v y <;> cases wv v so <;> simp <;> omega
theorem eqG_val : ∀ (l : List (Int × Int)) (n so : Int) (v : List Bool), (v.length : Int) = n → (∀ p ∈ l, (0 ≤ p.1 ∧ p.1 < n) ∧ 0 ≤ p.2 ∧ p.2 < n) → 0 ≤ so → so < n →
  wv (runC v (eqG n so l).1) (eqG n so l).2 = (decide (num v (l.map Prod.fst) = num v (l.map Prod.snd)) && wv v so)
 | [], n, so, v, hn, hl, h0, h1 => by simp [eqG, num, wordv, runC_nil]
 | (x, y) :: t, n, so, v, hn, hl, h0, h1 => by
  obtain ⟨⟨hx0, hx1⟩, hy0, hy1⟩ := hl (x, y) (by simp)
  have hlt : ∀ p ∈ t, (0 ≤ p.1 ∧ p.1 < n) ∧ 0 ≤ p.2 ∧ p.2 < n := fun p hp => hl p (by simp [hp])
  obtain ⟨b1, e1⟩ : ∃ b, b = (wv v x != wv v y) := ⟨_, rfl⟩
  obtain ⟨b2, e2⟩ : ∃ b, b = !b1 := ⟨_, rfl⟩
  obtain ⟨b3, e3⟩ : ∃ b, b = (b2 && wv v so) := ⟨_, rfl⟩
  have r : runC v (eqG n so ((x, y) :: t)).1 = runC (v ++ [b1] ++ [b2] ++ [b3]) (eqG (n + 3) (n + 2) t).1 := by
   simp only [eqG, runC_cons]
   have g1 : gateV v ⟨5, x, y⟩ = b1 := by simp [gateV, e1]
   rw [g1]
   have g2 : gateV (v ++ [b1]) ⟨2, n, 0⟩ = b2 := by
    simp only [gateV]
    rw [wv_last v b1 hn.symm]; simp [e2]
   rw [g2]
   have g3 : gateV (v ++ [b1] ++ [b2]) ⟨3, n + 1, so⟩ = b3 := by
    simp only [gateV]
    rw [wv_last _ b2 (by simp; omega), wv_append h0 (by simp; omega), wv_append h0 (by omega)]; simp [e3]
   rw [g3]
  have w1 : Wires (v.length : Int) (t.map Prod.fst) := fun w hw => by
   obtain ⟨p, hp, rfl⟩ := List.mem_map.1 hw
   have := (hlt p hp).1; omega
  have w2 : Wires (v.length : Int) (t.map Prod.snd) := fun w hw => by
   obtain ⟨p, hp, rfl⟩ := List.mem_map.1 hw
   have := (hlt p hp).2; omega
  have up : ∀ ws, Wires (v.length : Int) ws → num (v ++ [b1] ++ [b2] ++ [b3]) ws = num v ws := fun ws hw => by
   rw [num_append (fun w h => by have := hw w h; simp; omega), num_append (fun w h => by have := hw w h; simp; omega), num_append hw]
  have ih := eqG_val t (n + 3) (n + 2) (v ++ [b1] ++ [b2] ++ [b3]) (by simp; omega) (fun p hp => by have := hlt p hp; omega) (by omega) (by omega)
  rw [up _ w1, up _ w2, wv_last _ b3 (by simp; omega), ← r] at ih
  have na : num v (((x, y) :: t).map Prod.fst) = (wv v x).toNat + 2 * num v (t.map Prod.fst) := rfl
  have nb : num v (((x, y) :: t).map Prod.snd) = (wv v y).toNat + 2 * num v (t.map Prod.snd) := rfl
  have e7 : (eqG n so ((x, y) :: t)).2 = (eqG (n + 3) (n + 2) t).2 := rfl
  rw [na, nb, e7, ih, e3, e2, e1]
  generalize num v (t.map Prod.fst) = X
  generalize num v (t.map Prod.snd) = Y
  rw [Bool.eq_iff_iff]
  cases wv v x <;> cases wv v y <;> cases wv v so <;> simp <;> omega
theorem zip_drop {a b : List Int} {j : Nat} (h : a.length = b.length) (hj : j < a.length) : (a.zip b).drop j = (a.getD j 0, b.getD j 0) :: (a.zip b).drop (j + 1) := by
 rw [drop_cons (by simp; omega) ((0 : Int), (0 : Int))]
 congr 1
 rw [getD_eq (by simp; omega), List.getElem_zip, getD_eq hj, getD_eq (by omega)]
theorem zip_end {a b : List Int} {j : Nat} (h : a.length ≤ j) : (a.zip b).drop j = [] := List.drop_of_length_le (by simp; omega)
theorem wputLess_l0 (ins : Int) (hi : 0 ≤ ins ∧ ins ≤ 16) (a b : List Int) (hab : a.length = b.length) (ha : a.length ≤ 16) (d : Nat) : ∀ (j : Nat) (c : Int) (gs : List S66), j + d = a.length → gs.length + 6 * d ≤ 1000 →
  Ev (fun k => impl_putLess.l0 k ins a b (a.length : Int) (j : Int) c gs) ((lessG (ins + (gs.length : Int)) c ((a.zip b).drop j)).2, gs ++ (lessG (ins + (gs.length : Int)) c ((a.zip b).drop j)).1) := by
 induction d with
 | zero =>
  intro j c gs hd hg
  rw [zip_end (by omega)]
  exact ev_eq (Ev.step (f := fun _ => some (c, gs)) (fun k => by simp only [impl_putLess.l0]; rw [if_neg (by omega)]) (Ev.now _)) (by simp [lessG])
 | succ d ih =>
  intro j c gs hd hg
  rw [zip_drop hab (by omega)]
  refine ev_eq (Ev.step (fun k => by
   simp only [impl_putLess.l0]
   rw [if_pos (by omega), if_pos (by omega), if_pos (by omega), if_pos (by omega), rd_nat, rd_nat, put_eq ins gs _ _ _ hi (by omega), Option.bind_some, put_eq ins _ _ _ _ hi (by simp; omega), Option.bind_some, put_eq ins _ _ _ _ hi (by simp; omega), Option.bind_some, put_eq ins _ _ _ _ hi (by simp; omega), Option.bind_some, put_eq ins _ _ _ _ hi (by simp; omega), Option.bind_some, put_eq ins _ _ _ _ hi (by simp; omega), Option.bind_some, wsucc (by omega)]
   simp [Int.add_assoc]) (ih (j + 1) (ins + (gs.length : Int) + 5) (gs ++ [(⟨5, a.getD j 0, b.getD j 0⟩ : S66)] ++ [(⟨2, ins + (gs.length : Int), 0⟩ : S66)] ++ [(⟨3, ins + (gs.length : Int) + 1, c⟩ : S66)] ++ [(⟨2, a.getD j 0, 0⟩ : S66)] ++ [(⟨3, ins + (gs.length : Int) + 3, b.getD j 0⟩ : S66)] ++ [(⟨4, ins + (gs.length : Int) + 2, ins + (gs.length : Int) + 4⟩ : S66)]) (by omega) (by simp; omega))) ?_
  have e : ins + ((gs ++ [(⟨5, a.getD j 0, b.getD j 0⟩ : S66)] ++ [(⟨2, ins + (gs.length : Int), 0⟩ : S66)] ++ [(⟨3, ins + (gs.length : Int) + 1, c⟩ : S66)] ++ [(⟨2, a.getD j 0, 0⟩ : S66)] ++ [(⟨3, ins + (gs.length : Int) + 3, b.getD j 0⟩ : S66)] ++ [(⟨4, ins + (gs.length : Int) + 2, ins + (gs.length : Int) + 4⟩ : S66)]).length : Int) = ins + (gs.length : Int) + 6 := by simp; omega
  rw [e]
  simp [lessG]
theorem wless_l0 (ins : Int) (hi : 0 ≤ ins ∧ ins ≤ 16) (a b : List Int) (hab : a.length = b.length) (ha : a.length ≤ 16) (d : Nat) : ∀ (j : Nat) (c : Int) (gs : List S66), j + d = a.length → gs.length + 6 * d ≤ 1000 →
  Ev (fun k => spec_less.l0 k ins a b (a.length : Int) (j : Int) c gs) ((lessG (ins + (gs.length : Int)) c ((a.zip b).drop j)).2, gs ++ (lessG (ins + (gs.length : Int)) c ((a.zip b).drop j)).1) := by
 induction d with
 | zero =>
  intro j c gs hd hg
  rw [zip_end (by omega)]
  exact ev_eq (Ev.step (f := fun _ => some (c, gs)) (fun k => by simp only [spec_less.l0]; rw [if_neg (by omega)]) (Ev.now _)) (by simp [lessG])
 | succ d ih =>
  intro j c gs hd hg
  rw [zip_drop hab (by omega)]
  refine ev_eq (Ev.step (fun k => by
   simp only [spec_less.l0]
   rw [if_pos (by omega), if_pos (by omega), if_pos (by omega), if_pos (by omega), rd_nat, rd_nat, gate_eq ins gs _ _ _ hi (by omega), Option.bind_some, gate_eq ins _ _ _ _ hi (by simp; omega), Option.bind_some, gate_eq ins _ _ _ _ hi (by simp; omega), Option.bind_some, gate_eq ins _ _ _ _ hi (by simp; omega), Option.bind_some, gate_eq ins _ _ _ _ hi (by simp; omega), Option.bind_some, gate_eq ins _ _ _ _ hi (by simp; omega), Option.bind_some, wsucc (by omega)]
   simp [Int.add_assoc]) (ih (j + 1) (ins + (gs.length : Int) + 5) (gs ++ [(⟨5, a.getD j 0, b.getD j 0⟩ : S66)] ++ [(⟨2, ins + (gs.length : Int), 0⟩ : S66)] ++ [(⟨3, ins + (gs.length : Int) + 1, c⟩ : S66)] ++ [(⟨2, a.getD j 0, 0⟩ : S66)] ++ [(⟨3, ins + (gs.length : Int) + 3, b.getD j 0⟩ : S66)] ++ [(⟨4, ins + (gs.length : Int) + 2, ins + (gs.length : Int) + 4⟩ : S66)]) (by omega) (by simp; omega))) ?_
  have e : ins + ((gs ++ [(⟨5, a.getD j 0, b.getD j 0⟩ : S66)] ++ [(⟨2, ins + (gs.length : Int), 0⟩ : S66)] ++ [(⟨3, ins + (gs.length : Int) + 1, c⟩ : S66)] ++ [(⟨2, a.getD j 0, 0⟩ : S66)] ++ [(⟨3, ins + (gs.length : Int) + 3, b.getD j 0⟩ : S66)] ++ [(⟨4, ins + (gs.length : Int) + 2, ins + (gs.length : Int) + 4⟩ : S66)]).length : Int) = ins + (gs.length : Int) + 6 := by simp; omega
  rw [e]
  simp [lessG]
theorem wputEq_l0 (ins : Int) (hi : 0 ≤ ins ∧ ins ≤ 16) (a b : List Int) (hab : a.length = b.length) (ha : a.length ≤ 16) (d : Nat) : ∀ (j : Nat) (c : Int) (gs : List S66), j + d = a.length → gs.length + 6 * d ≤ 1000 →
  Ev (fun k => impl_putEq.l0 k ins a b (a.length : Int) (j : Int) c gs) ((eqG (ins + (gs.length : Int)) c ((a.zip b).drop j)).2, gs ++ (eqG (ins + (gs.length : Int)) c ((a.zip b).drop j)).1) := by
 induction d with
 | zero =>
  intro j c gs hd hg
  rw [zip_end (by omega)]
  exact ev_eq (Ev.step (f := fun _ => some (c, gs)) (fun k => by simp only [impl_putEq.l0]; rw [if_neg (by omega)]) (Ev.now _)) (by simp [eqG])
 | succ d ih =>
  intro j c gs hd hg
  rw [zip_drop hab (by omega)]
  refine ev_eq (Ev.step (fun k => by
   simp only [impl_putEq.l0]
   rw [if_pos (by omega), if_pos (by omega), if_pos (by omega), if_pos (by omega), rd_nat, rd_nat, put_eq ins gs _ _ _ hi (by omega), Option.bind_some, put_eq ins _ _ _ _ hi (by simp; omega), Option.bind_some, put_eq ins _ _ _ _ hi (by simp; omega), Option.bind_some, wsucc (by omega)]
   simp [Int.add_assoc]) (ih (j + 1) (ins + (gs.length : Int) + 2) (gs ++ [(⟨5, a.getD j 0, b.getD j 0⟩ : S66)] ++ [(⟨2, ins + (gs.length : Int), 0⟩ : S66)] ++ [(⟨3, ins + (gs.length : Int) + 1, c⟩ : S66)]) (by omega) (by simp; omega))) ?_
  have e : ins + ((gs ++ [(⟨5, a.getD j 0, b.getD j 0⟩ : S66)] ++ [(⟨2, ins + (gs.length : Int), 0⟩ : S66)] ++ [(⟨3, ins + (gs.length : Int) + 1, c⟩ : S66)]).length : Int) = ins + (gs.length : Int) + 3 := by simp; omega
  rw [e]
  simp [eqG]
theorem weq_l0 (ins : Int) (hi : 0 ≤ ins ∧ ins ≤ 16) (a b : List Int) (hab : a.length = b.length) (ha : a.length ≤ 16) (d : Nat) : ∀ (j : Nat) (c : Int) (gs : List S66), j + d = a.length → gs.length + 6 * d ≤ 1000 →
  Ev (fun k => spec_eq.l0 k ins a b (a.length : Int) (j : Int) c gs) ((eqG (ins + (gs.length : Int)) c ((a.zip b).drop j)).2, gs ++ (eqG (ins + (gs.length : Int)) c ((a.zip b).drop j)).1) := by
 induction d with
 | zero =>
  intro j c gs hd hg
  rw [zip_end (by omega)]
  exact ev_eq (Ev.step (f := fun _ => some (c, gs)) (fun k => by simp only [spec_eq.l0]; rw [if_neg (by omega)]) (Ev.now _)) (by simp [eqG])
 | succ d ih =>
  intro j c gs hd hg
  rw [zip_drop hab (by omega)]
  refine ev_eq (Ev.step (fun k => by
   simp only [spec_eq.l0]
   rw [if_pos (by omega), if_pos (by omega), if_pos (by omega), if_pos (by omega), rd_nat, rd_nat, gate_eq ins gs _ _ _ hi (by omega), Option.bind_some, gate_eq ins _ _ _ _ hi (by simp; omega), Option.bind_some, gate_eq ins _ _ _ _ hi (by simp; omega), Option.bind_some, wsucc (by omega)]
   simp [Int.add_assoc]) (ih (j + 1) (ins + (gs.length : Int) + 2) (gs ++ [(⟨5, a.getD j 0, b.getD j 0⟩ : S66)] ++ [(⟨2, ins + (gs.length : Int), 0⟩ : S66)] ++ [(⟨3, ins + (gs.length : Int) + 1, c⟩ : S66)]) (by omega) (by simp; omega))) ?_
  have e : ins + ((gs ++ [(⟨5, a.getD j 0, b.getD j 0⟩ : S66)] ++ [(⟨2, ins + (gs.length : Int), 0⟩ : S66)] ++ [(⟨3, ins + (gs.length : Int) + 1, c⟩ : S66)]).length : Int) = ins + (gs.length : Int) + 3 := by simp; omega
  rw [e]
  simp [eqG]
def LessOk (ins : Int) (gs : List S66) (os a b : List Int) : Prop := ListsOk ins gs os a b ∧ GoodC ins ((gs ++ [(⟨1, 0, 0⟩ : S66)]) ++ (lessG (ins + (gs.length : Int) + 1) (ins + (gs.length : Int)) (a.zip b)).1) os
theorem impl_LessGates_yes {ins : Int} {gs : List S66} {os a b : List Int} (h : LessOk ins gs os a b) : Ev (fun k => impl_LessGates.f k ins gs os a b) (ins, (gs ++ [(⟨1, 0, 0⟩ : S66)]) ++ (lessG (ins + (gs.length : Int) + 1) (ins + (gs.length : Int)) (a.zip b)).1, os, (lessG (ins + (gs.length : Int) + 1) (ins + (gs.length : Int)) (a.zip b)).2, true) := by
 obtain ⟨hl, hg⟩ := h
 have h1 := hl.1.1
 have h2 := hl.1.2.1
 have h3 := hl.1.2.2.1
 refine ev_ask (areLists_tells ins gs os a b) (fun _ => ev_pos rfl ?_) (fun g => absurd hl g)
 refine Ev.bind (ev_const (copyCircuit_eq ins gs os (by omega) (by omega))) ?_
 refine Ev.bind (Ev.bind (ev_const (put_eq ins gs 1 0 0 h1 (by omega))) (wputLess_l0 ins h1 a b hl.2.1 hl.2.2.1 a.length 0 (ins + (gs.length : Int)) (gs ++ [(⟨1, 0, 0⟩ : S66)]) (by omega) (by have := hl.2.2.1; simp; omega))) ?_
 rw [List.drop_zero, List.length_append, List.length_singleton, show ins + ((gs.length + 1 : Nat) : Int) = ins + (gs.length : Int) + 1 by omega]
 exact ev_ask (impl_GoodCircuit_tells ins _ os) (fun _ => ev_pos rfl (Ev.now _)) (fun g => absurd hg g)
theorem impl_LessGates_no {ins : Int} {gs : List S66} {os a b : List Int} (h : ¬ LessOk ins gs os a b) : Ev (fun k => impl_LessGates.f k ins gs os a b) (0, [], [], 0, false) := by
 refine ev_ask (areLists_tells ins gs os a b) (fun hl => ev_pos rfl ?_) (fun g => ev_neg (by simp) (Ev.now _))
 have h1 := hl.1.1
 have h2 := hl.1.2.1
 have h3 := hl.1.2.2.1
 refine Ev.bind (ev_const (copyCircuit_eq ins gs os (by omega) (by omega))) ?_
 refine Ev.bind (Ev.bind (ev_const (put_eq ins gs 1 0 0 h1 (by omega))) (wputLess_l0 ins h1 a b hl.2.1 hl.2.2.1 a.length 0 (ins + (gs.length : Int)) (gs ++ [(⟨1, 0, 0⟩ : S66)]) (by omega) (by have := hl.2.2.1; simp; omega))) ?_
 rw [List.drop_zero, List.length_append, List.length_singleton, show ins + ((gs.length + 1 : Nat) : Int) = ins + (gs.length : Int) + 1 by omega]
 exact ev_ask (impl_GoodCircuit_tells ins _ os) (fun hg => absurd ⟨hl, hg⟩ h) (fun g => ev_neg (by simp) (Ev.now _))
theorem spec_LessGates_yes {ins : Int} {gs : List S66} {os a b : List Int} (h : LessOk ins gs os a b) : Ev (fun k => spec_LessGates.f k ins gs os a b) (ins, (gs ++ [(⟨1, 0, 0⟩ : S66)]) ++ (lessG (ins + (gs.length : Int) + 1) (ins + (gs.length : Int)) (a.zip b)).1, os, (lessG (ins + (gs.length : Int) + 1) (ins + (gs.length : Int)) (a.zip b)).2, true) := by
 obtain ⟨hl, hg⟩ := h
 have h1 := hl.1.1
 have h2 := hl.1.2.1
 have h3 := hl.1.2.2.1
 refine ev_ask (l4Lists_tells ins gs os a b) (fun _ => ev_pos rfl ?_) (fun g => absurd hl g)
 refine Ev.bind (ev_const (l4Own_eq ins gs os (by omega) (by omega))) ?_
 refine Ev.bind (Ev.bind (ev_const (gate_eq ins gs 1 0 0 h1 (by omega))) (wless_l0 ins h1 a b hl.2.1 hl.2.2.1 a.length 0 (ins + (gs.length : Int)) (gs ++ [(⟨1, 0, 0⟩ : S66)]) (by omega) (by have := hl.2.2.1; simp; omega))) ?_
 rw [List.drop_zero, List.length_append, List.length_singleton, show ins + ((gs.length + 1 : Nat) : Int) = ins + (gs.length : Int) + 1 by omega]
 exact ev_ask (spec_GoodCircuit_tells ins _ os) (fun _ => ev_pos rfl (Ev.now _)) (fun g => absurd hg g)
theorem spec_LessGates_no {ins : Int} {gs : List S66} {os a b : List Int} (h : ¬ LessOk ins gs os a b) : Ev (fun k => spec_LessGates.f k ins gs os a b) (0, [], [], 0, false) := by
 refine ev_ask (l4Lists_tells ins gs os a b) (fun hl => ev_pos rfl ?_) (fun g => ev_neg (by simp) (Ev.now _))
 have h1 := hl.1.1
 have h2 := hl.1.2.1
 have h3 := hl.1.2.2.1
 refine Ev.bind (ev_const (l4Own_eq ins gs os (by omega) (by omega))) ?_
 refine Ev.bind (Ev.bind (ev_const (gate_eq ins gs 1 0 0 h1 (by omega))) (wless_l0 ins h1 a b hl.2.1 hl.2.2.1 a.length 0 (ins + (gs.length : Int)) (gs ++ [(⟨1, 0, 0⟩ : S66)]) (by omega) (by have := hl.2.2.1; simp; omega))) ?_
 rw [List.drop_zero, List.length_append, List.length_singleton, show ins + ((gs.length + 1 : Nat) : Int) = ins + (gs.length : Int) + 1 by omega]
 exact ev_ask (spec_GoodCircuit_tells ins _ os) (fun hg => absurd ⟨hl, hg⟩ h) (fun g => ev_neg (by simp) (Ev.now _))
def EqOk (ins : Int) (gs : List S66) (os a b : List Int) : Prop := ListsOk ins gs os a b ∧ GoodC ins ((gs ++ [(⟨1, 1, 0⟩ : S66)]) ++ (eqG (ins + (gs.length : Int) + 1) (ins + (gs.length : Int)) (a.zip b)).1) os
theorem impl_EqGates_yes {ins : Int} {gs : List S66} {os a b : List Int} (h : EqOk ins gs os a b) : Ev (fun k => impl_EqGates.f k ins gs os a b) (ins, (gs ++ [(⟨1, 1, 0⟩ : S66)]) ++ (eqG (ins + (gs.length : Int) + 1) (ins + (gs.length : Int)) (a.zip b)).1, os, (eqG (ins + (gs.length : Int) + 1) (ins + (gs.length : Int)) (a.zip b)).2, true) := by
 obtain ⟨hl, hg⟩ := h
 have h1 := hl.1.1
 have h2 := hl.1.2.1
 have h3 := hl.1.2.2.1
 refine ev_ask (areLists_tells ins gs os a b) (fun _ => ev_pos rfl ?_) (fun g => absurd hl g)
 refine Ev.bind (ev_const (copyCircuit_eq ins gs os (by omega) (by omega))) ?_
 refine Ev.bind (Ev.bind (ev_const (put_eq ins gs 1 1 0 h1 (by omega))) (wputEq_l0 ins h1 a b hl.2.1 hl.2.2.1 a.length 0 (ins + (gs.length : Int)) (gs ++ [(⟨1, 1, 0⟩ : S66)]) (by omega) (by have := hl.2.2.1; simp; omega))) ?_
 rw [List.drop_zero, List.length_append, List.length_singleton, show ins + ((gs.length + 1 : Nat) : Int) = ins + (gs.length : Int) + 1 by omega]
 exact ev_ask (impl_GoodCircuit_tells ins _ os) (fun _ => ev_pos rfl (Ev.now _)) (fun g => absurd hg g)
theorem impl_EqGates_no {ins : Int} {gs : List S66} {os a b : List Int} (h : ¬ EqOk ins gs os a b) : Ev (fun k => impl_EqGates.f k ins gs os a b) (0, [], [], 0, false) := by
 refine ev_ask (areLists_tells ins gs os a b) (fun hl => ev_pos rfl ?_) (fun g => ev_neg (by simp) (Ev.now _))
 have h1 := hl.1.1
 have h2 := hl.1.2.1
 have h3 := hl.1.2.2.1
 refine Ev.bind (ev_const (copyCircuit_eq ins gs os (by omega) (by omega))) ?_
 refine Ev.bind (Ev.bind (ev_const (put_eq ins gs 1 1 0 h1 (by omega))) (wputEq_l0 ins h1 a b hl.2.1 hl.2.2.1 a.length 0 (ins + (gs.length : Int)) (gs ++ [(⟨1, 1, 0⟩ : S66)]) (by omega) (by have := hl.2.2.1; simp; omega))) ?_
 rw [List.drop_zero, List.length_append, List.length_singleton, show ins + ((gs.length + 1 : Nat) : Int) = ins + (gs.length : Int) + 1 by omega]
 exact ev_ask (impl_GoodCircuit_tells ins _ os) (fun hg => absurd ⟨hl, hg⟩ h) (fun g => ev_neg (by simp) (Ev.now _))
theorem spec_EqGates_yes {ins : Int} {gs : List S66} {os a b : List Int} (h : EqOk ins gs os a b) : Ev (fun k => spec_EqGates.f k ins gs os a b) (ins, (gs ++ [(⟨1, 1, 0⟩ : S66)]) ++ (eqG (ins + (gs.length : Int) + 1) (ins + (gs.length : Int)) (a.zip b)).1, os, (eqG (ins + (gs.length : Int) + 1) (ins + (gs.length : Int)) (a.zip b)).2, true) := by
 obtain ⟨hl, hg⟩ := h
 have h1 := hl.1.1
 have h2 := hl.1.2.1
 have h3 := hl.1.2.2.1
 refine ev_ask (l4Lists_tells ins gs os a b) (fun _ => ev_pos rfl ?_) (fun g => absurd hl g)
 refine Ev.bind (ev_const (l4Own_eq ins gs os (by omega) (by omega))) ?_
 refine Ev.bind (Ev.bind (ev_const (gate_eq ins gs 1 1 0 h1 (by omega))) (weq_l0 ins h1 a b hl.2.1 hl.2.2.1 a.length 0 (ins + (gs.length : Int)) (gs ++ [(⟨1, 1, 0⟩ : S66)]) (by omega) (by have := hl.2.2.1; simp; omega))) ?_
 rw [List.drop_zero, List.length_append, List.length_singleton, show ins + ((gs.length + 1 : Nat) : Int) = ins + (gs.length : Int) + 1 by omega]
 exact ev_ask (spec_GoodCircuit_tells ins _ os) (fun _ => ev_pos rfl (Ev.now _)) (fun g => absurd hg g)
theorem spec_EqGates_no {ins : Int} {gs : List S66} {os a b : List Int} (h : ¬ EqOk ins gs os a b) : Ev (fun k => spec_EqGates.f k ins gs os a b) (0, [], [], 0, false) := by
 refine ev_ask (l4Lists_tells ins gs os a b) (fun hl => ev_pos rfl ?_) (fun g => ev_neg (by simp) (Ev.now _))
 have h1 := hl.1.1
 have h2 := hl.1.2.1
 have h3 := hl.1.2.2.1
 refine Ev.bind (ev_const (l4Own_eq ins gs os (by omega) (by omega))) ?_
 refine Ev.bind (Ev.bind (ev_const (gate_eq ins gs 1 1 0 h1 (by omega))) (weq_l0 ins h1 a b hl.2.1 hl.2.2.1 a.length 0 (ins + (gs.length : Int)) (gs ++ [(⟨1, 1, 0⟩ : S66)]) (by omega) (by have := hl.2.2.1; simp; omega))) ?_
 rw [List.drop_zero, List.length_append, List.length_singleton, show ins + ((gs.length + 1 : Nat) : Int) = ins + (gs.length : Int) + 1 by omega]
 exact ev_ask (spec_GoodCircuit_tells ins _ os) (fun hg => absurd ⟨hl, hg⟩ h) (fun g => ev_neg (by simp) (Ev.now _))

theorem FnCompared : ∀ (l0 : List (Int)) (l1 : List (Int)), (l0.length ≤ 9223372036854775807 ∧ ∀ x ∈ l0, InU8 x) → (l1.length ≤ 9223372036854775807 ∧ ∀ x ∈ l1, InU8 x) → ∃ k, laws_FnCompared.f k l0 l1 = some true := by
  intro l0 l1 h0 h1
  refine Ev.rounds ?_
  refine Ev.bind (ev_const (big_eq l0 l1 h0.1 h1.1)) ?_
  by_cases hs : l0.length + l1.length ≤ 1048576
  · refine ev_neg (by simpa using hs) ?_
    obtain ⟨ins, gs, os, a, b, c, hd, r1, r2, r3, r4, ra, rb⟩ := DrawAddGates_ex h0
    refine Ev.bind (Ev.bind hd (Ev.now _)) ?_
    -- both sides agree on the second comparison, whatever comes of it
    have second : ∀ (i2 : Int) (g2 : List S66) (o2 : List Int) (wl : Int) (ok : Bool), g2.length ≤ 1000 → o2.length ≤ 1000 → (EqOk i2 g2 o2 a b → Ev (fun k => laws_FnCompared.j1 k l1 a b wl ok ((eqG (i2 + (g2.length : Int) + 1) (i2 + (g2.length : Int)) (a.zip b)).2) true false ins gs os i2 ((g2 ++ [(⟨1, 1, 0⟩ : S66)]) ++ (eqG (i2 + (g2.length : Int) + 1) (i2 + (g2.length : Int)) (a.zip b)).1) o2) true) → (¬ EqOk i2 g2 o2 a b → Ev (fun k => laws_FnCompared.j1 k l1 a b wl ok 0 false false ins gs os 0 [] []) true) → Ev (fun k => laws_FnCompared.j0 k l1 a b wl ok false ins gs os i2 g2 o2) true := fun i2 g2 o2 wl ok hg2 ho2 hy hn => by
      refine Ev.step (fun k => by rw [laws_FnCompared.j0, if_neg (by simp)]) ?_
      by_cases hE : EqOk i2 g2 o2 a b
      · have h300 := hE.2.2.1
        have h16 := hE.2.2.2.1
        refine Ev.bind (impl_EqGates_yes hE) (Ev.bind (spec_EqGates_yes hE) (ev_neg (by simp) (Ev.bind (sameCircuit_ev i2 ((g2 ++ [(⟨1, 1, 0⟩ : S66)]) ++ (eqG (i2 + (g2.length : Int) + 1) (i2 + (g2.length : Int)) (a.zip b)).1) o2 (by omega) (by omega)) (ev_pos rfl ?_))))
        exact Ev.congr (fun k => by simp) (hy hE)
      · refine Ev.bind (impl_EqGates_no hE) (Ev.bind (spec_EqGates_no hE) (ev_neg (by simp) (Ev.bind (sameCircuit_ev 0 [] [] (by simp) (by simp)) (ev_pos rfl ?_))))
        exact Ev.congr (fun k => by simp) (hn hE)
    by_cases h : LessOk ins gs os a b
    · have hh := h
      obtain ⟨hl, hG⟩ := h
      have hg300 := hG.2.1
      have hg16 := hG.2.2.1
      have i16 := hl.1.1
      have n16 := hl.2.2.1
      have hz : (a.zip b).length = a.length := by rw [List.length_zip, ← hl.2.1, Nat.min_self]
      have al1 := lessG_len (a.zip b) (ins + (gs.length : Int) + 1) (ins + (gs.length : Int))
      have al2 := lessG_wire (a.zip b) (ins + (gs.length : Int) + 1) (ins + (gs.length : Int)) (by omega) (by omega)
      obtain ⟨gL, hgL⟩ : ∃ g, g = (gs ++ [(⟨1, 0, 0⟩ : S66)]) ++ (lessG (ins + (gs.length : Int) + 1) (ins + (gs.length : Int)) (a.zip b)).1 := ⟨_, rfl⟩
      obtain ⟨wl, hwl⟩ : ∃ w, w = (lessG (ins + (gs.length : Int) + 1) (ins + (gs.length : Int)) (a.zip b)).2 := ⟨_, rfl⟩
      have hLl : gL.length = gs.length + 1 + 6 * a.length := by rw [hgL, List.length_append, List.length_append, al1, hz]; simp
      rw [← hgL] at hg300 hG
      rw [← hwl, hz] at al2
      have yes := impl_LessGates_yes hh
      have yes' := spec_LessGates_yes hh
      rw [← hgL, ← hwl] at yes yes'
      refine Ev.bind yes (Ev.bind yes' (ev_neg (by simp) (Ev.bind (sameCircuit_ev ins gL os (by omega) (by omega)) (ev_pos rfl ?_))))
      refine Ev.congr (fun k => by simp only [bne_self_eq_false]) (second ins gL os wl true (by omega) (by omega) (fun hE => ?_) (fun hE => ?_))
      · obtain ⟨hlE, hGE⟩ := hE
        have hE300 := hGE.2.1
        have bl1 := eqG_len (a.zip b) (ins + (gL.length : Int) + 1) (ins + (gL.length : Int))
        have bl2 := eqG_wire (a.zip b) (ins + (gL.length : Int) + 1) (ins + (gL.length : Int)) (by omega) (by omega)
        obtain ⟨gE, hgE⟩ : ∃ g, g = (gL ++ [(⟨1, 1, 0⟩ : S66)]) ++ (eqG (ins + (gL.length : Int) + 1) (ins + (gL.length : Int)) (a.zip b)).1 := ⟨_, rfl⟩
        obtain ⟨we, hwe⟩ : ∃ w, w = (eqG (ins + (gL.length : Int) + 1) (ins + (gL.length : Int)) (a.zip b)).2 := ⟨_, rfl⟩
        have hEl : gE.length = gL.length + 1 + 3 * a.length := by rw [hgE, List.length_append, List.length_append, bl1, hz]; simp
        rw [← hgE] at hE300 hGE
        rw [← hwe, hz] at bl2
        rw [← hgE, ← hwe]
        refine Ev.step (fun k => by rw [laws_FnCompared.j1, if_neg (by simp), if_pos rfl]) ?_
        refine Ev.step (fun k => by rw [laws_FnCompared.j2, if_neg (by simp)]) ?_
        obtain ⟨N, hN, _, _⟩ := numberOf_ex l1 ⟨by omega, h1.2⟩
        have body : ∀ v : List Bool, (v.length : Int) = ins → Ev (fun k => laws_FnCompared.l0 k l1 a b wl we v ins ins gs os ins gE os) true := fun v hv => by
          have hV0 : ((runC v gs).length : Int) = ins + (gs.length : Int) := by rw [runC_len]; omega
          have hVL : ((runC v gL).length : Int) = ins + (gL.length : Int) := by rw [runC_len]; omega
          have hV : ((runC v gE).length : Int) = ins + (gE.length : Int) := by rw [runC_len]; omega
          have eL : runC v gL = runC (runC v gs ++ [false]) (lessG (ins + (gs.length : Int) + 1) (ins + (gs.length : Int)) (a.zip b)).1 := by
            rw [hgL, runC_append, runC_append]; rfl
          have eE : runC v gE = runC (runC v gL ++ [true]) (eqG (ins + (gL.length : Int) + 1) (ins + (gL.length : Int)) (a.zip b)).1 := by
            rw [hgE, runC_append, runC_append]; rfl
          have hin : ∀ m : Int, ins + (gs.length : Int) ≤ m → ∀ p ∈ a.zip b, (0 ≤ p.1 ∧ p.1 < m) ∧ 0 ≤ p.2 ∧ p.2 < m := fun m hm p hp => by
            have := hl.2.2.2.1 _ (List.of_mem_zip hp).1
            have := hl.2.2.2.2 _ (List.of_mem_zip hp).2
            omega
          have f1 : (a.zip b).map Prod.fst = a := List.map_fst_zip (by have := hl.2.1; omega)
          have f2 : (a.zip b).map Prod.snd = b := List.map_snd_zip (by have := hl.2.1; omega)
          have up : ∀ ws, Wires (ins + (gs.length : Int)) ws → Wires ((runC v gE).length : Int) ws := fun ws hw w h => by have := hw w h; omega
          have nL : ∀ ws, Wires (ins + (gs.length : Int)) ws → num (runC v gL) ws = num (runC v gs) ws := fun ws hw => by
            rw [eL, num_run (fun w h => by have := hw w h; simp; omega), num_append (by rw [hV0]; exact hw)]
          have nE : ∀ ws, Wires (ins + (gs.length : Int)) ws → num (runC v gE) ws = num (runC v gs) ws := fun ws hw => by
            rw [eE, num_run (fun w h => by have := hw w h; simp; omega), num_append (fun w h => by have := hw w h; omega), nL ws hw]
          have vl := lessG_val (a.zip b) (ins + (gs.length : Int) + 1) (ins + (gs.length : Int)) (runC v gs ++ [false]) (by simp; omega) (hin _ (by omega)) (by omega) (by omega)
          rw [f1, f2, ← eL, ← hwl, num_append (by rw [hV0]; exact hl.2.2.2.1), num_append (by rw [hV0]; exact hl.2.2.2.2), wv_last _ false hV0.symm, Bool.and_false, Bool.or_false] at vl
          have ve := eqG_val (a.zip b) (ins + (gL.length : Int) + 1) (ins + (gL.length : Int)) (runC v gL ++ [true]) (by simp; omega) (hin _ (by omega)) (by omega) (by omega)
          rw [f1, f2, ← eE, ← hwe, num_append (fun w h => by have := hl.2.2.2.1 w h; omega), num_append (fun w h => by have := hl.2.2.2.2 w h; omega), wv_last _ true hVL.symm, Bool.and_true, nL a hl.2.2.2.1, nL b hl.2.2.2.2] at ve
          have vl2 : wv (runC v gE) wl = wv (runC v gL) wl := by
            rw [eE, wv_run _ _ al2.1 (by simp; omega), wv_append al2.1 (by omega)]
          rw [vl] at vl2
          have w9 : wrap64 ((wrap64 ((wrap64 ((gs.length : Int) + ins)) + 2)) + (wrap64 (9 * (a.length : Int)))) = ((runC v gE).length : Int) := by
            rw [wid (x := (gs.length : Int) + ins) (by omega) (by omega), wid (x := (gs.length : Int) + ins + 2) (by omega) (by omega), wid (x := 9 * (a.length : Int)) (by omega) (by omega), wid (by omega) (by omega)]; omega
          refine Ev.step (fun k => by simp only [laws_FnCompared.l0]; rw [if_neg (by omega)]) ?_
          refine Ev.bind (impl_AllWires_yes hGE v hv) (ev_pos rfl (ev_pos (by rw [w9]) (ev_neg (by omega) (ev_neg (by show ¬ wl ≥ ((runC v gE).length : Int); omega) (ev_neg (by omega) ?_)))))
          refine Ev.step (fun k => by rw [laws_FnCompared.j4, if_neg (by show ¬ decide (we ≥ ((runC v gE).length : Int)) = true; simp; omega)]) ?_
          refine Ev.bind (carried_ev (runC v gE) a (up a hl.2.2.2.1) (by omega)) (Ev.bind (carried_ev (runC v gE) b (up b hl.2.2.2.2) (by omega)) (ev_pos rfl (ev_pos (by rw [w9]) (ev_pos al2.1 (ev_pos (by show wl < ((runC v gE).length : Int); omega) (ev_pos ?_ (ev_pos bl2.1 (ev_pos (by show we < ((runC v gE).length : Int); omega) (ev_eq (Ev.now _) ?_)))))))))
          · show (rdOf false (runC v gE) wl == _) = true
            rw [rd_wv, vl2, nE a hl.2.2.2.1, nE b hl.2.2.2.2]; simp
          · show (rdOf false (runC v gE) we == _) = true
            rw [rd_wv, ve, nE a hl.2.2.2.1, nE b hl.2.2.2.2]
            rw [beq_iff_eq, Bool.eq_iff_iff, beq_iff_eq, decide_eq_true_iff]; omega
        have loop : ∀ (d : Nat) (v : List Bool), (v.length : Int) + (d : Int) = ins → Ev (fun k => laws_FnCompared.l0 k l1 a b wl we v (v.length : Int) ins gs os ins gE os) true := fun d => by
          induction d with
          | zero =>
            intro v hv
            have hv : (v.length : Int) = ins := by omega
            rw [hv]; exact body v hv
          | succ d ih =>
            intro v hv
            refine Ev.step (fun k => by simp only [laws_FnCompared.l0]; rw [if_pos (by omega)]) (Ev.bind hN ?_)
            have hu : IntKind.u64.wrap (v.length : Int) = (v.length : Int) := by rw [wu]; omega
            refine ev_pos (by rw [hu]; omega) (ev_pos (by omega) ?_)
            refine Ev.congr (fun k => ?_) (ih (v ++ [((Go.bits .and .i64 (shr .i64 N (IntKind.u64.wrap (v.length : Int))) 1) == 1)]) (by simp; omega))
            rw [wsucc (by omega), List.length_append, List.length_singleton]
        exact loop ins.toNat [] (by simp; omega)
      · refine Ev.step (fun k => by rw [laws_FnCompared.j1, if_neg (by simp), if_pos rfl]) ?_
        exact Ev.step (f := fun _ => some true) (fun k => by rw [laws_FnCompared.j2, if_pos (by simp)]) (Ev.now _)
    · refine Ev.bind (impl_LessGates_no h) (Ev.bind (spec_LessGates_no h) (ev_neg (by simp) (Ev.bind (sameCircuit_ev 0 [] [] (by simp) (by simp)) (ev_pos rfl ?_))))
      have last : ∀ (we : Int) (o : Bool) (i2 : Int) (g2 : List S66) (o2 : List Int), Ev (fun k => laws_FnCompared.j1 k l1 a b 0 false we o false ins gs os i2 g2 o2) true := fun we o i2 g2 o2 => by
        refine Ev.step (fun k => by rw [laws_FnCompared.j1, if_neg (by simp), if_neg (by simp)]) ?_
        exact Ev.step (f := fun _ => some true) (fun k => by rw [laws_FnCompared.j2, if_pos rfl]) (Ev.now _)
      exact Ev.congr (fun k => by simp only [bne_self_eq_false]) (second 0 [] [] 0 false (by simp) (by simp) (fun _ => last _ _ _ _ _) (fun _ => last _ _ _ _ _))
  · exact ev_pos (by simpa using hs) (Ev.now _)

end Go.Proofs.Ytejlobcjgbeeaaa.Pure
