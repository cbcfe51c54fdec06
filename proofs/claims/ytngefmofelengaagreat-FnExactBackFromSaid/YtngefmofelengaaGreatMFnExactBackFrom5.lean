/- Go functions of this seat as Lean functions, and the proofs that the calls come to what these say; printed by a program of this session. No condition. -/
import Derived.Test.YtngefmofelengaaGreatP0
import Derived.Test.YtngefmofelengaaGreatMFnExactBackFrom1
import Derived.Test.YtngefmofelengaaGreatMFnExactBackFrom2
import Derived.Test.YtngefmofelengaaGreatMFnExactBackFrom3
import Derived.Test.YtngefmofelengaaGreatMFnExactBackFrom4
set_option linter.unusedVariables false
set_option linter.unusedSimpArgs false
set_option maxHeartbeats 40000000
set_option maxRecDepth 100000
namespace Go.Proofs.YtngefmofelengaaGreat.P
open Go.RowKit Go.Proofs.YtngefmofelengaaGreatW.PrintWords Go.Proofs.YtngefmofelengaaGreatW.PrintLast Go.Proofs.YtngefmofelengaaGreatW.PrintMore Go.Proofs.YtngefmofelengaaGreat.Hof
attribute [local go_sem] max2_int min2_int max_two min_two max_three min_three max_four min_four
/-- What marking may have written: no block beyond P; each block keeps its type and its size; the rows that lead to rows keep what leads there. -/
def MkRel (P : Nat → Prop) (w w' : World) : Prop :=
 Kept w w' P ∧ ∀ (k : Nat) (cur : Array Value) (e : TypeId) (fr : Nat × Nat), w.heap[k]? = some (.cells cur e fr) → ∃ cur' : Array Value, w'.heap[k]? = some (.cells cur' e fr) ∧ cur'.size = cur.size ∧ (e = 95 → cur' = cur) ∧ (e = 124 → ∀ j, cur'[2 * j + 1]? = cur[2 * j + 1]?)
theorem MkRel.refl (P : Nat → Prop) (w : World) : MkRel P w w := ⟨Kept.refl w P, fun k cur e fr h => ⟨cur, h, rfl, fun _ => rfl, fun _ _ => rfl⟩⟩
theorem MkRel.trans {P : Nat → Prop} {a b c : World} (h : MkRel P a b) (h' : MkRel P b c) : MkRel P a c :=
 ⟨h.1.then_ h'.1 (fun _ hk => .inl hk), fun k cur e fr hc => by
  obtain ⟨c1, h1, s1, t1, u1⟩ := h.2 k cur e fr hc
  obtain ⟨c2, h2, s2, t2, u2⟩ := h'.2 k c1 e fr h1
  exact ⟨c2, h2, s2.trans s1, fun he => (t2 he).trans (t1 he), fun he j => (u2 he j).trans (u1 he j)⟩⟩
theorem MkRel.set {P : Nat → Prop} {w : World} {g i : Nat} {cur : Array Value} {e : TypeId} (h : w.heap[g]? = some (.cells cur e (0, 0))) (hP : P g) (he : e ≠ 95) (hi : e = 124 → ∃ j, i = 2 * j) (u : Value) : MkRel P w (w.setCell ⟨g, i, none⟩ u) := by
 refine ⟨(Kept.refl w P).setCell (.inl hP) u, fun k c e' fr hc => ?_⟩
 by_cases hk : k = g
 ·subst hk
  rw [h] at hc
  injection hc with hc
  injection hc with h1 h2 h3
  subst h1; subst h2; subst h3
  refine ⟨_, blk_set h i u, by simp, fun h95 => absurd h95 he, fun h124 j => ?_⟩
  obtain ⟨q, rfl⟩ := hi h124
  rw [Array.getElem?_setIfInBounds]
  rw [if_neg (by omega)]
 ·exact ⟨c, (Below.heap_setCell w _ u k hk).trans hc, rfl, fun _ => rfl, fun _ _ => rfl⟩
theorem MkRel.of_below {P : Nat → Prop} {w w' : World} (h : Below w.heap.size w w') : MkRel P w w' :=
 ⟨Kept.of_below h P, fun k cur e fr hc => ⟨cur, (h.block k (blk_lt hc)).trans hc, rfl, fun _ => rfl, fun _ _ => rfl⟩⟩
def Blk (e : TypeId) (W : World) (P : Nat → Prop) (base : Nat) (v : Value) (n : Nat) (I : Array Value → Prop) : Prop :=
 n ≤ 9223372036854775807 ∧ ((n = 0 ∧ v = .slice none 0 0) ∨ ∃ g cap cur, v = .slice (some ⟨g, 0, none⟩) n cap ∧ P g ∧ base ≤ g ∧ W.heap[g]? = some (.cells cur e (0, 0)) ∧ n ≤ cap ∧ cur.size = cap * 2 ∧ I cur)
def Sh79 (W : World) (P : Nat → Prop) (base : Nat) (v : Value) (n : Nat) : Prop := Blk 79 W P base v n (fun _ => True)
def Sh124 (W : World) (P : Nat → Prop) (base : Nat) (v : Value) (ns : List Nat) : Prop := Blk 124 W P base v ns.length (fun cur => ∀ i, i < ns.length → ∃ u, cur[2 * i + 1]? = some u ∧ Sh79 W P base u (ns.getD i 0))
def Sh95 (W : World) (P : Nat → Prop) (base : Nat) (v : Value) (ms : List (Nat × List Nat)) : Prop :=
 Blk 95 W P base v ms.length (fun cur => ∀ i, i < ms.length → ∃ u1 u2, cur[2 * i]? = some u1 ∧ cur[2 * i + 1]? = some u2 ∧ Sh79 W P base u1 (ms.getD i (0, [])).1 ∧ Sh124 W P base u2 (ms.getD i (0, [])).2)
section
variable {P : Nat → Prop} {w w' : World} {base n : Nat} {v : Value}
theorem Blk.rel {e : TypeId} {I I' : Array Value → Prop} (hk : MkRel P w w') (h : Blk e w P base v n I) (hI : ∀ cur cur', (e = 95 → cur' = cur) → (e = 124 → ∀ j, cur'[2 * j + 1]? = cur[2 * j + 1]?) → I cur → I' cur') : Blk e w' P base v n I' := by
 obtain ⟨hn, h | ⟨g, cap, cur, rfl, hP, hb, hc, hl, hs, hI1⟩⟩ := h
 ·exact ⟨hn, .inl h⟩
 ·obtain ⟨c', h1, h2, h3, h4⟩ := hk.2 g cur e (0, 0) hc
  exact ⟨hn, .inr ⟨g, cap, c', rfl, hP, hb, h1, hl, h2.trans hs, hI cur c' h3 h4 hI1⟩⟩
theorem Sh79.rel (hk : MkRel P w w') (h : Sh79 w P base v n) : Sh79 w' P base v n := Blk.rel hk h (fun _ _ _ _ _ => trivial)
theorem Sh124.rel {ns : List Nat} (hk : MkRel P w w') (h : Sh124 w P base v ns) : Sh124 w' P base v ns :=
 Blk.rel hk h (fun cur cur' _ h2 hI i hi => by
  obtain ⟨u, h1, hs⟩ := hI i hi
  exact ⟨u, (h2 rfl i).trans h1, hs.rel hk⟩)
theorem Sh95.rel {ms : List (Nat × List Nat)} (hk : MkRel P w w') (h : Sh95 w P base v ms) : Sh95 w' P base v ms :=
 Blk.rel hk h (fun cur cur' h1 _ hI i hi => by
  rw [h1 rfl]
  obtain ⟨u1, u2, e1, e2, s1, s2⟩ := hI i hi
  exact ⟨u1, u2, e1, e2, s1.rel hk, s2.rel hk⟩)
theorem Blk.of {α : Type} {d : Kd α} {e : TypeId} {xs : List α} {I : Array Value → Prop} (hd : d.sz = 2) (h : d.R e w base P v xs)
  (hI : ∀ cur : Array Value, (∀ i, i < xs.length → ∃ c, c.length = 2 ∧ (∀ j, j < 2 → cur[2 * i + j]? = c[j]?) ∧ ∃ x, xs[i]? = some x ∧ d.M w base (fun k => P k ∧ some k ≠ v.ownBlock) x c) → I cur) : Blk e w P base v xs.length I := by
 obtain ⟨hok, inner, hown, hrep⟩ := h
 have hn : xs.length ≤ 9223372036854775807 := (Kd.R_reads ⟨hok, inner, hown, hrep⟩).choose_spec.choose_spec.2.2.2.1
 refine ⟨hn, ?_⟩
 obtain ⟨hl, ⟨e1, hz⟩ | ⟨g, cap, cur, e1, hbg, hcur, hcap, _, hsz, htake⟩⟩ := hown
 ·exact .inl ⟨hz, e1⟩
 ·refine .inr ⟨g, cap, cur, e1, hok g (by rw [e1]; simp [Value.ownBlock]), hbg, hcur, hcap, by rw [hsz, hd], hI cur (fun i hi => ?_)⟩
  have hM := hrep.2 i xs[i] (List.getElem?_eq_getElem hi)
  rw [hd] at hl htake hM
  refine ⟨_, ?_, fun j hj => ?_, xs[i], List.getElem?_eq_getElem hi, hM⟩
  ·simp; omega
  ·rw [List.getElem?_take, if_pos hj, List.getElem?_drop, ← htake, List.getElem?_take, if_pos (by omega), Array.getElem?_toList, Nat.mul_comm i 2]
theorem Sh79.of {l : List S79} (h : Kd.R k79 79 w base P v l) : Sh79 w P base v l.length := Blk.of rfl h (fun _ _ => trivial)
theorem Sh124.of {l : List S124} (h : Kd.R k124 124 w base P v l) : Sh124 w P base v (l.map (fun x => x.f1.length)) := by
 have := Blk.of (I := fun cur => ∀ i, i < (l.map (fun x => x.f1.length)).length → ∃ u, cur[2 * i + 1]? = some u ∧ Sh79 w P base u ((l.map (fun x => x.f1.length)).getD i 0)) rfl h (fun cur hc i hi => by
  simp only [List.length_map] at hi
  obtain ⟨c, h2, hj, x, hx, hM⟩ := hc i hi
  obtain ⟨v1, rfl, hr⟩ := k124_openM hM
  refine ⟨v1, hj 1 (by omega), ?_⟩
  rw [List.getD_eq_getElem?_getD, List.getElem?_map, hx]
  exact Sh79.of (Kd.R_mono hr (fun k hk => hk.1)))
 unfold Sh124
 rw [List.length_map] at this ⊢
 exact this
theorem Sh95.of {l : List S95} (h : Kd.R k95 95 w base P v l) : Sh95 w P base v (l.map (fun x => (x.f0.length, x.f1.map (fun y => y.f1.length)))) := by
 have := Blk.of (I := fun cur => ∀ i, i < (l.map (fun x => (x.f0.length, x.f1.map (fun y => y.f1.length)))).length → ∃ u1 u2, cur[2 * i]? = some u1 ∧ cur[2 * i + 1]? = some u2 ∧ Sh79 w P base u1 ((l.map (fun x => (x.f0.length, x.f1.map (fun y => y.f1.length)))).getD i (0, [])).1 ∧ Sh124 w P base u2 ((l.map (fun x => (x.f0.length, x.f1.map (fun y => y.f1.length)))).getD i (0, [])).2) rfl h (fun cur hc i hi => by
  simp only [List.length_map] at hi
  obtain ⟨c, h2, hj, x, hx, hM⟩ := hc i hi
  obtain ⟨v0, v1, rfl, hr0, hr1⟩ := k95_openM hM
  refine ⟨v0, v1, hj 0 (by omega), hj 1 (by omega), ?_⟩
  rw [List.getD_eq_getElem?_getD, List.getElem?_map, hx]
  exact ⟨Sh79.of (Kd.R_mono hr0 (fun k hk => hk.1)), Sh124.of (Kd.R_mono hr1 (fun k hk => hk.1))⟩)
 unfold Sh95
 rw [List.length_map] at this ⊢
 exact this
end
def mk124 : List Nat → Nat
 | [] => 0
 | n :: t => 1 + 2 * n + mk124 t
def mk95 : List (Nat × List Nat) → Nat
 | [] => 0
 | x :: t => 2 * x.1 + mk124 x.2 + mk95 t
theorem mk124_drop : ∀ (l : List Nat) (j : Nat), j < l.length → mk124 (l.drop j) = 1 + 2 * l.getD j 0 + mk124 (l.drop (j + 1)) := fun l j h => by
 rw [List.drop_eq_getElem_cons h, mk124]; simp [List.getD_eq_getElem?_getD, List.getElem?_eq_getElem h]
theorem mk95_drop : ∀ (l : List (Nat × List Nat)) (j : Nat), j < l.length → mk95 (l.drop j) = 2 * (l.getD j (0, [])).1 + mk124 (l.getD j (0, [])).2 + mk95 (l.drop (j + 1)) := fun l j h => by
 rw [List.drop_eq_getElem_cons h, mk95]; simp [List.getD_eq_getElem?_getD, List.getElem?_eq_getElem h]
theorem mkNodeS (P : Nat → Prop) (v : Value) (n : Nat) (a : Int) (w0 w : World) (hB : Below w0.heap.size w0 w) (hs : Sh79 w P w0.heap.size v n) (h0 : 0 ≤ a) (h1 : a + 2 * n ≤ 4611686018427387904) :
  Calls Tryz.prog 45 #[v, .int .i64 a] w fun e w' => e = .returned (.int .i64 (a + 2 * n)) ∧ Below w0.heap.size w0 w' ∧ MkRel P w w' := by
 obtain ⟨hn, ⟨rfl, rfl⟩ | ⟨g, cap, cur, rfl, hP, hb, hc, hl, hsz, _⟩⟩ := hs
 ·go_enter Tryz.func45, Tryz.ntmps45
  go_wp2
  go_loopg [1, 5] 0 (fun gg v1 v5 wr => v1 = .int .i64 a ∧ v5 = .int .i64 0 ∧ Aside0 (wr = w))
  case atStart => exact ⟨rfl, rfl, ⟨rfl⟩⟩
  case round =>
   obtain ⟨rfl, rfl, HW⟩ := hrel
   have hw := HW.out
   subst hw
   go_wp2
   go_ret
   exact ⟨by simp, hB, MkRel.refl P _⟩
 ·have HC := am_ hc
  have HPB := am_ (And.intro hP hb)
  have HB := am_ hB
  have HS := am_ hsz
  clear hc hP hb hB hsz
  go_enter Tryz.func45, Tryz.ntmps45
  go_wp2
  go_loopg [1, 5] n (fun gg v1 v5 wr => ∃ j : Nat, j ≤ n ∧ n - j ≤ gg ∧ v1 = .int .i64 (a + 2 * j) ∧ v5 = .int .i64 j ∧ Aside0 (Below w0.heap.size w0 wr) ∧ Aside0 (MkRel P w wr))
  case atStart => exact ⟨0, Nat.zero_le _, by omega, by simp, rfl, HB, ⟨MkRel.refl P w⟩⟩
  case round =>
   obtain ⟨j, hj, hg, rfl, rfl, HB2, HM⟩ := hrel
   by_cases hlt : j < n
   ·have hltz : (j : Int) < (n : Int) := by omega
    have h0z : 0 ≤ (j : Int) := by omega
    obtain ⟨c', hc1, hs1, _, _⟩ := HM.out.2 g cur 79 (0, 0) HC.out
    have hs2 := HS.out
    have hx : wr.cell? ⟨g, j * 2, none⟩ = some (c'[j * 2]'(by omega)) := (blk_cell hc1 (j * 2)).trans (Array.getElem?_eq_getElem _)
    have hf : wr.frozen? ⟨g, j * 2, none⟩ = false := blk_frozen hc1 _
    have HC1 := am_ hc1
    have HS1 := am_ hs1
    clear hc1
    go_wp2_with (first | ((with_reducible refine gate_store (t := 3) (p := 16) rfl ?_); refine store_event (t := 3) (p := 16) (v := ?vo) (w1 := (wr.setCell ⟨g, j * 2, none⟩ (.int .i64 (a + 2 * j)))) ?hg ?ho ?hn ?hr ?_; (case ho => rfl); (case hg => rfl); (case hn => rfl); (case hr => first | (go_simp; done) | (go_simp; rfl)); intro w9 hw; have n0_ := am_ (show Below w0.heap.size w0 w9 from by rw [hw]; exact below_set HB2.out HPB.out.2); have n1_ := am_ (show MkRel P w w9 from by rw [hw]; exact HM.out.trans (MkRel.set HC1.out HPB.out.1 (by decide) (fun h_ => absurd h_ (by decide)) _)); have hc2 := blk_set HC1.out (j * 2) (.int .i64 (a + 2 * j)); rw [← hw] at hc2; have hx9 : w9.cell? ⟨g, j * 2 + 1, none⟩ = some (c'[j * 2 + 1]'(by have := HS1.out; have := HS.out; omega)) := (blk_cell hc2 (j * 2 + 1)).trans (by rw [Array.getElem?_setIfInBounds, if_neg (by omega)]; exact Array.getElem?_eq_getElem _); have hf9 : w9.frozen? ⟨g, j * 2 + 1, none⟩ = false := blk_frozen hc2 _; have HC2 := am_ hc2; clear hc2 hw HB2 HM hx hf; have HB2 := n0_; have HM := n1_; clear n0_ n1_))
    go_roundg (n - (j + 1))
    case measure => omega
    case rel => exact ⟨j + 1, by omega, by omega, by go_num, by go_num, ⟨below_set HB2.out HPB.out.2⟩, ⟨HM.out.trans (MkRel.set HC2.out HPB.out.1 (by decide) (fun h_ => absurd h_ (by decide)) _)⟩⟩
   ·have hltz : ¬ (j : Int) < (n : Int) := by omega
    have hjn : j = n := by omega
    subst hjn
    go_wp2
    go_ret
    exact ⟨rfl, HB2.out, HM.out⟩
theorem mkChangeS (P : Nat → Prop) (v : Value) (ns : List Nat) (a : Int) (w0 w : World) (hB : Below w0.heap.size w0 w) (hs : Sh124 w P w0.heap.size v ns) (h0 : 0 ≤ a) (h1 : a + mk124 ns ≤ 4611686018427387904) :
  Calls Tryz.prog 94 #[v, .int .i64 a] w fun e w' => e = .returned (.int .i64 (a + mk124 ns)) ∧ Below w0.heap.size w0 w' ∧ MkRel P w w' := by
 have HSH := am_ hs
 obtain ⟨hn, ⟨hz, rfl⟩ | ⟨g, cap, cur, rfl, hP, hb, hc, hl, hsz, _⟩⟩ := hs
 ·have hns : ns = [] := List.length_eq_zero_iff.1 hz
  subst hns
  clear HSH hz hn
  go_enter Tryz.func94, Tryz.ntmps94
  go_wp2
  go_loopg [1, 5] 0 (fun gg v1 v5 wr => v1 = .int .i64 a ∧ v5 = .int .i64 0 ∧ Aside0 (wr = w))
  case atStart => exact ⟨rfl, rfl, ⟨rfl⟩⟩
  case round =>
   obtain ⟨rfl, rfl, HW⟩ := hrel
   have hw := HW.out
   subst hw
   go_wp2
   go_ret
   exact ⟨by simp [mk124], hB, MkRel.refl P _⟩
 ·have HPB := am_ (And.intro hP hb)
  have HB := am_ hB
  clear hc hP hb hB hsz
  go_enter Tryz.func94, Tryz.ntmps94
  go_wp2
  go_loopg [1, 5] ns.length (fun gg v1 v5 wr => ∃ (j : Nat) (q : Int), j ≤ ns.length ∧ ns.length - j ≤ gg ∧ v1 = .int .i64 q ∧ v5 = .int .i64 j ∧ Aside0 (q + mk124 (ns.drop j) = a + mk124 ns) ∧ Aside0 (0 ≤ q) ∧ Aside0 (Below w0.heap.size w0 wr) ∧ Aside0 (MkRel P w wr))
  case atStart => exact ⟨0, a, Nat.zero_le _, by omega, rfl, rfl, ⟨by simp⟩, ⟨h0⟩, HB, ⟨MkRel.refl P w⟩⟩
  case round =>
   obtain ⟨j, q, hj, hg, rfl, rfl, HQ, HQ0, HB2, HM⟩ := hrel
   by_cases hlt : j < ns.length
   ·have hltz : (j : Int) < (ns.length : Int) := by omega
    have h0z : 0 ≤ (j : Int) := by omega
    have hq := HQ.out
    have hq0 := HQ0.out
    rw [mk124_drop ns j hlt] at hq
    obtain ⟨_, ⟨hz2, _⟩ | ⟨g2, cap2, c', hv2, _, _, hc1, hl1, hs1, hI⟩⟩ := Sh124.rel HM.out HSH.out
    ·omega
    injection hv2 with hv2 _ hv3
    injection hv2 with hv2
    injection hv2 with hv2
    subst hv2
    subst hv3
    obtain ⟨u, hu, hsu⟩ := hI j hlt
    generalize ns.getD j 0 = m at hsu hq
    have hx : wr.cell? ⟨g, j * 2, none⟩ = some (c'[j * 2]'(by omega)) := (blk_cell hc1 (j * 2)).trans (Array.getElem?_eq_getElem _)
    have hf : wr.frozen? ⟨g, j * 2, none⟩ = false := blk_frozen hc1 _
    have HC1 := am_ hc1
    have HU := am_ hu
    have HSU := am_ hsu
    clear hc1 hu hsu hI
    go_wp2_with (first | ((with_reducible refine gate_store (t := 3) (p := 16) rfl ?_); refine store_event (t := 3) (p := 16) (v := ?vo) (w1 := (wr.setCell ⟨g, j * 2, none⟩ (.int .i64 q))) ?hg ?ho ?hn ?hr ?_; (case ho => rfl); (case hg => rfl); (case hn => rfl); (case hr => first | (go_simp; done) | (go_simp; rfl)); intro w9 hw; have hr9 : MkRel P wr w9 := (by rw [hw]; exact MkRel.set HC1.out HPB.out.1 (by decide) (fun _ => ⟨j, Nat.mul_comm j 2⟩) _); have n0_ := am_ (show Below w0.heap.size w0 w9 from by rw [hw]; exact below_set HB2.out HPB.out.2); have n1_ := am_ (HM.out.trans hr9); have hc2 := blk_set HC1.out (j * 2) (.int .i64 q); rw [← hw] at hc2; have hx9 : w9.cell? ⟨g, j * 2 + 1, none⟩ = some u := (blk_cell hc2 (j * 2 + 1)).trans (by rw [Array.getElem?_setIfInBounds, if_neg (by omega), Nat.mul_comm j 2]; exact HU.out); have HS9 := am_ (HSU.out.rel hr9); clear hc2 hw HB2 HM hx hf hr9 HSU; have HB2 := n0_; have HM := n1_; clear n0_ n1_) | (go_at_call 45; (refine (mkNodeS P u m (q + 1) w0 _ HB2.out HS9.out (by omega) (by omega)).mono ?_); rintro e w' ⟨rfl, hb, hm⟩; have n0_ := am_ hb; have n1_ := am_ (HM.out.trans hm); clear hb hm HB2 HM; have HB2 := n0_; have HM := n1_; clear n0_ n1_))
    go_roundg (ns.length - (j + 1))
    case measure => omega
    case rel => exact ⟨j + 1, q + 1 + 2 * (m : Int), by omega, by omega, rfl, by go_num, ⟨by omega⟩, ⟨by omega⟩, HB2, HM⟩
   ·have hltz : ¬ (j : Int) < (ns.length : Int) := by omega
    have hq := HQ.out
    rw [List.drop_of_length_le (by omega)] at hq
    simp only [mk124] at hq
    have hq2 : q = a + mk124 ns := by omega
    subst hq2
    go_wp2
    go_ret
    exact ⟨rfl, HB2.out, HM.out⟩
theorem mkCommandS (P : Nat → Prop) (v : Value) (ms : List (Nat × List Nat)) (a : Int) (w0 w : World) (hB : Below w0.heap.size w0 w) (hs : Sh95 w P w0.heap.size v ms) (h0 : 0 ≤ a) (h1 : a + mk95 ms ≤ 4611686018427387904) :
  Calls Tryz.prog 46 #[v, .int .i64 a] w fun e w' => e = .returned (.int .i64 (a + mk95 ms)) ∧ Below w0.heap.size w0 w' ∧ MkRel P w w' := by
 have HSH := am_ hs
 obtain ⟨hn, ⟨hz, rfl⟩ | ⟨g, cap, cur, rfl, hP, hb, hc, hl, hsz, _⟩⟩ := hs
 ·have hns : ms = [] := List.length_eq_zero_iff.1 hz
  subst hns
  clear HSH hz hn
  go_enter Tryz.func46, Tryz.ntmps46
  go_wp2
  go_loopg [1, 5] 0 (fun gg v1 v5 wr => v1 = .int .i64 a ∧ v5 = .int .i64 0 ∧ Aside0 (wr = w))
  case atStart => exact ⟨rfl, rfl, ⟨rfl⟩⟩
  case round =>
   obtain ⟨rfl, rfl, HW⟩ := hrel
   have hw := HW.out
   subst hw
   go_wp2
   go_ret
   exact ⟨by simp [mk95], hB, MkRel.refl P _⟩
 ·have HPB := am_ (And.intro hP hb)
  have HB := am_ hB
  clear hc hP hb hB hsz
  go_enter Tryz.func46, Tryz.ntmps46
  go_wp2
  go_loopg [1, 5] ms.length (fun gg v1 v5 wr => ∃ (j : Nat) (q : Int), j ≤ ms.length ∧ ms.length - j ≤ gg ∧ v1 = .int .i64 q ∧ v5 = .int .i64 j ∧ Aside0 (q + mk95 (ms.drop j) = a + mk95 ms) ∧ Aside0 (0 ≤ q) ∧ Aside0 (Below w0.heap.size w0 wr) ∧ Aside0 (MkRel P w wr))
  case atStart => exact ⟨0, a, Nat.zero_le _, by omega, rfl, rfl, ⟨by simp⟩, ⟨h0⟩, HB, ⟨MkRel.refl P w⟩⟩
  case round =>
   obtain ⟨j, q, hj, hg, rfl, rfl, HQ, HQ0, HB2, HM⟩ := hrel
   by_cases hlt : j < ms.length
   ·have hltz : (j : Int) < (ms.length : Int) := by omega
    have h0z : 0 ≤ (j : Int) := by omega
    have hq := HQ.out
    have hq0 := HQ0.out
    rw [mk95_drop ms j hlt] at hq
    obtain ⟨_, ⟨hz2, _⟩ | ⟨g2, cap2, c', hv2, _, _, hc1, hl1, hs1, hI⟩⟩ := Sh95.rel HM.out HSH.out
    ·omega
    injection hv2 with hv2 _ hv3
    injection hv2 with hv2
    injection hv2 with hv2
    subst hv2
    subst hv3
    obtain ⟨u1, u2, hu1, hu2, hsu1, hsu2⟩ := hI j hlt
    generalize ms.getD j (0, []) = m at hsu1 hsu2 hq
    obtain ⟨m1, m2⟩ := m
    simp only at hsu1 hsu2 hq
    have hx : wr.cell? ⟨g, j * 2, none⟩ = some u1 := (blk_cell hc1 (j * 2)).trans (by rw [Nat.mul_comm j 2]; exact hu1)
    have HC1 := am_ hc1
    have HU2 := am_ hu2
    have HS1 := am_ hsu1
    have HS2 := am_ hsu2
    clear hc1 hu1 hu2 hsu1 hsu2 hI
    go_wp2_with (first | (go_at_call 45; (refine (mkNodeS P u1 m1 q w0 _ HB2.out HS1.out (by omega) (by omega)).mono ?_); rintro e w9 ⟨rfl, hb, hm⟩; have n0_ := am_ hb; have n1_ := am_ (HM.out.trans hm); obtain ⟨c9, hc9, _, ht9, _⟩ := hm.2 _ _ _ _ HC1.out; have hx9 : w9.cell? ⟨g, j * 2 + 1, none⟩ = some u2 := (blk_cell hc9 (j * 2 + 1)).trans (by rw [ht9 rfl, Nat.mul_comm j 2]; exact HU2.out); have HS9 := am_ (HS2.out.rel hm); clear hb hm HB2 HM hx hc9 ht9 HS2; have HB2 := n0_; have HM := n1_; clear n0_ n1_) | (go_at_call 94; (refine (mkChangeS P u2 m2 (q + 2 * m1) w0 _ HB2.out HS9.out (by omega) (by omega)).mono ?_); rintro e w' ⟨rfl, hb, hm⟩; have n0_ := am_ hb; have n1_ := am_ (HM.out.trans hm); clear hb hm HB2 HM; have HB2 := n0_; have HM := n1_; clear n0_ n1_))
    go_roundg (ms.length - (j + 1))
    case measure => omega
    case rel => exact ⟨j + 1, q + 2 * m1 + mk124 m2, by omega, by omega, rfl, by go_num, ⟨by omega⟩, ⟨by omega⟩, HB2, HM⟩
   ·have hltz : ¬ (j : Int) < (ms.length : Int) := by omega
    have hq := HQ.out
    rw [List.drop_of_length_le (by omega)] at hq
    simp only [mk95] at hq
    have hq2 : q = a + mk95 ms := by omega
    subst hq2
    go_wp2
    go_ret
    exact ⟨rfl, HB2.out, HM.out⟩
/-- How far markProgram counts. -/
def mkTot (l0 : List S79) (l1 : List S95) : Nat := 2 * l0.length + mk95 (l1.map (fun x => (x.f0.length, x.f1.map (fun y => y.f1.length))))
def laws_markProgram.f (k : Nat) (a0_0 a0_1 : Int) (l0_2 : List S79) (l0_3 : List S95) (a1 : Int) : Option Int := if 0 ≤ a1 ∧ a1 + mkTot l0_2 l0_3 ≤ 4611686018427387904 then some (a1 + mkTot l0_2 l0_3) else none
theorem laws_markProgram.calls (k : Nat) (P0_2_ : Nat → Prop) (a0_0 : Int) (a0_1 : Int) (u9002_ : Value) (l0_2 : List S79) (u9003_ : Value) (l0_3 : List S95) (a1 : Int) (r : Int) (w0 w : World) (hB : Below w0.heap.size w0 w) (ho0_2 : Kd.R k79 79 w w0.heap.size P0_2_ u9002_ l0_2) (ho0_3 : Kd.R k95 95 w w0.heap.size P0_2_ u9003_ l0_3) (h : laws_markProgram.f k a0_0 a0_1 l0_2 l0_3 a1 = some r) :
  Calls Tryz.prog 17 #[.agg #[.int .i64 a0_0, .int .i64 a0_1, u9002_, u9003_], .int .i64 a1] w fun e w' => e = .returned (.int .i64 r) ∧ Below w0.heap.size w0 w' ∧ Kept w w' (fun k_ => P0_2_ k_) := by
 have hf : 0 ≤ a1 ∧ a1 + mkTot l0_2 l0_3 ≤ 4611686018427387904 := by
  rcases Decidable.em (0 ≤ a1 ∧ a1 + mkTot l0_2 l0_3 ≤ 4611686018427387904) with h1 | h1
  ·exact h1
  ·rw [laws_markProgram.f, if_neg h1] at h; cases h
 rw [laws_markProgram.f, if_pos hf] at h
 obtain rfl := Option.some.inj h
 have HS2 := am_ (Sh79.of (Kd.R_mono (Kd.R_bound ho0_2) (fun k hk => (⟨hk.1, hk.2.2.1⟩ : P0_2_ k ∧ k < w.heap.size))))
 have HS3 := am_ (Sh95.of (Kd.R_mono (Kd.R_bound ho0_3) (fun k hk => (⟨hk.1, hk.2.2.1⟩ : P0_2_ k ∧ k < w.heap.size))))
 have HB := am_ hB
 have hu33 := Tryz.underlying33
 unfold mkTot at hf ⊢
 clear h ho0_2 ho0_3 hB
 generalize l0_3.map (fun x => (x.f0.length, x.f1.map (fun y => y.f1.length))) = ms at HS3 hf ⊢
 generalize l0_2.length = n at HS2 hf ⊢
 obtain ⟨tot, htot⟩ : ∃ tot : Int, a1 + ((2 * n + mk95 ms : Nat) : Int) = tot := ⟨_, rfl⟩
 have ht2 : a1 + 2 * n + mk95 ms = tot := by omega
 rw [htot]
 have HT := am_ ht2
 clear htot ht2
 go_enter Tryz.func17, Tryz.ntmps17
 go_wp2_with (first | ((with_reducible refine Sh.d 2 ?_); refine Sh.bx (N := 2) (cs := #[.int .i64 a0_0, .int .i64 a0_1, u9002_, u9003_]) (t := 33) (h := ?_); intro g hg w1 hbox hb; have HBX := am_ hbox; have HG := am_ hg; have HB1 := am_ (below_step HB.out hb); have HM := am_ (show MkRel (fun k => P0_2_ k ∧ k < w.heap.size) w w1 from MkRel.of_below hb); have HS4 := am_ (HS2.out.rel HM.out); have hx := (blk_cell hbox 2).trans (show _ = some u9002_ from rfl); have hfz := blk_frozen hbox 2; clear hg hbox hb) | (go_at_call 45; (refine (mkNodeS (fun k => P0_2_ k ∧ k < w.heap.size) u9002_ n a1 w0 _ HB1.out HS4.out hf.1 (by omega)).mono ?_); rintro e w2 ⟨rfl, hb, hm⟩; have HB2 := am_ hb; have HM2 := am_ (HM.out.trans hm); have hbox2 := blk_kept HBX.out hm.1 (fun h_ => by have := HG.out; omega); have HS5 := am_ (HS3.out.rel HM2.out); have hx2 := (blk_cell hbox2 3).trans (show _ = some u9003_ from rfl); have hfz2 := blk_frozen hbox2 3; clear hb hm hbox2 HM hx hfz) | (go_at_call 46; (refine (mkCommandS (fun k => P0_2_ k ∧ k < w.heap.size) u9003_ ms (a1 + 2 * n) w0 _ HB2.out HS5.out (by omega) (by omega)).mono ?_); rintro e w3 ⟨rfl, hb, hm⟩; have HB3 := am_ hb; have HM3 := am_ (HM2.out.trans hm); clear hb hm))
 go_ret
 exact ⟨by rw [HT.out]; rfl, HB3.out, HM3.out.1.mono (fun k hk => hk.1)⟩
def laws_markIntS.l0 : Nat → List Int → Int → Int → Option (Int × List Int)
 | 0, _, _, _ => none
 | k + 1, x0, x1, x5 => if x5 < (x0.length : Int) then (if 0 ≤ x5 then (laws_markIntS.l0 k (x0.set (x5 : Int).toNat x1) (wrap64 (x1 + 1)) (wrap64 (x5 + 1))) else (none)) else (some (x1, x0))
def laws_markIntS.f (k : Nat) (l0 : List Int) (a1 : Int) : Option (Int × List Int) := laws_markIntS.l0 k l0 a1 0
theorem laws_markIntS.mono_l : ∀ k, (∀ y0 y1 y2, LeO (laws_markIntS.l0 k y0 y1 y2) (laws_markIntS.l0 (k + 1) y0 y1 y2))
 | 0 => fun _ _ _ r h => by simp [laws_markIntS.l0] at h
 | k + 1 => by
  have ih0 := laws_markIntS.mono_l k
  ·intro y0 y1 y2
   unfold laws_markIntS.l0
   repeat' with_reducible first | apply ih0 | exact LeO.refl _ | exact LeO.none _ | apply LeO.ite | refine LeO.bind ?_ fun _ => ?_
theorem laws_markIntS.mono : ∀ a0 a1 k, LeO (laws_markIntS.f k a0 a1) (laws_markIntS.f (k + 1) a0 a1) := by
 intro a0 a1 k
 have ih0 := laws_markIntS.mono_l k
 unfold laws_markIntS.f
 repeat' with_reducible first | apply ih0 | exact LeO.refl _ | exact LeO.none _ | apply LeO.ite | refine LeO.bind ?_ fun _ => ?_
theorem laws_markIntS.calls (k : Nat) (P0_ : Nat → Prop) (u9000_ : Value) (l0 : List Int) (a1 : Int) (r1 : Int) (r2 : List Int) (w0 w : World) (hB : Below w0.heap.size w0 w) (ho0 : Kd.R (Kd.int .i64) 3 w w0.heap.size P0_ u9000_ l0) (h : laws_markIntS.f k l0 a1 = some (r1, r2)) :
  Calls Tryz.prog 18 #[u9000_, .int .i64 a1] w fun e w' => e = .returned (.int .i64 r1) ∧ Kd.R (Kd.int .i64) 3 w' w0.heap.size (fun k_ => (P0_ k_ ∨ w.heap.size ≤ k_)) u9000_ r2 ∧ Below w0.heap.size w0 w' ∧ Kept w w' (fun k_ => P0_ k_) := by
 have HO0 := am_ (show Kd.R (Kd.int .i64) 3 w w0.heap.size (fun k_ => (P0_ k_ ∨ w.heap.size ≤ k_)) u9000_ l0 from Kd.R_mono ho0 (fun k_ hk => (.inl hk)))
 have HK := am_ (Kept.refl w (fun k_ => P0_ k_))
 have HW0 := am_ hB.size
 have HB := am_ hB
 clear hB
 have H := h
 clear h
 unfold laws_markIntS.f at H
 have H' := am_ H
 clear H
 go_enter Tryz.func18, Tryz.ntmps18
 go_wp2
 go_loopg [1, 5] k (fun kq v1 v5 w' => ∃ (x0_1 : List Int) (x1_1 : Int) (x5_1 : Int), v1 = .int .i64 x1_1 ∧ v5 = .int .i64 x5_1 ∧ Aside0 (laws_markIntS.l0 kq x0_1 x1_1 x5_1 = some (r1, r2)) ∧ Aside0 (kq ≤ k) ∧ Aside0 (Kd.R (Kd.int .i64) 3 w' w0.heap.size (fun k_ => (P0_ k_ ∨ w.heap.size ≤ k_)) u9000_ x0_1) ∧ Aside0 (Kept w w' (fun k_ => P0_ k_)) ∧ Aside0 (Below w0.heap.size w0 w'))
 case atStart => exact ⟨(l0), (a1), (0), (Sh.es), (Sh.es), H', ⟨Nat.le_refl _⟩, ⟨Sh.rl HO0.out⟩, ⟨by repeat (first | (with_reducible first | exact HK.out | apply Kept.alloc | apply Kept.drewN | apply Kept.drew) | exact HK.out)⟩, ⟨Sh.bw⟩⟩
 case round =>
  clear H'
  obtain ⟨x0_1, x1_1, x5_1, rfl, rfl, HA, HK1, HO_0, HK, HB⟩ := hrel
  cases gk with
  | zero => exact absurd HA.out (by simp [laws_markIntS.l0])
  | succ k1 =>
   have H := HA.out
   clear HA
   simp only [laws_markIntS.l0] at H
   by_cases c3 : x5_1 < (x0_1.length : Int)
   ·rw [if_pos c3] at H
    replace c3 := decide_eq_true c3
    by_cases c4 : 0 ≤ x5_1
    ·rw [if_pos c4] at H
     replace c4 := decide_eq_true c4
     obtain ⟨y775, hy775⟩ : ∃ y_ : List Int, y_ = (x0_1.set (x5_1 : Int).toNat x1_1) := ⟨_, rfl⟩
     replace H : (laws_markIntS.l0 k1 y775 (wrap64 (x1_1 + 1)) (wrap64 (x5_1 + 1))) = some (r1, r2) := by first | (rw [hy775]; with_reducible exact H) | (have H2_ := (Option.bind_some _ _).symm.trans H; rw [hy775]; with_reducible exact H2_) | (have H2_ := (Option.bind_some _ _).symm.trans H; with_reducible exact H2_) | with_reducible exact H | (rw [hy775]; exact H) | exact H
     have Ny775 := am_ hy775
     clear hy775
     have H' := am_ H
     clear H
     obtain ⟨Ao6, co6, eo6⟩ := Kd.R_slice HO_0.out
     subst eo6
     have p5 : 0 ≤ (x5_1 : Int) := Sh.od
     have q5 : (x5_1 : Int) < ((x0_1.length : Int) : Int) := Sh.od
     obtain ⟨go5, co5, eo5, gb5, gl5, cl5, HG5⟩ := Kd.R_form HO_0.out (by omega)
     (first | cases eo5 | (injection eo5 with ea_ en_ ec_; (first | subst ea_ | (injection ea_ with ea_; subst ea_)); subst ec_; clear en_))
     have GB5 := am_ gb5
     have GG5 := am_ HG5
     clear gb5 gl5 HG5
     have HMgo5 := am_ (show (P0_ go5 ∨ w.heap.size ≤ go5) from (HO_0.out.1 _ rfl))
     obtain ⟨hx5_0, hf5_0⟩ := Kd.R_celln 0 HO_0.out (x5_1 : Int) p5 q5
     replace p5 := eq_true p5
     replace q5 := eq_true q5
     have HP7 := Kd.R_putg HO_0.out (x5_1 : Int) x1_1
     go_wp2_with (first | ((with_reducible refine gate_store (t := 3) (p := 15) rfl ?_); refine store_event (t := 3) (p := 15) (v := ?vo_w8) (w1 := (wr.setCell ⟨go5, (x5_1 : Int).toNat, none⟩ (.int .i64 x1_1))) ?hg ?ho ?hn ?hr ?_; (case ho => rfl); (case hg => rfl); (case hn => rfl); (case hr => first | (go_simp; done) | (go_simp; rfl)); intro w8 hw; have hg : wr.grownBy w8 (some go5) := (by rw [hw]; exact HP7.2); have hp_ : Kd.R (Kd.int .i64) 3 w8 w0.heap.size (fun k_ => (P0_ k_ ∨ w.heap.size ≤ k_)) (.slice (some ⟨go5, 0, none⟩) x0_1.length co6) y775 := (by rw [hw, Ny775.out]; exact HP7.1); clear HP7; replace HB := am_ ((by rw [hw]; exact below_set (HB.out) GB5.out : Below w0.heap.size w0 w8)); replace HK := am_ (Kept.of_grown (S := (fun k_ => P0_ k_)) hg (by repeat (first | (with_reducible first | exact HK.out | apply Kept.alloc | apply Kept.drewN | apply Kept.drew) | exact HK.out)) (fun k_ e_ => (HO_0.out.1 k_ e_))); replace HO_0 := am_ hp_; clear hg hw hp_))
     go_roundg k1
     case measure => have := HK1.out; omega
     case rel => exact ⟨(y775), (wrap64 (x1_1 + 1)), (wrap64 (x5_1 + 1)), (Sh.es), (Sh.es), H', ⟨by have := HK1.out; omega⟩, ⟨Sh.rl HO_0.out⟩, ⟨by repeat (first | (with_reducible first | exact HK.out | apply Kept.alloc | apply Kept.drewN | apply Kept.drew) | exact HK.out)⟩, ⟨Sh.bw⟩⟩
    ·rw [if_neg c4] at H
     cases H
   ·rw [if_neg c3] at H
    replace c3 := decide_eq_false c3
    obtain ⟨rfl, rfl⟩ := Prod.mk.inj (Option.some.inj H)
    obtain ⟨Ao9, co9, eo9⟩ := Kd.R_slice HO_0.out
    subst eo9
    go_wp2
    go_ret
    exact ⟨Sh.eR, Sh.rl HO_0.out, Sh.bw, by repeat (first | (with_reducible first | exact HK.out | apply Kept.alloc | apply Kept.drewN | apply Kept.drew) | exact HK.out)⟩
def laws_heldIntS.l0 : Nat → List Int → Int → Int → Option (Int)
 | 0, _, _, _ => none
 | k + 1, x0, x1, x5 => if x5 < (x0.length : Int) then (if 0 ≤ x5 then (if (rd x0 x5) = x1 then (laws_heldIntS.l0 k x0 (wrap64 (x1 + 1)) (wrap64 (x5 + 1))) else (some (-1))) else (none)) else (some x1)
def laws_heldIntS.f (k : Nat) (l0 : List Int) (a1 : Int) : Option (Int) := laws_heldIntS.l0 k l0 a1 0
theorem laws_heldIntS.mono_l : ∀ k, (∀ y0 y1 y2, LeO (laws_heldIntS.l0 k y0 y1 y2) (laws_heldIntS.l0 (k + 1) y0 y1 y2))
 | 0 => fun _ _ _ r h => by simp [laws_heldIntS.l0] at h
 | k + 1 => by
  have ih0 := laws_heldIntS.mono_l k
  ·intro y0 y1 y2
   unfold laws_heldIntS.l0
   repeat' with_reducible first | apply ih0 | exact LeO.refl _ | exact LeO.none _ | apply LeO.ite | refine LeO.bind ?_ fun _ => ?_
theorem laws_heldIntS.mono : ∀ a0 a1 k, LeO (laws_heldIntS.f k a0 a1) (laws_heldIntS.f (k + 1) a0 a1) := by
 intro a0 a1 k
 have ih0 := laws_heldIntS.mono_l k
 unfold laws_heldIntS.f
 repeat' with_reducible first | apply ih0 | exact LeO.refl _ | exact LeO.none _ | apply LeO.ite | refine LeO.bind ?_ fun _ => ?_
theorem laws_heldIntS.calls (k : Nat) (A0 : Option Addr) (c0 : Nat) (l0 : List Int) (a1 : Int) (r : Int) (w : World) (hr0 : Kd.C (Kd.int .i64) w A0 l0.length l0) (hc0 : l0.length ≤ c0) (h : laws_heldIntS.f k l0 a1 = some r) :
  Calls Tryz.prog 19 #[.slice A0 l0.length c0, .int .i64 a1] w fun e w' => e = .returned (.int .i64 r) ∧ Drawn0 w w' := by
 have HR0 := am_ hr0
 have HC0 := am_ hc0
 clear hr0 hc0
 have H := h
 clear h
 unfold laws_heldIntS.f at H
 have H' := am_ H
 clear H
 go_enter Tryz.func19, Tryz.ntmps19
 go_wp2
 go_loopg [1, 5] k (fun kq v1 v5 w' => ∃ (x1_1 : Int) (x5_1 : Int), v1 = .int .i64 x1_1 ∧ v5 = .int .i64 x5_1 ∧ Aside0 (laws_heldIntS.l0 kq l0 x1_1 x5_1 = some r) ∧ Aside0 (kq ≤ k) ∧ Drawn0 w w')
 case atStart => exact ⟨(a1), (0), (Sh.es), (Sh.es), H', ⟨Nat.le_refl _⟩, Sh.dr⟩
 case round =>
  clear H'
  obtain ⟨x1_1, x5_1, rfl, rfl, HA, HK1, ⟨m1, rfl⟩⟩ := hrel
  cases gk with
  | zero => exact absurd HA.out (by simp [laws_heldIntS.l0])
  | succ k1 =>
   have H := HA.out
   clear HA
   simp only [laws_heldIntS.l0] at H
   by_cases c3 : x5_1 < (l0.length : Int)
   ·rw [if_pos c3] at H
    replace c3 := decide_eq_true c3
    by_cases c4 : 0 ≤ x5_1
    ·rw [if_pos c4] at H
     replace c4 := decide_eq_true c4
     by_cases c5 : (rd l0 x5_1) = x1_1
     ·rw [if_pos c5] at H
      have c5b0 : ((rd l0 x5_1) == x1_1) = true := beq_iff_eq.mpr c5
      have c5b1 : ((rd l0 x5_1) != x1_1) = false := bne_eq_false_iff_eq.mpr c5
      clear c5
      have H' := am_ H
      clear H
      have p776 : 0 ≤ (x5_1 : Int) := Sh.od
      have q776 : x5_1 < (l0.length : Int) := Sh.od
      obtain ⟨ad776, e776, hx776_0⟩ := Kd.at_int HR0.out x5_1 p776 q776
      cases e776
      replace p776 := eq_true p776
      replace q776 := eq_true q776
      go_wp2
      go_roundg k1
      case measure => have := HK1.out; omega
      case rel => exact ⟨(wrap64 (x1_1 + 1)), (wrap64 (x5_1 + 1)), (Sh.es), (Sh.es), H', ⟨by have := HK1.out; omega⟩, Sh.dr⟩
     ·rw [if_neg c5] at H
      have c5b0 : ((rd l0 x5_1) == x1_1) = false := beq_eq_false_iff_ne.mpr c5
      have c5b1 : ((rd l0 x5_1) != x1_1) = true := bne_iff_ne.mpr c5
      obtain rfl := Option.some.inj H
      have p776 : 0 ≤ (x5_1 : Int) := Sh.od
      have q776 : x5_1 < (l0.length : Int) := Sh.od
      obtain ⟨ad776, e776, hx776_0⟩ := Kd.at_int HR0.out x5_1 p776 q776
      cases e776
      replace p776 := eq_true p776
      replace q776 := eq_true q776
      go_wp2
      go_ret
      exact ⟨Sh.es, Sh.dr⟩
    ·rw [if_neg c4] at H
     cases H
   ·rw [if_neg c3] at H
    replace c3 := decide_eq_false c3
    obtain rfl := Option.some.inj H
    go_wp2
    go_ret
    exact ⟨Sh.es, Sh.dr⟩
def laws_toIntS.l0 : Nat → List Int → List Int → Int → Option (List Int)
 | 0, _, _, _ => none
 | k + 1, x0, x3, x4 => if x4 < (x0.length : Int) then (if 0 ≤ x4 then (if x4 < (x3.length : Int) then (laws_toIntS.l0 k x0 (x3.set (x4 : Int).toNat (rd x0 x4)) (wrap64 (x4 + 1))) else (none)) else (none)) else (some x3)
def laws_toIntS.f (k : Nat) (l0 : List Int) : Option (List Int) := if 0 ≤ (l0.length : Int) then (if ((l0.length : Int) : Int).toNat ≤ 35184372088832 then (laws_toIntS.l0 k l0 (List.replicate ((l0.length : Int) : Int).toNat 0) 0) else (none)) else (none)
theorem laws_toIntS.mono_l : ∀ k, (∀ y0 y1 y2, LeO (laws_toIntS.l0 k y0 y1 y2) (laws_toIntS.l0 (k + 1) y0 y1 y2))
 | 0 => fun _ _ _ r h => by simp [laws_toIntS.l0] at h
 | k + 1 => by
  have ih0 := laws_toIntS.mono_l k
  ·intro y0 y1 y2
   unfold laws_toIntS.l0
   repeat' with_reducible first | apply ih0 | exact LeO.refl _ | exact LeO.none _ | apply LeO.ite | refine LeO.bind ?_ fun _ => ?_
theorem laws_toIntS.mono : ∀ a0 k, LeO (laws_toIntS.f k a0) (laws_toIntS.f (k + 1) a0) := by
 intro a0 k
 have ih0 := laws_toIntS.mono_l k
 unfold laws_toIntS.f
 repeat' with_reducible first | apply ih0 | exact LeO.refl _ | exact LeO.none _ | apply LeO.ite | refine LeO.bind ?_ fun _ => ?_
theorem laws_toIntS.calls (k : Nat) (A0 : Option Addr) (c0 : Nat) (l0 : List Int) (r : List Int) (w : World) (hr0 : Kd.C (Kd.int .i64) w A0 l0.length l0) (hc0 : l0.length ≤ c0) (h : laws_toIntS.f k l0 = some r) :
  Calls Tryz.prog 21 #[.slice A0 l0.length c0] w fun e w' => ∃ v0_ : Value, e = .returned (v0_) ∧ Kd.R (Kd.int .i64) 3 w' w.heap.size (fun _ => True) v0_ r ∧ Below w.heap.size w w' := by
 have HR0 := am_ hr0
 have HC0 := am_ hc0
 clear hr0 hc0
 have HB := am_ (Below.refl w.heap.size w)
 have H := h
 clear h
 unfold laws_toIntS.f at H
 by_cases c2 : 0 ≤ (l0.length : Int)
 ·rw [if_pos c2] at H
  have c2b0 := eq_true c2
  have c2b1 := decide_eq_true c2
  clear c2
  by_cases c3 : ((l0.length : Int) : Int).toNat ≤ 35184372088832
  ·rw [if_pos c3] at H
   have c3b0 := eq_true c3
   have c3b1 := decide_eq_true c3
   clear c3
   obtain ⟨y777, hy777⟩ : ∃ y_ : List Int, y_ = (List.replicate ((l0.length : Int) : Int).toNat 0) := ⟨_, rfl⟩
   replace H : (laws_toIntS.l0 k l0 y777 0) = some r := by first | (rw [hy777]; with_reducible exact H) | (have H2_ := (Option.bind_some _ _).symm.trans H; rw [hy777]; with_reducible exact H2_) | (have H2_ := (Option.bind_some _ _).symm.trans H; with_reducible exact H2_) | with_reducible exact H | (rw [hy777]; exact H) | exact H
   have Ny777 := am_ hy777
   clear hy777
   have H' := am_ H
   clear H
   go_enter Tryz.func21, Tryz.ntmps21
   go_wp2_with (first | ((with_reducible refine Sh.d 7 ?_); refine Kd.R_make (Kd.int .i64) _ 3 rfl (N := 7) rfl 27 _ _ rfl (l0.length : Int) rfl rfl Tryz.underlying27 (.int .i64 0) 8 info3 rfl (by decide) (by omega) 0 (ok := fun _ => True) (okp := fun _ => True) rfl (fun _ hk => hk) trivial (of_decide_eq_true (by first | (with_reducible assumption) | assumption)) (Nat.le_trans (Nat.mul_le_mul_right _ (of_decide_eq_true (by first | (with_reducible assumption) | assumption) : (l0.length : Int).toNat ≤ 35184372088832)) (by omega)) (Below.refl _ _) (Nat.le_refl _) ?_; intro v778 w4 ho5 hb hg_ hnew_; clear hg_ hnew_; (first | rw [← Ny777.out] at ho5 | (simp only [Int.reduceToNat] at ho5; rw [← Ny777.out] at ho5)); have HO779 := am_ (Kd.R_lower ho5 (below_size Sh.bw)); replace HB := Sh.hb hb; clear hb ho5))
   go_loopg [4] k (fun kq v4 w' => ∃ (x3_1 : List Int) (x4_1 : Int), v4 = .int .i64 x4_1 ∧ Aside0 (laws_toIntS.l0 kq l0 x3_1 x4_1 = some r) ∧ Aside0 (kq ≤ k) ∧ Aside0 (Kd.R (Kd.int .i64) 3 w' w.heap.size (fun _ => True) v778 x3_1) ∧ Aside0 (Below w.heap.size w w'))
   case atStart => exact ⟨(y777), (0), (Sh.es), H', ⟨Nat.le_refl _⟩, ⟨Sh.rl HO779.out⟩, ⟨Sh.bw⟩⟩
   case round =>
    clear H'
    obtain ⟨x3_1, x4_1, rfl, HA, HK1, HO_3, HB⟩ := hrel
    cases gk with
    | zero => exact absurd HA.out (by simp [laws_toIntS.l0])
    | succ k1 =>
     have H := HA.out
     clear HA
     simp only [laws_toIntS.l0] at H
     by_cases c6 : x4_1 < (l0.length : Int)
     ·rw [if_pos c6] at H
      replace c6 := decide_eq_true c6
      by_cases c7 : 0 ≤ x4_1
      ·rw [if_pos c7] at H
       replace c7 := decide_eq_true c7
       by_cases c8 : x4_1 < (x3_1.length : Int)
       ·rw [if_pos c8] at H
        replace c8 := decide_eq_true c8
        obtain ⟨y781, hy781⟩ : ∃ y_ : List Int, y_ = (x3_1.set (x4_1 : Int).toNat (rd l0 x4_1)) := ⟨_, rfl⟩
        replace H : (laws_toIntS.l0 k1 l0 y781 (wrap64 (x4_1 + 1))) = some r := by first | (rw [hy781]; with_reducible exact H) | (have H2_ := (Option.bind_some _ _).symm.trans H; rw [hy781]; with_reducible exact H2_) | (have H2_ := (Option.bind_some _ _).symm.trans H; with_reducible exact H2_) | with_reducible exact H | (rw [hy781]; exact H) | exact H
        have Ny781 := am_ hy781
        clear hy781
        have H' := am_ H
        clear H
        have p780 : 0 ≤ (x4_1 : Int) := Sh.od
        have q780 : x4_1 < (l0.length : Int) := Sh.od
        obtain ⟨ad780, e780, hx780_0⟩ := Kd.at_int HR0.out x4_1 p780 q780
        cases e780
        try replace hx780_0 := Sh.cw hx780_0
        replace p780 := eq_true p780
        replace q780 := eq_true q780
        have p9 : 0 ≤ (x4_1 : Int) := Sh.od
        have q9 : (x4_1 : Int) < ((x3_1.length : Int) : Int) := Sh.od
        obtain ⟨go9, co9, eo9, gb9, gl9, cl9, HG9⟩ := Kd.R_form HO_3.out (by omega)
        (first | cases eo9 | (injection eo9 with ea_ en_ ec_; (first | subst ea_ | (injection ea_ with ea_; subst ea_)); subst ec_; clear en_))
        have GB9 := am_ gb9
        have GG9 := am_ HG9
        clear gb9 gl9 HG9
        obtain ⟨hx9_0, hf9_0⟩ := Kd.R_celln 0 HO_3.out (x4_1 : Int) p9 q9
        replace p9 := eq_true p9
        replace q9 := eq_true q9
        have HP10 := Kd.R_putg HO_3.out (x4_1 : Int) (rd l0 x4_1)
        go_wp2_with (first | ((with_reducible refine gate_store (t := 3) (p := 20) rfl ?_); refine store_event (t := 3) (p := 20) (v := ?vo_w11) (w1 := (wr.setCell ⟨go9, (x4_1 : Int).toNat, none⟩ (.int .i64 (rd l0 x4_1)))) ?hg ?ho ?hn ?hr ?_; (case ho => rfl); (case hg => rfl); (case hn => rfl); (case hr => first | (go_simp; done) | (go_simp; rfl)); intro w11 hw; have hg : wr.grownBy w11 (some go9) := (by rw [hw]; exact HP10.2); have hp_ : Kd.R (Kd.int .i64) 3 w11 w.heap.size (fun _ => True) (.slice (some ⟨go9, 0, none⟩) x3_1.length co9) y781 := (by rw [hw, Ny781.out]; exact HP10.1); clear HP10; replace HO_3 := am_ hp_; replace HB := am_ ((by rw [hw]; exact below_set (HB.out) GB9.out : Below w.heap.size w w11)); clear hg hw hp_))
        go_roundg k1
        case measure => have := HK1.out; omega
        case rel => exact ⟨(y781), (wrap64 (x4_1 + 1)), (Sh.es), H', ⟨by have := HK1.out; omega⟩, ⟨Sh.rl HO_3.out⟩, ⟨Sh.bw⟩⟩
       ·rw [if_neg c8] at H
        cases H
      ·rw [if_neg c7] at H
       cases H
     ·rw [if_neg c6] at H
      replace c6 := decide_eq_false c6
      obtain rfl := Option.some.inj H
      go_wp2
      go_ret
      exact ⟨_, Sh.eR, Sh.rl HO_3.out, Sh.bw⟩
  ·rw [if_neg c3] at H
   cases H
 ·rw [if_neg c2] at H
  cases H
def spec_l1Rising.l0 : Nat → List Int → Int → Int → List Int → Int → Int → Option (Bool)
 | 0, _, _, _, _, _, _ => none
 | k + 1, x0, x1, x2, x9, x10, x11 => if x11 < x10 then (if 0 ≤ x11 then (if x11 < (x9.length : Int) then ((spec_l1In.f (rd x9 x11) x1 x2).bind fun t783 => (if t783 = true then (if x11 > 0 then (if 0 ≤ (wrap64 (x11 - 1)) then (if (wrap64 (x11 - 1)) < (x0.length : Int) then (if (rd x0 (wrap64 (x11 - 1))) ≥ (rd x9 x11) then (some false) else (spec_l1Rising.l0 k x0 x1 x2 x9 x10 (wrap64 (x11 + 1)))) else (none)) else (none)) else (spec_l1Rising.l0 k x0 x1 x2 x9 x10 (wrap64 (x11 + 1)))) else (some false))) else (none)) else (none)) else (some true)
def spec_l1Rising.f (k : Nat) (l0 : List Int) (a1 : Int) (a2 : Int) : Option (Bool) := spec_l1Rising.l0 k l0 a1 a2 l0 (l0.length : Int) 0
theorem spec_l1Rising.mono_l : ∀ k, (∀ y0 y1 y2 y3 y4 y5, LeO (spec_l1Rising.l0 k y0 y1 y2 y3 y4 y5) (spec_l1Rising.l0 (k + 1) y0 y1 y2 y3 y4 y5))
 | 0 => fun _ _ _ _ _ _ r h => by simp [spec_l1Rising.l0] at h
 | k + 1 => by
  have ih0 := spec_l1Rising.mono_l k
  ·intro y0 y1 y2 y3 y4 y5
   unfold spec_l1Rising.l0
   repeat' with_reducible first | apply ih0 | exact LeO.refl _ | exact LeO.none _ | apply LeO.ite | refine LeO.bind ?_ fun _ => ?_
theorem spec_l1Rising.mono : ∀ a0 a1 a2 k, LeO (spec_l1Rising.f k a0 a1 a2) (spec_l1Rising.f (k + 1) a0 a1 a2) := by
 intro a0 a1 a2 k
 have ih0 := spec_l1Rising.mono_l k
 unfold spec_l1Rising.f
 repeat' with_reducible first | apply ih0 | exact LeO.refl _ | exact LeO.none _ | apply LeO.ite | refine LeO.bind ?_ fun _ => ?_
theorem spec_l1Rising.calls (k : Nat) (A0 : Option Addr) (c0 : Nat) (l0 : List Int) (a1 : Int) (a2 : Int) (r : Bool) (w : World) (hr0 : Kd.C (Kd.int .i64) w A0 l0.length l0) (hc0 : l0.length ≤ c0) (h : spec_l1Rising.f k l0 a1 a2 = some r) :
  Calls Tryz.prog 76 #[.slice A0 l0.length c0, .int .i64 a1, .int .i64 a2] w fun e w' => e = .returned (.bool r) ∧ Drawn0 w w' := by
 have HR0 := am_ hr0
 have HC0 := am_ hc0
 clear hr0 hc0
 have H := h
 clear h
 unfold spec_l1Rising.f at H
 have H' := am_ H
 clear H
 go_enter Tryz.func76, Tryz.ntmps76
 go_wp2
 go_loopg [11] k (fun kq v11 w' => ∃ (x11_1 : Int), v11 = .int .i64 x11_1 ∧ Aside0 (spec_l1Rising.l0 kq l0 a1 a2 l0 (l0.length : Int) x11_1 = some r) ∧ Aside0 (kq ≤ k) ∧ Drawn0 w w')
 case atStart => exact ⟨(0), (Sh.es), H', ⟨Nat.le_refl _⟩, Sh.dr⟩
 case round =>
  clear H'
  obtain ⟨x11_1, rfl, HA, HK1, ⟨m1, rfl⟩⟩ := hrel
  cases gk with
  | zero => exact absurd HA.out (by simp [spec_l1Rising.l0])
  | succ k1 =>
   have H := HA.out
   clear HA
   simp only [spec_l1Rising.l0] at H
   by_cases c4 : x11_1 < (l0.length : Int)
   ·rw [if_pos c4] at H
    replace c4 := decide_eq_true c4
    by_cases c5 : 0 ≤ x11_1
    ·rw [if_pos c5] at H
     replace c5 := decide_eq_true c5
     by_cases c6 : x11_1 < (l0.length : Int)
     ·rw [if_pos c6] at H
      replace c6 := decide_eq_true c6
      obtain ⟨t783, A7, H⟩ := Sh.ba H
      by_cases c8 : t783 = true
      ·subst c8
       rw [if_pos rfl] at H
       by_cases c9 : x11_1 > 0
       ·rw [if_pos c9] at H
        have c9b0 : decide (0 < x11_1) = true := decide_eq_true c9
        clear c9
        obtain ⟨ji10, hj1⟩ : ∃ j_ : Int, (wrap64 (x11_1 - 1)) = j_ := ⟨_, rfl⟩
        replace H : (if 0 ≤ (ji10) then (if (ji10) < (l0.length : Int) then (if (rd l0 (ji10)) ≥ (rd l0 x11_1) then (some false) else (spec_l1Rising.l0 k1 l0 a1 a2 l0 (l0.length : Int) (wrap64 (x11_1 + 1)))) else (none)) else (none)) = some r := by first | (rw [hj1] at H; exact H) | (simp only [hj1] at H ⊢; exact H)
        (try rw [hj1] at A7)
        have hji10w : (IntKind.i64.wrap (x11_1 - 1)) = ji10 := (i64_w _).trans hj1
        by_cases c11 : 0 ≤ (ji10)
        ·rw [if_pos c11] at H
         replace c11 := decide_eq_true c11
         by_cases c12 : (ji10) < (l0.length : Int)
         ·rw [if_pos c12] at H
          replace c12 := decide_eq_true c12
          by_cases c13 : (rd l0 (ji10)) ≥ (rd l0 x11_1)
          ·rw [if_pos c13] at H
           have c13b0 : decide ((rd l0 x11_1) ≤ (rd l0 (ji10))) = true := decide_eq_true c13
           clear c13
           obtain rfl := Option.some.inj H
           have p782 : 0 ≤ (x11_1 : Int) := Sh.od
           have q782 : x11_1 < (l0.length : Int) := Sh.od
           obtain ⟨ad782, e782, hx782_0⟩ := Kd.at_int HR0.out x11_1 p782 q782
           cases e782
           replace p782 := eq_true p782
           replace q782 := eq_true q782
           go_wp2_with (first | ((with_reducible refine Sh.k 48 ?_); refine Sh.gD (some 19) Tryz.func48 #[.int .i64 (rd l0 x11_1), .int .i64 a1, .int .i64 a2] (spec_l1In.calls (rd l0 x11_1) a1 a2 true _ A7.out) fun nd => ?_; have p784 : 0 ≤ ((ji10) : Int) := Sh.od; have q784 : (ji10) < (l0.length : Int) := Sh.od; obtain ⟨ad784, e784, hx784_0⟩ := Kd.at_int HR0.out (ji10) p784 q784; obtain rfl : ad782 = ad784 := (by injection e784); replace p784 := eq_true p784; replace q784 := eq_true q784))
           go_ret
           exact ⟨by first | rfl | (simp; done) | (simp only [← hj1] <;> (first | rfl | simp)) | (simp [*]; done), Sh.dr⟩
          ·rw [if_neg c13] at H
           have c13b0 : decide ((rd l0 x11_1) ≤ (rd l0 (ji10))) = false := decide_eq_false c13
           clear c13
           have H' := am_ H
           clear H
           have p782 : 0 ≤ (x11_1 : Int) := Sh.od
           have q782 : x11_1 < (l0.length : Int) := Sh.od
           obtain ⟨ad782, e782, hx782_0⟩ := Kd.at_int HR0.out x11_1 p782 q782
           cases e782
           replace p782 := eq_true p782
           replace q782 := eq_true q782
           go_wp2_with (first | ((with_reducible refine Sh.k 48 ?_); refine Sh.gD (some 19) Tryz.func48 #[.int .i64 (rd l0 x11_1), .int .i64 a1, .int .i64 a2] (spec_l1In.calls (rd l0 x11_1) a1 a2 true _ A7.out) fun nd => ?_; have p784 : 0 ≤ ((ji10) : Int) := Sh.od; have q784 : (ji10) < (l0.length : Int) := Sh.od; obtain ⟨ad784, e784, hx784_0⟩ := Kd.at_int HR0.out (ji10) p784 q784; obtain rfl : ad782 = ad784 := (by injection e784); replace p784 := eq_true p784; replace q784 := eq_true q784))
           go_roundg k1
           case measure => have := HK1.out; omega
           case rel => exact ⟨(wrap64 (x11_1 + 1)), (Sh.es), H', ⟨by have := HK1.out; omega⟩, Sh.dr⟩
         ·rw [if_neg c12] at H
          cases H
        ·rw [if_neg c11] at H
         cases H
       ·rw [if_neg c9] at H
        have c9b0 : decide (0 < x11_1) = false := decide_eq_false c9
        clear c9
        have H' := am_ H
        clear H
        have p782 : 0 ≤ (x11_1 : Int) := Sh.od
        have q782 : x11_1 < (l0.length : Int) := Sh.od
        obtain ⟨ad782, e782, hx782_0⟩ := Kd.at_int HR0.out x11_1 p782 q782
        cases e782
        replace p782 := eq_true p782
        replace q782 := eq_true q782
        go_wp2_with (first | ((with_reducible refine Sh.k 48 ?_); refine Sh.gD (some 19) Tryz.func48 #[.int .i64 (rd l0 x11_1), .int .i64 a1, .int .i64 a2] (spec_l1In.calls (rd l0 x11_1) a1 a2 true _ A7.out) fun nd => ?_))
        go_roundg k1
        case measure => have := HK1.out; omega
        case rel => exact ⟨(wrap64 (x11_1 + 1)), (Sh.es), H', ⟨by have := HK1.out; omega⟩, Sh.dr⟩
      ·replace c8 := Bool.eq_false_iff.mpr c8
       subst c8
       rw [Sh.nf] at H
       obtain rfl := Option.some.inj H
       have p782 : 0 ≤ (x11_1 : Int) := Sh.od
       have q782 : x11_1 < (l0.length : Int) := Sh.od
       obtain ⟨ad782, e782, hx782_0⟩ := Kd.at_int HR0.out x11_1 p782 q782
       cases e782
       replace p782 := eq_true p782
       replace q782 := eq_true q782
       go_wp2_with (first | ((with_reducible refine Sh.k 48 ?_); refine Sh.gD (some 19) Tryz.func48 #[.int .i64 (rd l0 x11_1), .int .i64 a1, .int .i64 a2] (spec_l1In.calls (rd l0 x11_1) a1 a2 false _ A7.out) fun nd => ?_))
       go_ret
       exact ⟨Sh.es, Sh.dr⟩
     ·rw [if_neg c6] at H
      cases H
    ·rw [if_neg c5] at H
     cases H
   ·rw [if_neg c4] at H
    replace c4 := decide_eq_false c4
    obtain rfl := Option.some.inj H
    go_wp2
    go_ret
    exact ⟨Sh.es, Sh.dr⟩
def spec_l1Has.l0 : Nat → Int → List Int → Int → Int → Option (Bool)
 | 0, _, _, _, _ => none
 | k + 1, x1, x7, x8, x9 => if x9 < x8 then (if 0 ≤ x9 then (if x9 < (x7.length : Int) then (if (rd x7 x9) = x1 then (some true) else (spec_l1Has.l0 k x1 x7 x8 (wrap64 (x9 + 1)))) else (none)) else (none)) else (some false)
def spec_l1Has.f (k : Nat) (l0 : List Int) (a1 : Int) : Option (Bool) := spec_l1Has.l0 k a1 l0 (l0.length : Int) 0
theorem spec_l1Has.mono_l : ∀ k, (∀ y0 y1 y2 y3, LeO (spec_l1Has.l0 k y0 y1 y2 y3) (spec_l1Has.l0 (k + 1) y0 y1 y2 y3))
 | 0 => fun _ _ _ _ r h => by simp [spec_l1Has.l0] at h
 | k + 1 => by
  have ih0 := spec_l1Has.mono_l k
  ·intro y0 y1 y2 y3
   unfold spec_l1Has.l0
   repeat' with_reducible first | apply ih0 | exact LeO.refl _ | exact LeO.none _ | apply LeO.ite | refine LeO.bind ?_ fun _ => ?_
theorem spec_l1Has.mono : ∀ a0 a1 k, LeO (spec_l1Has.f k a0 a1) (spec_l1Has.f (k + 1) a0 a1) := by
 intro a0 a1 k
 have ih0 := spec_l1Has.mono_l k
 unfold spec_l1Has.f
 repeat' with_reducible first | apply ih0 | exact LeO.refl _ | exact LeO.none _ | apply LeO.ite | refine LeO.bind ?_ fun _ => ?_
theorem spec_l1Has.calls (k : Nat) (A0 : Option Addr) (c0 : Nat) (l0 : List Int) (a1 : Int) (r : Bool) (w : World) (hr0 : Kd.C (Kd.int .i64) w A0 l0.length l0) (hc0 : l0.length ≤ c0) (h : spec_l1Has.f k l0 a1 = some r) :
  Calls Tryz.prog 51 #[.slice A0 l0.length c0, .int .i64 a1] w fun e w' => e = .returned (.bool r) ∧ Drawn0 w w' := by
 have HR0 := am_ hr0
 have HC0 := am_ hc0
 clear hr0 hc0
 have H := h
 clear h
 unfold spec_l1Has.f at H
 have H' := am_ H
 clear H
 go_enter Tryz.func51, Tryz.ntmps51
 go_wp2
 go_loopg [9] k (fun kq v9 w' => ∃ (x9_1 : Int), v9 = .int .i64 x9_1 ∧ Aside0 (spec_l1Has.l0 kq a1 l0 (l0.length : Int) x9_1 = some r) ∧ Aside0 (kq ≤ k) ∧ Drawn0 w w')
 case atStart => exact ⟨(0), (Sh.es), H', ⟨Nat.le_refl _⟩, Sh.dr⟩
 case round =>
  clear H'
  obtain ⟨x9_1, rfl, HA, HK1, ⟨m1, rfl⟩⟩ := hrel
  cases gk with
  | zero => exact absurd HA.out (by simp [spec_l1Has.l0])
  | succ k1 =>
   have H := HA.out
   clear HA
   simp only [spec_l1Has.l0] at H
   by_cases c3 : x9_1 < (l0.length : Int)
   ·rw [if_pos c3] at H
    replace c3 := decide_eq_true c3
    by_cases c4 : 0 ≤ x9_1
    ·rw [if_pos c4] at H
     replace c4 := decide_eq_true c4
     by_cases c5 : x9_1 < (l0.length : Int)
     ·rw [if_pos c5] at H
      replace c5 := decide_eq_true c5
      by_cases c6 : (rd l0 x9_1) = a1
      ·rw [if_pos c6] at H
       have c6b0 : ((rd l0 x9_1) == a1) = true := beq_iff_eq.mpr c6
       have c6b1 : ((rd l0 x9_1) != a1) = false := bne_eq_false_iff_eq.mpr c6
       clear c6
       obtain rfl := Option.some.inj H
       have p785 : 0 ≤ (x9_1 : Int) := Sh.od
       have q785 : x9_1 < (l0.length : Int) := Sh.od
       obtain ⟨ad785, e785, hx785_0⟩ := Kd.at_int HR0.out x9_1 p785 q785
       cases e785
       replace p785 := eq_true p785
       replace q785 := eq_true q785
       go_wp2
       go_ret
       exact ⟨Sh.es, Sh.dr⟩
      ·rw [if_neg c6] at H
       have c6b0 : ((rd l0 x9_1) == a1) = false := beq_eq_false_iff_ne.mpr c6
       have c6b1 : ((rd l0 x9_1) != a1) = true := bne_iff_ne.mpr c6
       have H' := am_ H
       clear H
       have p785 : 0 ≤ (x9_1 : Int) := Sh.od
       have q785 : x9_1 < (l0.length : Int) := Sh.od
       obtain ⟨ad785, e785, hx785_0⟩ := Kd.at_int HR0.out x9_1 p785 q785
       cases e785
       replace p785 := eq_true p785
       replace q785 := eq_true q785
       go_wp2
       go_roundg k1
       case measure => have := HK1.out; omega
       case rel => exact ⟨(wrap64 (x9_1 + 1)), (Sh.es), H', ⟨by have := HK1.out; omega⟩, Sh.dr⟩
     ·rw [if_neg c5] at H
      cases H
    ·rw [if_neg c4] at H
     cases H
   ·rw [if_neg c3] at H
    replace c3 := decide_eq_false c3
    obtain rfl := Option.some.inj H
    go_wp2
    go_ret
    exact ⟨Sh.es, Sh.dr⟩
def spec_l7Meet.l0 : Nat → List Int → List Int → Int → Int → Option (Bool)
 | 0, _, _, _, _ => none
 | k + 1, x1, x7, x8, x9 => if x9 < x8 then (if 0 ≤ x9 then (if x9 < (x7.length : Int) then ((spec_l1Has.f k x1 (rd x7 x9)).bind fun t787 => (if t787 = true then (some true) else (spec_l7Meet.l0 k x1 x7 x8 (wrap64 (x9 + 1))))) else (none)) else (none)) else (some false)
def spec_l7Meet.f (k : Nat) (l0 : List Int) (l1 : List Int) : Option (Bool) := spec_l7Meet.l0 k l1 l0 (l0.length : Int) 0
theorem spec_l7Meet.mono_l : ∀ k, (∀ y0 y1 y2 y3, LeO (spec_l7Meet.l0 k y0 y1 y2 y3) (spec_l7Meet.l0 (k + 1) y0 y1 y2 y3))
 | 0 => fun _ _ _ _ r h => by simp [spec_l7Meet.l0] at h
 | k + 1 => by
  have ih0 := spec_l7Meet.mono_l k
  ·intro y0 y1 y2 y3
   unfold spec_l7Meet.l0
   repeat' with_reducible first | apply ih0 | apply spec_l1Has.mono | exact LeO.refl _ | exact LeO.none _ | apply LeO.ite | refine LeO.bind ?_ fun _ => ?_
theorem spec_l7Meet.mono : ∀ a0 a1 k, LeO (spec_l7Meet.f k a0 a1) (spec_l7Meet.f (k + 1) a0 a1) := by
 intro a0 a1 k
 have ih0 := spec_l7Meet.mono_l k
 unfold spec_l7Meet.f
 repeat' with_reducible first | apply ih0 | apply spec_l1Has.mono | exact LeO.refl _ | exact LeO.none _ | apply LeO.ite | refine LeO.bind ?_ fun _ => ?_
theorem spec_l7Meet.calls (k : Nat) (A0 : Option Addr) (c0 : Nat) (l0 : List Int) (A1 : Option Addr) (c1 : Nat) (l1 : List Int) (r : Bool) (w : World) (hr0 : Kd.C (Kd.int .i64) w A0 l0.length l0) (hc0 : l0.length ≤ c0) (hr1 : Kd.C (Kd.int .i64) w A1 l1.length l1) (hc1 : l1.length ≤ c1) (h : spec_l7Meet.f k l0 l1 = some r) :
  Calls Tryz.prog 108 #[.slice A0 l0.length c0, .slice A1 l1.length c1] w fun e w' => e = .returned (.bool r) ∧ Drawn0 w w' := by
 have HR0 := am_ hr0
 have HC0 := am_ hc0
 clear hr0 hc0
 have HR1 := am_ hr1
 have HC1 := am_ hc1
 clear hr1 hc1
 have H := h
 clear h
 unfold spec_l7Meet.f at H
 have H' := am_ H
 clear H
 go_enter Tryz.func108, Tryz.ntmps108
 go_wp2
 go_loopg [9] k (fun kq v9 w' => ∃ (x9_1 : Int), v9 = .int .i64 x9_1 ∧ Aside0 (spec_l7Meet.l0 kq l1 l0 (l0.length : Int) x9_1 = some r) ∧ Aside0 (kq ≤ k) ∧ Drawn0 w w')
 case atStart => exact ⟨(0), (Sh.es), H', ⟨Nat.le_refl _⟩, Sh.dr⟩
 case round =>
  clear H'
  obtain ⟨x9_1, rfl, HA, HK1, ⟨m1, rfl⟩⟩ := hrel
  cases gk with
  | zero => exact absurd HA.out (by simp [spec_l7Meet.l0])
  | succ k1 =>
   have H := HA.out
   clear HA
   simp only [spec_l7Meet.l0] at H
   by_cases c3 : x9_1 < (l0.length : Int)
   ·rw [if_pos c3] at H
    replace c3 := decide_eq_true c3
    by_cases c4 : 0 ≤ x9_1
    ·rw [if_pos c4] at H
     replace c4 := decide_eq_true c4
     by_cases c5 : x9_1 < (l0.length : Int)
     ·rw [if_pos c5] at H
      replace c5 := decide_eq_true c5
      obtain ⟨t787, A6, H⟩ := Sh.ba H
      by_cases c7 : t787 = true
      ·subst c7
       rw [if_pos rfl] at H
       obtain rfl := Option.some.inj H
       have p786 : 0 ≤ (x9_1 : Int) := Sh.od
       have q786 : x9_1 < (l0.length : Int) := Sh.od
       obtain ⟨ad786, e786, hx786_0⟩ := Kd.at_int HR0.out x9_1 p786 q786
       cases e786
       replace p786 := eq_true p786
       replace q786 := eq_true q786
       go_wp2_with (first | ((with_reducible refine Sh.k 51 ?_); refine Sh.gL (some 15) Tryz.func51 #[.slice A1 l1.length c1, .int .i64 (rd l0 x9_1)] (h := ?_); (with_reducible refine (spec_l1Has.calls k1 _ _ l1 (rd l0 x9_1) true _ ?side1 ?side2 A6.out).mono ?_); (case side1 => repeat (first | exact HR1.out | (with_reducible first | refine Kd.C_alloc ?_ _ | refine Kd.C_drewN ?_ _ | refine Kd.C_drew ?_))); (case side2 => exact HC1.out); rintro e w' ⟨rfl, ⟨nd, rfl⟩⟩; refine ⟨_, rfl, ?_⟩))
       go_ret
       exact ⟨Sh.es, Sh.dr⟩
      ·replace c7 := Bool.eq_false_iff.mpr c7
       subst c7
       rw [Sh.nf] at H
       have H' := am_ H
       clear H
       have p786 : 0 ≤ (x9_1 : Int) := Sh.od
       have q786 : x9_1 < (l0.length : Int) := Sh.od
       obtain ⟨ad786, e786, hx786_0⟩ := Kd.at_int HR0.out x9_1 p786 q786
       cases e786
       replace p786 := eq_true p786
       replace q786 := eq_true q786
       go_wp2_with (first | ((with_reducible refine Sh.k 51 ?_); refine Sh.gL (some 15) Tryz.func51 #[.slice A1 l1.length c1, .int .i64 (rd l0 x9_1)] (h := ?_); (with_reducible refine (spec_l1Has.calls k1 _ _ l1 (rd l0 x9_1) false _ ?side1 ?side2 A6.out).mono ?_); (case side1 => repeat (first | exact HR1.out | (with_reducible first | refine Kd.C_alloc ?_ _ | refine Kd.C_drewN ?_ _ | refine Kd.C_drew ?_))); (case side2 => exact HC1.out); rintro e w' ⟨rfl, ⟨nd, rfl⟩⟩; refine ⟨_, rfl, ?_⟩))
       go_roundg k1
       case measure => have := HK1.out; omega
       case rel => exact ⟨(wrap64 (x9_1 + 1)), (Sh.es), H', ⟨by have := HK1.out; omega⟩, Sh.dr⟩
     ·rw [if_neg c5] at H
      cases H
    ·rw [if_neg c4] at H
     cases H
   ·rw [if_neg c3] at H
    replace c3 := decide_eq_false c3
    obtain rfl := Option.some.inj H
    go_wp2
    go_ret
    exact ⟨Sh.es, Sh.dr⟩
mutual
def spec_l8Back.l0 : Nat → List Int → Bool → Int → Int → List (S79) → List (S95) → Option (List Int)
 | 0, _, _, _, _, _, _ => none
 | k + 1, x5, x6, x789000, x789001, x789002, x789003 => if x6 = true then (spec_l8Back.l1 k x5 false 0 x789000 x789001 x789002 x789003) else (some x5)
def spec_l8Back.l1 : Nat → List Int → Bool → Int → Int → Int → List (S79) → List (S95) → Option (List Int)
 | 0, _, _, _, _, _, _, _ => none
 | k + 1, x5, x6, x7, x789000, x789001, x789002, x789003 => (spec_l7Many.f x789000 x789001 x789002 x789003).bind fun t792 => (if x7 < t792 then ((spec_l1Has.f k x5 x7).bind fun t793 => (if t793 = true then (spec_l8Back.l1 k x5 x6 (wrap64 (x7 + 1)) x789000 x789001 x789002 x789003) else ((spec_l8Next.f k x789000 x789001 x789002 x789003 x7).bind fun t794 => ((spec_l7Meet.f k t794 x5).bind fun t797 => (if t797 = true then ((spec_l1Put.f k x5 x7).bind fun t798 => (spec_l8Back.l1 k t798 true (wrap64 (x7 + 1)) x789000 x789001 x789002 x789003)) else (spec_l8Back.l1 k x5 x6 (wrap64 (x7 + 1)) x789000 x789001 x789002 x789003)))))) else (spec_l8Back.l0 k x5 x6 x789000 x789001 x789002 x789003))
end
def spec_l8Back.f (k : Nat) (a0_0 : Int) (a0_1 : Int) (l0_2 : List (S79)) (l0_3 : List (S95)) (l1 : List Int) : Option (List Int) := (spec_l1Own.f l1).bind fun t789 => (spec_l8Back.l0 k t789 true a0_0 a0_1 l0_2 l0_3)
theorem spec_l8Back.mono_l : ∀ k, (∀ y0 y1 y2 y3 y4 y5, LeO (spec_l8Back.l0 k y0 y1 y2 y3 y4 y5) (spec_l8Back.l0 (k + 1) y0 y1 y2 y3 y4 y5)) ∧ (∀ y0 y1 y2 y3 y4 y5 y6, LeO (spec_l8Back.l1 k y0 y1 y2 y3 y4 y5 y6) (spec_l8Back.l1 (k + 1) y0 y1 y2 y3 y4 y5 y6))
 | 0 => ⟨fun _ _ _ _ _ _ r h => by simp [spec_l8Back.l0] at h, fun _ _ _ _ _ _ _ r h => by simp [spec_l8Back.l1] at h⟩
 | k + 1 => by
  obtain ⟨ih0, ih1⟩ := spec_l8Back.mono_l k
  and_intros <;> intros
  all_goals (first | unfold spec_l8Back.l0 | unfold spec_l8Back.l1)
  all_goals repeat' with_reducible first | apply ih0 | apply ih1 | apply spec_l1Has.mono | apply spec_l1Put.mono | apply spec_l7Meet.mono | apply spec_l8Next.mono | exact LeO.refl _ | exact LeO.none _ | apply LeO.ite | refine LeO.bind ?_ fun _ => ?_
theorem spec_l8Back.mono : ∀ a0 a1 a2 a3 a4 k, LeO (spec_l8Back.f k a0 a1 a2 a3 a4) (spec_l8Back.f (k + 1) a0 a1 a2 a3 a4) := by
 intro a0 a1 a2 a3 a4 k
 obtain ⟨ih0, ih1⟩ := spec_l8Back.mono_l k
 unfold spec_l8Back.f
 repeat' with_reducible first | apply ih0 | apply ih1 | apply spec_l1Has.mono | apply spec_l1Put.mono | apply spec_l7Meet.mono | apply spec_l8Next.mono | exact LeO.refl _ | exact LeO.none _ | apply LeO.ite | refine LeO.bind ?_ fun _ => ?_
theorem spec_l8Back.calls (k : Nat) (a0_0 : Int) (a0_1 : Int) (A0_2 : Option Addr) (c0_2 : Nat) (l0_2 : List (S79)) (A0_3 : Option Addr) (c0_3 : Nat) (l0_3 : List (S95)) (A1 : Option Addr) (c1 : Nat) (l1 : List Int) (r : List Int) (w : World) (hr0_2 : Kd.C k79 w A0_2 l0_2.length l0_2) (hc0_2 : l0_2.length ≤ c0_2) (hr0_3 : Kd.C k95 w A0_3 l0_3.length l0_3) (hc0_3 : l0_3.length ≤ c0_3) (hr1 : Kd.C (Kd.int .i64) w A1 l1.length l1) (hc1 : l1.length ≤ c1) (h : spec_l8Back.f k a0_0 a0_1 l0_2 l0_3 l1 = some r) :
  Calls Tryz.prog 77 #[.agg #[.int .i64 a0_0, .int .i64 a0_1, .slice A0_2 l0_2.length c0_2, .slice A0_3 l0_3.length c0_3], .slice A1 l1.length c1] w fun e w' => ∃ v0_ : Value, e = .returned (v0_) ∧ Kd.R (Kd.int .i64) 3 w' w.heap.size (fun _ => True) v0_ r ∧ Below w.heap.size w w' := by
 have hu33 := Tryz.underlying33
 have HR0_2 := am_ hr0_2
 have HC0_2 := am_ hc0_2
 clear hr0_2 hc0_2
 have HR0_3 := am_ hr0_3
 have HC0_3 := am_ hc0_3
 clear hr0_3 hc0_3
 have HR1 := am_ hr1
 have HC1 := am_ hc1
 clear hr1 hc1
 have HB := am_ (Below.refl w.heap.size w)
 have H := h
 clear h
 unfold spec_l8Back.f at H
 obtain ⟨t789, A3, H⟩ := Sh.ba H
 have H' := am_ H
 clear H
 go_enter Tryz.func77, Tryz.ntmps77
 go_wp2_with (first | ((with_reducible refine Sh.d 2 ?_); refine Sh.bz w (N := 2) (cs := #[.int .i64 a0_0, .int .i64 a0_1, .slice A0_2 l0_2.length c0_2, .slice A0_3 l0_3.length c0_3]) (t := 33) (h := ?_); clear HB; intro gb788 w4 BK788 GE788 HB) | ((with_reducible refine Sh.k 104 ?_); refine Sh.gL (some 9) Tryz.func104 #[.slice A1 l1.length c1] (h := ?_); (with_reducible refine (spec_l1Own.calls _ _ l1 t789 _ (Sh.cB HR1.out) HC1.out A3.out).mono ?_); rintro e w5 ⟨v790, rfl, ho0, hb⟩; refine ⟨_, rfl, ?_⟩; have HO791 := am_ (Kd.R_lower ho0 (below_size Sh.bw)); replace BK788 := Sh.ab BK788 hb; replace HB := Sh.hb hb; (try clear hb); (try clear hk); (try clear hi); (try clear ho0)))
 go_loopg [5, 6] k (fun kq v5 v6 w' => ∃ (x5_1 : List Int) (x6_1 : Bool), v6 = .bool x6_1 ∧ Aside0 (spec_l8Back.l0 kq x5_1 x6_1 a0_0 a0_1 l0_2 l0_3 = some r) ∧ Aside0 (kq ≤ k) ∧ Aside0 (Kd.R (Kd.int .i64) 3 w' w.heap.size (fun _ => True) v5 x5_1) ∧ Aside0 (w'.heap[gb788]? = some (.cells #[.int .i64 a0_0, .int .i64 a0_1, (.slice A0_2 l0_2.length c0_2), (.slice A0_3 l0_3.length c0_3)] 33 (0, 0))) ∧ Aside0 (Below w.heap.size w w'))
 case atStart => exact ⟨(t789), (true), (Sh.es), H', ⟨Nat.le_refl _⟩, ⟨Sh.rl HO791.out⟩, ⟨by refine Sh.pl ?_; exact BK788.out⟩, ⟨Sh.bw⟩⟩
 case round =>
  clear H'
  obtain ⟨x5_1, x6_1, rfl, HA, HK1, HO_5, BK788, HB⟩ := hrel
  cases gk with
  | zero => exact absurd HA.out (by simp [spec_l8Back.l0])
  | succ k1 =>
   have H := HA.out
   clear HA
   simp only [spec_l8Back.l0] at H
   by_cases c6 : x6_1 = true
   ·subst c6
    rw [if_pos rfl] at H
    have H' := am_ H
    clear H
    go_wp2
    go_loopg [5, 6, 7] k1 (fun kq v5 v6 v7 w' => ∃ (x5_2 : List Int) (x6_2 : Bool) (x7_2 : Int), v6 = .bool x6_2 ∧ v7 = .int .i64 x7_2 ∧ Aside0 (spec_l8Back.l1 kq x5_2 x6_2 x7_2 a0_0 a0_1 l0_2 l0_3 = some r) ∧ Aside0 (kq ≤ k1) ∧ Aside0 (Kd.R (Kd.int .i64) 3 w' w.heap.size (fun _ => True) v5 x5_2) ∧ Aside0 (w'.heap[gb788]? = some (.cells #[.int .i64 a0_0, .int .i64 a0_1, (.slice A0_2 l0_2.length c0_2), (.slice A0_3 l0_3.length c0_3)] 33 (0, 0))) ∧ Aside0 (Below w.heap.size w w'))
    case atStart => exact ⟨(x5_1), (false), (0), (Sh.es), (Sh.es), H', ⟨Nat.le_refl _⟩, ⟨Sh.rl HO_5.out⟩, ⟨by refine Sh.pl ?_; exact BK788.out⟩, ⟨Sh.bw⟩⟩
    case round =>
     clear H'
     obtain ⟨x5_2, x6_2, x7_2, rfl, rfl, HA, HK2, HO_5, BK788, HB⟩ := hrel
     cases gk with
     | zero => exact absurd HA.out (by simp [spec_l8Back.l1])
     | succ k2 =>
      have H := HA.out
      clear HA
      simp only [spec_l8Back.l1] at H
      obtain ⟨t792, A7, H⟩ := Sh.ba H
      by_cases c8 : x7_2 < t792
      ·rw [if_pos c8] at H
       replace c8 := decide_eq_true c8
       obtain ⟨t793, A9, H⟩ := Sh.ba H
       by_cases c10 : t793 = true
       ·subst c10
        rw [if_pos rfl] at H
        have H' := am_ H
        clear H
        have hcz11_0 := Sh.bc BK788.out 0
        have hcz11_1 := Sh.bc BK788.out 1
        have hcz11_2 := Sh.bc BK788.out 2
        have hcz11_3 := Sh.bc BK788.out 3
        have hfz11_0 := blk_frozen BK788.out 0
        have hfz11_1 := blk_frozen BK788.out 1
        have hfz11_2 := blk_frozen BK788.out 2
        have hfz11_3 := blk_frozen BK788.out 3
        go_wp2_with (first | ((with_reducible refine Sh.k 50 ?_); refine Sh.gB (some 13) Tryz.func50 #[.agg #[.int .i64 a0_0, .int .i64 a0_1, .slice A0_2 l0_2.length c0_2, .slice A0_3 l0_3.length c0_3]] (spec_l7Many.calls a0_0 a0_1 _ _ l0_2 _ _ l0_3 t792 _ (Sh.cB HR0_2.out) HC0_2.out (Sh.cB HR0_3.out) HC0_3.out A7.out) fun w12 hb => ?_; replace HO_5 := am_ (Kd.R_below (Sh.rl HO_5.out) hb); replace BK788 := Sh.ab BK788 hb; replace HB := Sh.hb hb; (try clear hb); obtain ⟨Ao13, co13, eo13⟩ := Kd.R_slice HO_5.out; subst eo13) | ((with_reducible refine Sh.k 51 ?_); refine Sh.gD (some 19) Tryz.func51 #[.slice Ao13 x5_2.length co13, .int .i64 x7_2] (spec_l1Has.calls k2 _ _ x5_2 x7_2 true _ (Sh.cR (Kd.R_reads' HO_5.out).2.2) (Kd.R_reads' HO_5.out).2.1 A9.out) fun nd => ?_))
        go_roundg k2
        case measure => have := HK1.out; have := HK2.out; omega
        case rel => exact ⟨(x5_2), (x6_2), (wrap64 (x7_2 + 1)), (Sh.es), (Sh.es), H', ⟨by have := HK1.out; have := HK2.out; omega⟩, ⟨Sh.rl HO_5.out⟩, ⟨by refine Sh.pl ?_; exact BK788.out⟩, ⟨Sh.bw⟩⟩
       ·replace c10 := Bool.eq_false_iff.mpr c10
        subst c10
        rw [Sh.nf] at H
        obtain ⟨t794, A14, H⟩ := Sh.ba H
        obtain ⟨t797, A15, H⟩ := Sh.ba H
        by_cases c16 : t797 = true
        ·subst c16
         rw [if_pos rfl] at H
         obtain ⟨t798, A17, H⟩ := Sh.ba H
         have H' := am_ H
         clear H
         have hcz18_0 := Sh.bc BK788.out 0
         have hcz18_1 := Sh.bc BK788.out 1
         have hcz18_2 := Sh.bc BK788.out 2
         have hcz18_3 := Sh.bc BK788.out 3
         have hfz18_0 := blk_frozen BK788.out 0
         have hfz18_1 := blk_frozen BK788.out 1
         have hfz18_2 := blk_frozen BK788.out 2
         have hfz18_3 := blk_frozen BK788.out 3
         go_wp2_with (first | ((with_reducible refine Sh.k 50 ?_); refine Sh.gB (some 13) Tryz.func50 #[.agg #[.int .i64 a0_0, .int .i64 a0_1, .slice A0_2 l0_2.length c0_2, .slice A0_3 l0_3.length c0_3]] (spec_l7Many.calls a0_0 a0_1 _ _ l0_2 _ _ l0_3 t792 _ (Sh.cB HR0_2.out) HC0_2.out (Sh.cB HR0_3.out) HC0_3.out A7.out) fun w19 hb => ?_; replace HO_5 := am_ (Kd.R_below (Sh.rl HO_5.out) hb); replace BK788 := Sh.ab BK788 hb; replace HB := Sh.hb hb; (try clear hb); obtain ⟨Ao20, co20, eo20⟩ := Kd.R_slice HO_5.out; subst eo20) | ((with_reducible refine Sh.k 51 ?_); refine Sh.gD (some 19) Tryz.func51 #[.slice Ao20 x5_2.length co20, .int .i64 x7_2] (spec_l1Has.calls k2 _ _ x5_2 x7_2 false _ (Sh.cR (Kd.R_reads' HO_5.out).2.2) (Kd.R_reads' HO_5.out).2.1 A9.out) fun nd => ?_; obtain ⟨hcz21_0, hcz21_1, hcz21_2, hcz21_3, hfz21_0, hfz21_1, hfz21_2, hfz21_3⟩ := Sh.b4 BK788.out) | (go_at_call 40; (with_reducible refine (spec_l8Next.calls k2 a0_0 a0_1 _ _ l0_2 _ _ l0_3 x7_2 t794 _ (Sh.cB HR0_2.out) HC0_2.out (Sh.cB HR0_3.out) HC0_3.out A14.out).mono ?_); rintro e w22 ⟨v795, rfl, ho0, hb⟩; have HO796 := am_ (Kd.R_lower (Kd.R_new' ho0 (Kd.R_lt (Sh.rl HO_5.out))) (below_size Sh.bw)); replace HO_5 := am_ (Kd.R_elder' (Sh.rl HO_5.out) (Kd.R_base ho0) hb); replace BK788 := Sh.ab BK788 hb; replace HB := Sh.hb hb; (try clear hb); (try clear ho0); obtain ⟨Ao23, co23, eo23⟩ := Kd.R_slice HO796.out; subst eo23) | (go_at_call 108; (with_reducible refine (spec_l7Meet.calls k2 _ _ t794 _ _ x5_2 true _ (Sh.cR (Kd.R_reads' HO796.out).2.2) (Kd.R_reads' HO796.out).2.1 (Sh.cR (Kd.R_reads' HO_5.out).2.2) (Kd.R_reads' HO_5.out).2.1 A15.out).mono ?_); rintro e w' ⟨rfl, ⟨nd, rfl⟩⟩) | ((with_reducible refine Sh.k 85 ?_); refine Sh.gL (some 30) Tryz.func85 #[.slice Ao20 x5_2.length co20, .int .i64 x7_2] (h := ?_); (with_reducible refine (spec_l1Put.calls k2 (fun k_ => some k_ = (.slice Ao20 x5_2.length co20 : Value).ownBlock) (.slice Ao20 x5_2.length co20) x5_2 x7_2 t798 w _ ?side1 ?side2 A17.out).mono ?_); (case side1 => repeat (first | (with_reducible first | exact HB.out | apply below_alloc | apply pw_below_drewN | apply below_drew1 | refine below_set ?_ GE788.out) | exact HB.out)); (case side2 => exact Kd.R_tight rfl HO_5.out); rintro e w24 ⟨v799, rfl, ho0, hb, hkp⟩; refine ⟨_, rfl, ?_⟩; have n0_ := am_ (blk_kept (Sh.pl BK788.out) hkp (fun hs_ => (fun e_ => (Kd.R_ne HO_5.out BK788.out (by decide)) e_) hs_)); have n1_ := am_ (Kd.R_mono (ok' := fun k_ => some k_ ≠ (v799 : Value).ownBlock) (Kd.R_keptB (HO796.out) hkp (fun k_ hk_ hs_ => (hk_.2) hs_)) (fun k_ hk_ => fun e_ => Or.elim (ho0.1 k_ e_.symm) (fun hs_ => hk_.2.1 hs_) (fun hn_ => Nat.not_le.2 hk_.2.2 hn_))); have n2_ := am_ (Kd.R_mono (ok' := fun k_ => some k_ ≠ (.slice Ao23 t794.length co23 : Value).ownBlock) ho0 (fun k_ hk_ => Or.elim hk_ (fun hs_ => fun e_ => (((HO796.out).1 k_ e_.symm).2) hs_) (fun hn_ => (Kd.fresh' (Kd.R_lt (Sh.rl HO796.out)) k_ hn_)))); have n3_ := am_ hb; clear BK788; clear HO796; clear HB; clear HO_5; have BK788 := n0_; have HO796 := n1_; have HO800 := n2_; have HB := n3_; clear n0_ n1_ n2_ n3_; (try clear hb); (try clear hkp); (try clear ho0)))
         go_roundg k2
         case measure => have := HK1.out; have := HK2.out; omega
         case rel => exact ⟨(t798), (true), (wrap64 (x7_2 + 1)), (Sh.es), (Sh.es), H', ⟨by have := HK1.out; have := HK2.out; omega⟩, ⟨Sh.rl (Kd.R_mono HO800.out (fun _ hk => trivial))⟩, ⟨by refine Sh.pl ?_; exact BK788.out⟩, ⟨Sh.bw⟩⟩
        ·replace c16 := Bool.eq_false_iff.mpr c16
         subst c16
         rw [Sh.nf] at H
         have H' := am_ H
         clear H
         have hcz25_0 := Sh.bc BK788.out 0
         have hcz25_1 := Sh.bc BK788.out 1
         have hcz25_2 := Sh.bc BK788.out 2
         have hcz25_3 := Sh.bc BK788.out 3
         have hfz25_0 := blk_frozen BK788.out 0
         have hfz25_1 := blk_frozen BK788.out 1
         have hfz25_2 := blk_frozen BK788.out 2
         have hfz25_3 := blk_frozen BK788.out 3
         go_wp2_with (first | ((with_reducible refine Sh.k 50 ?_); refine Sh.gB (some 13) Tryz.func50 #[.agg #[.int .i64 a0_0, .int .i64 a0_1, .slice A0_2 l0_2.length c0_2, .slice A0_3 l0_3.length c0_3]] (spec_l7Many.calls a0_0 a0_1 _ _ l0_2 _ _ l0_3 t792 _ (Sh.cB HR0_2.out) HC0_2.out (Sh.cB HR0_3.out) HC0_3.out A7.out) fun w26 hb => ?_; replace HO_5 := am_ (Kd.R_below (Sh.rl HO_5.out) hb); replace BK788 := Sh.ab BK788 hb; replace HB := Sh.hb hb; (try clear hb); (try clear hk); obtain ⟨Ao27, co27, eo27⟩ := Kd.R_slice HO_5.out; subst eo27) | ((with_reducible refine Sh.k 51 ?_); refine Sh.gD (some 19) Tryz.func51 #[.slice Ao27 x5_2.length co27, .int .i64 x7_2] (spec_l1Has.calls k2 _ _ x5_2 x7_2 false _ (Sh.cR (Kd.R_reads' HO_5.out).2.2) (Kd.R_reads' HO_5.out).2.1 A9.out) fun nd => ?_; obtain ⟨hcz28_0, hcz28_1, hcz28_2, hcz28_3, hfz28_0, hfz28_1, hfz28_2, hfz28_3⟩ := Sh.b4 BK788.out) | (go_at_call 40; (with_reducible refine (spec_l8Next.calls k2 a0_0 a0_1 _ _ l0_2 _ _ l0_3 x7_2 t794 _ (Sh.cB HR0_2.out) HC0_2.out (Sh.cB HR0_3.out) HC0_3.out A14.out).mono ?_); rintro e w29 ⟨v795, rfl, ho0, hb⟩; have HO796 := am_ (Kd.R_lower (Kd.R_new' ho0 (Kd.R_lt (Sh.rl HO_5.out))) (below_size Sh.bw)); replace HO_5 := am_ (Kd.R_elder' (Sh.rl HO_5.out) (Kd.R_base ho0) hb); replace BK788 := Sh.ab BK788 hb; replace HB := Sh.hb hb; (try clear hb); (try clear ho0); obtain ⟨Ao30, co30, eo30⟩ := Kd.R_slice HO796.out; subst eo30) | (go_at_call 108; (with_reducible refine (spec_l7Meet.calls k2 _ _ t794 _ _ x5_2 false _ (Sh.cR (Kd.R_reads' HO796.out).2.2) (Kd.R_reads' HO796.out).2.1 (Sh.cR (Kd.R_reads' HO_5.out).2.2) (Kd.R_reads' HO_5.out).2.1 A15.out).mono ?_); rintro e w' ⟨rfl, ⟨nd, rfl⟩⟩))
         go_roundg k2
         case measure => have := HK1.out; have := HK2.out; omega
         case rel => exact ⟨(x5_2), (x6_2), (wrap64 (x7_2 + 1)), (Sh.es), (Sh.es), H', ⟨by have := HK1.out; have := HK2.out; omega⟩, ⟨Sh.rl (Kd.R_mono HO_5.out (fun _ hk => trivial))⟩, ⟨by refine Sh.pl ?_; exact BK788.out⟩, ⟨Sh.bw⟩⟩
      ·rw [if_neg c8] at H
       replace c8 := decide_eq_false c8
       have H' := am_ H
       clear H
       have hcz31_0 := Sh.bc BK788.out 0
       have hcz31_1 := Sh.bc BK788.out 1
       have hcz31_2 := Sh.bc BK788.out 2
       have hcz31_3 := Sh.bc BK788.out 3
       have hfz31_0 := blk_frozen BK788.out 0
       have hfz31_1 := blk_frozen BK788.out 1
       have hfz31_2 := blk_frozen BK788.out 2
       have hfz31_3 := blk_frozen BK788.out 3
       go_wp2_with (first | ((with_reducible refine Sh.k 50 ?_); refine Sh.gB (some 13) Tryz.func50 #[.agg #[.int .i64 a0_0, .int .i64 a0_1, .slice A0_2 l0_2.length c0_2, .slice A0_3 l0_3.length c0_3]] (spec_l7Many.calls a0_0 a0_1 _ _ l0_2 _ _ l0_3 t792 _ (Sh.cB HR0_2.out) HC0_2.out (Sh.cB HR0_3.out) HC0_3.out A7.out) fun w32 hb => ?_; replace HO_5 := am_ (Kd.R_below (Sh.rl HO_5.out) hb); replace BK788 := Sh.ab BK788 hb; replace HB := Sh.hb hb; (try clear hb); (try clear hk)))
       go_roundg k2
       case measure => have := HK1.out; have := HK2.out; omega
       case rel => exact ⟨(x5_2), (x6_2), (Sh.es), H', ⟨by have := HK1.out; have := HK2.out; omega⟩, ⟨Sh.rl HO_5.out⟩, ⟨by refine Sh.pl ?_; exact BK788.out⟩, ⟨Sh.bw⟩⟩
   ·replace c6 := Bool.eq_false_iff.mpr c6
    subst c6
    rw [Sh.nf] at H
    obtain rfl := Option.some.inj H
    go_wp2
    go_ret
    exact ⟨_, Sh.eR, Sh.rl HO_5.out, Sh.bw⟩
def spec_BackFrom.f (k : Nat) (a0_0 : Int) (a0_1 : Int) (l0_2 : List (S79)) (l0_3 : List (S95)) (l1 : List Int) : Option (List Int × Bool) := (spec_l7Small.f k a0_0 a0_1 l0_2 l0_3).bind fun t802 => (if t802 = true then ((spec_l7Many.f a0_0 a0_1 l0_2 l0_3).bind fun t803 => ((spec_l1Rising.f k l1 0 (wrap64 (t803 - 1))).bind fun t804 => (if t804 = true then ((spec_l8Back.f k a0_0 a0_1 l0_2 l0_3 l1).bind fun t805 => (some (t805, true))) else (some (([] : List Int), false))))) else (some (([] : List Int), false)))
theorem spec_BackFrom.mono : ∀ a0 a1 a2 a3 a4 k, LeO (spec_BackFrom.f k a0 a1 a2 a3 a4) (spec_BackFrom.f (k + 1) a0 a1 a2 a3 a4) := by
 intro a0 a1 a2 a3 a4 k
 unfold spec_BackFrom.f
 repeat' with_reducible first | apply spec_l1Rising.mono | apply spec_l7Small.mono | apply spec_l8Back.mono | exact LeO.refl _ | exact LeO.none _ | apply LeO.ite | refine LeO.bind ?_ fun _ => ?_
theorem spec_BackFrom.calls (k : Nat) (a0_0 : Int) (a0_1 : Int) (A0_2 : Option Addr) (c0_2 : Nat) (l0_2 : List (S79)) (A0_3 : Option Addr) (c0_3 : Nat) (l0_3 : List (S95)) (A1 : Option Addr) (c1 : Nat) (l1 : List Int) (r1 : List Int) (r2 : Bool) (w : World) (hr0_2 : Kd.C k79 w A0_2 l0_2.length l0_2) (hc0_2 : l0_2.length ≤ c0_2) (hr0_3 : Kd.C k95 w A0_3 l0_3.length l0_3) (hc0_3 : l0_3.length ≤ c0_3) (hr1 : Kd.C (Kd.int .i64) w A1 l1.length l1) (hc1 : l1.length ≤ c1) (h : spec_BackFrom.f k a0_0 a0_1 l0_2 l0_3 l1 = some (r1, r2)) :
  Calls Tryz.prog 34 #[.agg #[.int .i64 a0_0, .int .i64 a0_1, .slice A0_2 l0_2.length c0_2, .slice A0_3 l0_3.length c0_3], .slice A1 l1.length c1] w fun e w' => ∃ v0_ : Value, e = .returned (.tuple #[v0_, .bool r2]) ∧ Kd.R (Kd.int .i64) 3 w' w.heap.size (fun _ => True) v0_ r1 ∧ Below w.heap.size w w' := by
 have hu33 := Tryz.underlying33
 have HR0_2 := am_ hr0_2
 have HC0_2 := am_ hc0_2
 clear hr0_2 hc0_2
 have HR0_3 := am_ hr0_3
 have HC0_3 := am_ hc0_3
 clear hr0_3 hc0_3
 have HR1 := am_ hr1
 have HC1 := am_ hc1
 clear hr1 hc1
 have HB := am_ (Below.refl w.heap.size w)
 have H := h
 clear h
 unfold spec_BackFrom.f at H
 obtain ⟨t802, A3, H⟩ := Sh.ba H
 by_cases c4 : t802 = true
 ·subst c4
  rw [if_pos rfl] at H
  obtain ⟨t803, A5, H⟩ := Sh.ba H
  obtain ⟨t804, A6, H⟩ := Sh.ba H
  by_cases c7 : t804 = true
  ·subst c7
   rw [if_pos rfl] at H
   obtain ⟨t805, A8, H⟩ := Sh.ba H
   obtain ⟨rfl, rfl⟩ := Prod.mk.inj (Option.some.inj H)
   go_enter Tryz.func34, Tryz.ntmps34
   go_wp2_with (first | ((with_reducible refine Sh.d 2 ?_); refine Sh.bz w (N := 2) (cs := #[.int .i64 a0_0, .int .i64 a0_1, .slice A0_2 l0_2.length c0_2, .slice A0_3 l0_3.length c0_3]) (t := 33) (h := ?_); clear HB; intro gb801 w9 BK801 GE801 HB; obtain ⟨hcz10_0, hcz10_1, hcz10_2, hcz10_3, hfz10_0, hfz10_1, hfz10_2, hfz10_3⟩ := Sh.b4 BK801.out) | ((with_reducible refine Sh.k 47 ?_); refine Sh.gB (some 7) Tryz.func47 #[.agg #[.int .i64 a0_0, .int .i64 a0_1, .slice A0_2 l0_2.length c0_2, .slice A0_3 l0_3.length c0_3]] (spec_l7Small.calls k a0_0 a0_1 _ _ l0_2 _ _ l0_3 true _ (Sh.cB HR0_2.out) HC0_2.out (Sh.cB HR0_3.out) HC0_3.out A3.out) fun w11 hb => ?_; replace BK801 := Sh.ab BK801 hb; replace HB := Sh.hb hb; (try clear hb); obtain ⟨hcz12_0, hcz12_1, hcz12_2, hcz12_3, hfz12_0, hfz12_1, hfz12_2, hfz12_3⟩ := Sh.b4 BK801.out) | (go_at_call 50; (with_reducible refine (spec_l7Many.calls a0_0 a0_1 _ _ l0_2 _ _ l0_3 t803 _ (Sh.cB HR0_2.out) HC0_2.out (Sh.cB HR0_3.out) HC0_3.out A5.out).mono ?_); rintro e w13 ⟨rfl, hb⟩; replace BK801 := Sh.ab BK801 hb; replace HB := Sh.hb hb; (try clear hb)) | (go_at_call 76; (with_reducible refine (spec_l1Rising.calls k _ _ l1 0 (wrap64 (t803 - 1)) true _ (Sh.cB HR1.out) HC1.out A6.out).mono ?_); rintro e w' ⟨rfl, ⟨nd, rfl⟩⟩; obtain ⟨hcz14_0, hcz14_1, hcz14_2, hcz14_3, hfz14_0, hfz14_1, hfz14_2, hfz14_3⟩ := Sh.b4 BK801.out) | ((with_reducible refine Sh.k 77 ?_); refine Sh.gL (some 19) Tryz.func77 #[.agg #[.int .i64 a0_0, .int .i64 a0_1, .slice A0_2 l0_2.length c0_2, .slice A0_3 l0_3.length c0_3], .slice A1 l1.length c1] (h := ?_); (with_reducible refine (spec_l8Back.calls k a0_0 a0_1 _ _ l0_2 _ _ l0_3 _ _ l1 t805 _ (Sh.cB HR0_2.out) HC0_2.out (Sh.cB HR0_3.out) HC0_3.out (Sh.cB HR1.out) HC1.out A8.out).mono ?_); rintro e w15 ⟨v806, rfl, ho0, hb⟩; refine ⟨_, rfl, ?_⟩; have HO807 := am_ (Kd.R_lower ho0 (below_size Sh.bw)); replace BK801 := Sh.ab BK801 hb; replace HB := Sh.hb hb; (try clear hb); (try clear ho0)))
   go_ret2
   exact ⟨_, Sh.eR, Sh.rl HO807.out, Sh.bw⟩
  ·replace c7 := Bool.eq_false_iff.mpr c7
   subst c7
   rw [Sh.nf] at H
   obtain ⟨rfl, rfl⟩ := Prod.mk.inj (Option.some.inj H)
   go_enter Tryz.func34, Tryz.ntmps34
   go_wp2_with (first | ((with_reducible refine Sh.d 2 ?_); refine Sh.bz w (N := 2) (cs := #[.int .i64 a0_0, .int .i64 a0_1, .slice A0_2 l0_2.length c0_2, .slice A0_3 l0_3.length c0_3]) (t := 33) (h := ?_); clear HB; intro gb801 w16 BK801 GE801 HB; obtain ⟨hcz17_0, hcz17_1, hcz17_2, hcz17_3, hfz17_0, hfz17_1, hfz17_2, hfz17_3⟩ := Sh.b4 BK801.out) | ((with_reducible refine Sh.k 47 ?_); refine Sh.gB (some 7) Tryz.func47 #[.agg #[.int .i64 a0_0, .int .i64 a0_1, .slice A0_2 l0_2.length c0_2, .slice A0_3 l0_3.length c0_3]] (spec_l7Small.calls k a0_0 a0_1 _ _ l0_2 _ _ l0_3 true _ (Sh.cB HR0_2.out) HC0_2.out (Sh.cB HR0_3.out) HC0_3.out A3.out) fun w18 hb => ?_; replace BK801 := Sh.ab BK801 hb; replace HB := Sh.hb hb; (try clear hb); obtain ⟨hcz19_0, hcz19_1, hcz19_2, hcz19_3, hfz19_0, hfz19_1, hfz19_2, hfz19_3⟩ := Sh.b4 BK801.out) | (go_at_call 50; (with_reducible refine (spec_l7Many.calls a0_0 a0_1 _ _ l0_2 _ _ l0_3 t803 _ (Sh.cB HR0_2.out) HC0_2.out (Sh.cB HR0_3.out) HC0_3.out A5.out).mono ?_); rintro e w20 ⟨rfl, hb⟩; replace BK801 := Sh.ab BK801 hb; replace HB := Sh.hb hb; (try clear hb)) | (go_at_call 76; (with_reducible refine (spec_l1Rising.calls k _ _ l1 0 (wrap64 (t803 - 1)) false _ (Sh.cB HR1.out) HC1.out A6.out).mono ?_); rintro e w' ⟨rfl, ⟨nd, rfl⟩⟩))
   go_ret2
   exact ⟨_, Sh.eR, by first | exact Kd.R_nil _ _ _ _ _ | exact Kd.N_nil _ _ _ _ _ | exact Kd.V_nil _ _ _ _ _ | exact Kd.Q_nil _ _ _ _ _ | exact Kd.S_nil _ _ _ _ _, Sh.bw⟩
 ·replace c4 := Bool.eq_false_iff.mpr c4
  subst c4
  rw [Sh.nf] at H
  obtain ⟨rfl, rfl⟩ := Prod.mk.inj (Option.some.inj H)
  go_enter Tryz.func34, Tryz.ntmps34
  go_wp2_with (first | ((with_reducible refine Sh.d 2 ?_); refine Sh.bz w (N := 2) (cs := #[.int .i64 a0_0, .int .i64 a0_1, .slice A0_2 l0_2.length c0_2, .slice A0_3 l0_3.length c0_3]) (t := 33) (h := ?_); clear HB; intro gb801 w21 BK801 GE801 HB; obtain ⟨hcz22_0, hcz22_1, hcz22_2, hcz22_3, hfz22_0, hfz22_1, hfz22_2, hfz22_3⟩ := Sh.b4 BK801.out) | ((with_reducible refine Sh.k 47 ?_); refine Sh.gB (some 7) Tryz.func47 #[.agg #[.int .i64 a0_0, .int .i64 a0_1, .slice A0_2 l0_2.length c0_2, .slice A0_3 l0_3.length c0_3]] (spec_l7Small.calls k a0_0 a0_1 _ _ l0_2 _ _ l0_3 false _ (Sh.cB HR0_2.out) HC0_2.out (Sh.cB HR0_3.out) HC0_3.out A3.out) fun w23 hb => ?_; replace BK801 := Sh.ab BK801 hb; replace HB := Sh.hb hb; (try clear hb)))
  go_ret2
  exact ⟨_, Sh.eR, by first | exact Kd.R_nil _ _ _ _ _ | exact Kd.N_nil _ _ _ _ _ | exact Kd.V_nil _ _ _ _ _ | exact Kd.Q_nil _ _ _ _ _ | exact Kd.S_nil _ _ _ _ _, Sh.bw⟩
def impl_isIncreasing.l0 : Nat → List Int → Int → List Int → Int → Int → Option (Bool)
 | 0, _, _, _, _, _ => none
 | k + 1, x0, x1, x7, x8, x9 => if x9 < x8 then (if 0 ≤ x9 then (if x9 < (x7.length : Int) then (if (rd x7 x9) < 0 then (some false) else (if (rd x7 x9) ≥ x1 then (some false) else (if x9 > 0 then (if 0 ≤ (wrap64 (x9 - 1)) then (if (wrap64 (x9 - 1)) < (x0.length : Int) then (if (rd x0 (wrap64 (x9 - 1))) ≥ (rd x7 x9) then (some false) else (impl_isIncreasing.l0 k x0 x1 x7 x8 (wrap64 (x9 + 1)))) else (none)) else (none)) else (impl_isIncreasing.l0 k x0 x1 x7 x8 (wrap64 (x9 + 1)))))) else (none)) else (none)) else (some true)
def impl_isIncreasing.f (k : Nat) (l0 : List Int) (a1 : Int) : Option (Bool) := impl_isIncreasing.l0 k l0 a1 l0 (l0.length : Int) 0
theorem impl_isIncreasing.mono_l : ∀ k, (∀ y0 y1 y2 y3 y4, LeO (impl_isIncreasing.l0 k y0 y1 y2 y3 y4) (impl_isIncreasing.l0 (k + 1) y0 y1 y2 y3 y4))
 | 0 => fun _ _ _ _ _ r h => by simp [impl_isIncreasing.l0] at h
 | k + 1 => by
  have ih0 := impl_isIncreasing.mono_l k
  ·intro y0 y1 y2 y3 y4
   unfold impl_isIncreasing.l0
   repeat' with_reducible first | apply ih0 | exact LeO.refl _ | exact LeO.none _ | apply LeO.ite | refine LeO.bind ?_ fun _ => ?_
theorem impl_isIncreasing.mono : ∀ a0 a1 k, LeO (impl_isIncreasing.f k a0 a1) (impl_isIncreasing.f (k + 1) a0 a1) := by
 intro a0 a1 k
 have ih0 := impl_isIncreasing.mono_l k
 unfold impl_isIncreasing.f
 repeat' with_reducible first | apply ih0 | exact LeO.refl _ | exact LeO.none _ | apply LeO.ite | refine LeO.bind ?_ fun _ => ?_
theorem impl_isIncreasing.calls (k : Nat) (A0 : Option Addr) (c0 : Nat) (l0 : List Int) (a1 : Int) (r : Bool) (w : World) (hr0 : Kd.C (Kd.int .i64) w A0 l0.length l0) (hc0 : l0.length ≤ c0) (h : impl_isIncreasing.f k l0 a1 = some r) :
  Calls Tryz.prog 78 #[.slice A0 l0.length c0, .int .i64 a1] w fun e w' => e = .returned (.bool r) ∧ Drawn0 w w' := by
 have HR0 := am_ hr0
 have HC0 := am_ hc0
 clear hr0 hc0
 have H := h
 clear h
 unfold impl_isIncreasing.f at H
 have H' := am_ H
 clear H
 go_enter Tryz.func78, Tryz.ntmps78
 go_wp2
 go_loopg [9] k (fun kq v9 w' => ∃ (x9_1 : Int), v9 = .int .i64 x9_1 ∧ Aside0 (impl_isIncreasing.l0 kq l0 a1 l0 (l0.length : Int) x9_1 = some r) ∧ Aside0 (kq ≤ k) ∧ Drawn0 w w')
 case atStart => exact ⟨(0), (Sh.es), H', ⟨Nat.le_refl _⟩, Sh.dr⟩
 case round =>
  clear H'
  obtain ⟨x9_1, rfl, HA, HK1, ⟨m1, rfl⟩⟩ := hrel
  cases gk with
  | zero => exact absurd HA.out (by simp [impl_isIncreasing.l0])
  | succ k1 =>
   have H := HA.out
   clear HA
   simp only [impl_isIncreasing.l0] at H
   by_cases c3 : x9_1 < (l0.length : Int)
   ·rw [if_pos c3] at H
    replace c3 := decide_eq_true c3
    by_cases c4 : 0 ≤ x9_1
    ·rw [if_pos c4] at H
     replace c4 := decide_eq_true c4
     by_cases c5 : x9_1 < (l0.length : Int)
     ·rw [if_pos c5] at H
      replace c5 := decide_eq_true c5
      by_cases c6 : (rd l0 x9_1) < 0
      ·rw [if_pos c6] at H
       replace c6 := decide_eq_true c6
       obtain rfl := Option.some.inj H
       have p808 : 0 ≤ (x9_1 : Int) := Sh.od
       have q808 : x9_1 < (l0.length : Int) := Sh.od
       obtain ⟨ad808, e808, hx808_0⟩ := Kd.at_int HR0.out x9_1 p808 q808
       cases e808
       replace p808 := eq_true p808
       replace q808 := eq_true q808
       go_wp2
       go_ret
       exact ⟨Sh.es, Sh.dr⟩
      ·rw [if_neg c6] at H
       replace c6 := decide_eq_false c6
       by_cases c7 : (rd l0 x9_1) ≥ a1
       ·rw [if_pos c7] at H
        have c7b0 : decide (a1 ≤ (rd l0 x9_1)) = true := decide_eq_true c7
        clear c7
        obtain rfl := Option.some.inj H
        have p808 : 0 ≤ (x9_1 : Int) := Sh.od
        have q808 : x9_1 < (l0.length : Int) := Sh.od
        obtain ⟨ad808, e808, hx808_0⟩ := Kd.at_int HR0.out x9_1 p808 q808
        cases e808
        replace p808 := eq_true p808
        replace q808 := eq_true q808
        go_wp2
        go_ret
        exact ⟨Sh.es, Sh.dr⟩
       ·rw [if_neg c7] at H
        have c7b0 : decide (a1 ≤ (rd l0 x9_1)) = false := decide_eq_false c7
        clear c7
        by_cases c8 : x9_1 > 0
        ·rw [if_pos c8] at H
         have c8b0 : decide (0 < x9_1) = true := decide_eq_true c8
         clear c8
         obtain ⟨ji9, hj1⟩ : ∃ j_ : Int, (wrap64 (x9_1 - 1)) = j_ := ⟨_, rfl⟩
         replace H : (if 0 ≤ (ji9) then (if (ji9) < (l0.length : Int) then (if (rd l0 (ji9)) ≥ (rd l0 x9_1) then (some false) else (impl_isIncreasing.l0 k1 l0 a1 l0 (l0.length : Int) (wrap64 (x9_1 + 1)))) else (none)) else (none)) = some r := by first | (rw [hj1] at H; exact H) | (simp only [hj1] at H ⊢; exact H)
         have hji9w : (IntKind.i64.wrap (x9_1 - 1)) = ji9 := (i64_w _).trans hj1
         by_cases c10 : 0 ≤ (ji9)
         ·rw [if_pos c10] at H
          replace c10 := decide_eq_true c10
          by_cases c11 : (ji9) < (l0.length : Int)
          ·rw [if_pos c11] at H
           replace c11 := decide_eq_true c11
           by_cases c12 : (rd l0 (ji9)) ≥ (rd l0 x9_1)
           ·rw [if_pos c12] at H
            have c12b0 : decide ((rd l0 x9_1) ≤ (rd l0 (ji9))) = true := decide_eq_true c12
            clear c12
            obtain rfl := Option.some.inj H
            have p808 : 0 ≤ (x9_1 : Int) := Sh.od
            have q808 : x9_1 < (l0.length : Int) := Sh.od
            obtain ⟨ad808, e808, hx808_0⟩ := Kd.at_int HR0.out x9_1 p808 q808
            cases e808
            replace p808 := eq_true p808
            replace q808 := eq_true q808
            have p809 : 0 ≤ ((ji9) : Int) := Sh.od
            have q809 : (ji9) < (l0.length : Int) := Sh.od
            obtain ⟨ad809, e809, hx809_0⟩ := Kd.at_int HR0.out (ji9) p809 q809
            obtain rfl : ad808 = ad809 := (by injection e809)
            replace p809 := eq_true p809
            replace q809 := eq_true q809
            go_wp2
            go_ret
            exact ⟨by first | rfl | (simp; done) | (simp only [← hj1] <;> (first | rfl | simp)) | (simp [*]; done), Sh.dr⟩
           ·rw [if_neg c12] at H
            have c12b0 : decide ((rd l0 x9_1) ≤ (rd l0 (ji9))) = false := decide_eq_false c12
            clear c12
            have H' := am_ H
            clear H
            have p808 : 0 ≤ (x9_1 : Int) := Sh.od
            have q808 : x9_1 < (l0.length : Int) := Sh.od
            obtain ⟨ad808, e808, hx808_0⟩ := Kd.at_int HR0.out x9_1 p808 q808
            cases e808
            replace p808 := eq_true p808
            replace q808 := eq_true q808
            have p809 : 0 ≤ ((ji9) : Int) := Sh.od
            have q809 : (ji9) < (l0.length : Int) := Sh.od
            obtain ⟨ad809, e809, hx809_0⟩ := Kd.at_int HR0.out (ji9) p809 q809
            obtain rfl : ad808 = ad809 := (by injection e809)
            replace p809 := eq_true p809
            replace q809 := eq_true q809
            go_wp2
            go_roundg k1
            case measure => have := HK1.out; omega
            case rel => exact ⟨(wrap64 (x9_1 + 1)), (Sh.es), H', ⟨by have := HK1.out; omega⟩, Sh.dr⟩
          ·rw [if_neg c11] at H
           cases H
         ·rw [if_neg c10] at H
          cases H
        ·rw [if_neg c8] at H
         have c8b0 : decide (0 < x9_1) = false := decide_eq_false c8
         clear c8
         have H' := am_ H
         clear H
         have p808 : 0 ≤ (x9_1 : Int) := Sh.od
         have q808 : x9_1 < (l0.length : Int) := Sh.od
         obtain ⟨ad808, e808, hx808_0⟩ := Kd.at_int HR0.out x9_1 p808 q808
         cases e808
         replace p808 := eq_true p808
         replace q808 := eq_true q808
         go_wp2
         go_roundg k1
         case measure => have := HK1.out; omega
         case rel => exact ⟨(wrap64 (x9_1 + 1)), (Sh.es), H', ⟨by have := HK1.out; omega⟩, Sh.dr⟩
     ·rw [if_neg c5] at H
      cases H
    ·rw [if_neg c4] at H
     cases H
   ·rw [if_neg c3] at H
    replace c3 := decide_eq_false c3
    obtain rfl := Option.some.inj H
    go_wp2
    go_ret
    exact ⟨Sh.es, Sh.dr⟩
mutual
def impl_turned.l0 : Nat → List (List Int) → List (List Int) → Int → Int → Option ((List (List Int)))
 | 0, _, _, _, _ => none
 | k + 1, x3, x11, x12, x13 => if x13 < x12 then (if 0 ≤ x13 then (if x13 < (x11.length : Int) then (impl_turned.l1 k x3 x13 x11 x12 x13 (rd_L12 x11 x13) ((rd_L12 x11 x13).length : Int) 0) else (none)) else (none)) else (some x3)
def impl_turned.l1 : Nat → List (List Int) → Int → List (List Int) → Int → Int → List Int → Int → Int → Option ((List (List Int)))
 | 0, _, _, _, _, _, _, _, _ => none
 | k + 1, x3, x4, x11, x12, x13, x18, x19, x20 => if x20 < x19 then (if 0 ≤ x20 then (if x20 < (x18.length : Int) then (if 0 ≤ (rd x18 x20) then (if (rd x18 x20) < (x3.length : Int) then (if (rd_L12 x3 (rd x18 x20)).length < 17592186044416 then (impl_turned.l1 k (x3.set ((rd x18 x20) : Int).toNat ((rd_L12 x3 (rd x18 x20)) ++ [x4])) x4 x11 x12 x13 x18 x19 (wrap64 (x20 + 1))) else (none)) else (none)) else (none)) else (none)) else (none)) else (impl_turned.l0 k x3 x11 x12 (wrap64 (x13 + 1)))
end
def impl_turned.f (k : Nat) (l0 : List (List Int)) : Option ((List (List Int))) := if 0 ≤ (l0.length : Int) then (if ((l0.length : Int) : Int).toNat ≤ 11728124029610 then (impl_turned.l0 k (List.replicate ((l0.length : Int) : Int).toNat []) l0 (l0.length : Int) 0) else (none)) else (none)
theorem impl_turned.mono_l : ∀ k, (∀ y0 y1 y2 y3, LeO (impl_turned.l0 k y0 y1 y2 y3) (impl_turned.l0 (k + 1) y0 y1 y2 y3)) ∧ (∀ y0 y1 y2 y3 y4 y5 y6 y7, LeO (impl_turned.l1 k y0 y1 y2 y3 y4 y5 y6 y7) (impl_turned.l1 (k + 1) y0 y1 y2 y3 y4 y5 y6 y7))
 | 0 => ⟨fun _ _ _ _ r h => by simp [impl_turned.l0] at h, fun _ _ _ _ _ _ _ _ r h => by simp [impl_turned.l1] at h⟩
 | k + 1 => by
  obtain ⟨ih0, ih1⟩ := impl_turned.mono_l k
  and_intros <;> intros
  all_goals (first | unfold impl_turned.l0 | unfold impl_turned.l1)
  all_goals repeat' with_reducible first | apply ih0 | apply ih1 | exact LeO.refl _ | exact LeO.none _ | apply LeO.ite | refine LeO.bind ?_ fun _ => ?_
theorem impl_turned.mono : ∀ a0 k, LeO (impl_turned.f k a0) (impl_turned.f (k + 1) a0) := by
 intro a0 k
 obtain ⟨ih0, ih1⟩ := impl_turned.mono_l k
 unfold impl_turned.f
 repeat' with_reducible first | apply ih0 | apply ih1 | exact LeO.refl _ | exact LeO.none _ | apply LeO.ite | refine LeO.bind ?_ fun _ => ?_
theorem impl_turned.calls (k : Nat) (A0 : Option Addr) (c0 : Nat) (l0 : List (List Int)) (r : List (List Int)) (w : World) (hr0 : Kd.C (Kd.slice 3 (Kd.int .i64)) w A0 l0.length l0) (hc0 : l0.length ≤ c0) (h : impl_turned.f k l0 = some r) :
  Calls Tryz.prog 81 #[.slice A0 l0.length c0] w fun e w' => ∃ v0_ : Value, e = .returned (v0_) ∧ Kd.S (Kd.slice 3 (Kd.int .i64)) 27 w' w.heap.size (fun _ => True) v0_ r ∧ Below w.heap.size w w' := by
 have HR0 := am_ hr0
 have HC0 := am_ hc0
 clear hr0 hc0
 have HB := am_ (Below.refl w.heap.size w)
 have H := h
 clear h
 unfold impl_turned.f at H
 by_cases c2 : 0 ≤ (l0.length : Int)
 ·rw [if_pos c2] at H
  have c2b0 := eq_true c2
  have c2b1 := decide_eq_true c2
  clear c2
  by_cases c3 : ((l0.length : Int) : Int).toNat ≤ 11728124029610
  ·rw [if_pos c3] at H
   have c3b0 := eq_true c3
   have c3b1 := decide_eq_true c3
   clear c3
   obtain ⟨y810, hy810⟩ : ∃ y_ : List (List Int), y_ = (List.replicate ((l0.length : Int) : Int).toNat []) := ⟨_, rfl⟩
   replace H : (impl_turned.l0 k y810 l0 (l0.length : Int) 0) = some r := by first | (rw [hy810]; with_reducible exact H) | (have H2_ := (Option.bind_some _ _).symm.trans H; rw [hy810]; with_reducible exact H2_) | (have H2_ := (Option.bind_some _ _).symm.trans H; with_reducible exact H2_) | with_reducible exact H | (rw [hy810]; exact H) | exact H
   have Ny810 := am_ hy810
   clear hy810
   have H' := am_ H
   clear H
   go_enter Tryz.func81, Tryz.ntmps81
   go_wp2_with (first | ((with_reducible refine Sh.d 10 ?_); refine Kd.S_make (Kd.slice 3 (Kd.int .i64)) _ 27 rfl (N := 10) rfl 88 _ _ rfl (l0.length : Int) rfl rfl Tryz.underlying88 (.slice none 0 0) 24 info27 rfl (by decide) (by omega) [] (ok := fun _ => True) (okp := fun _ => True) ⟨_, rfl, Kd.R_nil _ _ _ _ _⟩ (fun _ hk => hk) trivial (of_decide_eq_true (by first | (with_reducible assumption) | assumption)) (Nat.le_trans (Nat.mul_le_mul_right _ (of_decide_eq_true (by first | (with_reducible assumption) | assumption) : (l0.length : Int).toNat ≤ 11728124029610)) (by omega)) (Below.refl _ _) (Nat.le_refl _) ?_; intro v811 w4 ho5 hb hg_ hnew_; clear hg_ hnew_; (first | rw [← Ny810.out] at ho5 | (simp only [Int.reduceToNat] at ho5; rw [← Ny810.out] at ho5)); have HO812 := am_ (Kd.S_lower ho5 (below_size Sh.bw)); replace HB := Sh.hb hb; clear hb ho5))
   go_loopg [13] k (fun kq v13 w' => ∃ (x3_1 : List (List Int)) (x13_1 : Int), v13 = .int .i64 x13_1 ∧ Aside0 (impl_turned.l0 kq x3_1 l0 (l0.length : Int) x13_1 = some r) ∧ Aside0 (kq ≤ k) ∧ Aside0 (Kd.S (Kd.slice 3 (Kd.int .i64)) 27 w' w.heap.size (fun _ => True) v811 x3_1) ∧ Aside0 (Below w.heap.size w w'))
   case atStart => exact ⟨(y810), (0), (Sh.es), H', ⟨Nat.le_refl _⟩, ⟨by (with_reducible repeat (first | apply Kd.S_alloc | apply Kd.S_drewN | apply Kd.S_drew)); exact HO812.out⟩, ⟨Sh.bw⟩⟩
   case round =>
    clear H'
    obtain ⟨x3_1, x13_1, rfl, HA, HK1, HO_3, HB⟩ := hrel
    cases gk with
    | zero => exact absurd HA.out (by simp [impl_turned.l0])
    | succ k1 =>
     have H := HA.out
     clear HA
     simp only [impl_turned.l0] at H
     by_cases c6 : x13_1 < (l0.length : Int)
     ·rw [if_pos c6] at H
      replace c6 := decide_eq_true c6
      by_cases c7 : 0 ≤ x13_1
      ·rw [if_pos c7] at H
       replace c7 := decide_eq_true c7
       by_cases c8 : x13_1 < (l0.length : Int)
       ·rw [if_pos c8] at H
        replace c8 := decide_eq_true c8
        have H' := am_ H
        clear H
        have p813 : 0 ≤ (x13_1 : Int) := Sh.od
        have q813 : x13_1 < (l0.length : Int) := Sh.od
        obtain ⟨ad813, A813_0, c813_0, e813, hx813_0, hl813_0, hi813_0⟩ := at_L12 HR0.out x13_1 p813 q813
        cases e813
        try replace hx813_0 := Sh.cw hx813_0
        have HR813_0 := am_ hi813_0
        have HC813_0 := am_ hl813_0
        clear hi813_0 hl813_0
        replace p813 := eq_true p813
        replace q813 := eq_true q813
        go_wp2
        go_loopg [20] k1 (fun kq v20 w' => ∃ (x3_2 : List (List Int)) (x20_2 : Int), v20 = .int .i64 x20_2 ∧ Aside0 (impl_turned.l1 kq x3_2 x13_1 l0 (l0.length : Int) x13_1 (rd_L12 l0 x13_1) ((rd_L12 l0 x13_1).length : Int) x20_2 = some r) ∧ Aside0 (kq ≤ k1) ∧ Aside0 (Kd.S (Kd.slice 3 (Kd.int .i64)) 27 w' w.heap.size (fun _ => True) v811 x3_2) ∧ Aside0 (Below w.heap.size w w'))
        case atStart => exact ⟨(x3_1), (0), (Sh.es), H', ⟨Nat.le_refl _⟩, ⟨by (with_reducible repeat (first | apply Kd.S_alloc | apply Kd.S_drewN | apply Kd.S_drew)); exact HO_3.out⟩, ⟨Sh.bw⟩⟩
        case round =>
         clear H'
         try clear hx8
         try clear hx813_0
         obtain ⟨x3_2, x20_2, rfl, HA, HK2, HO_3, HB⟩ := hrel
         cases gk with
         | zero => exact absurd HA.out (by simp [impl_turned.l1])
         | succ k2 =>
          have H := HA.out
          clear HA
          simp only [impl_turned.l1] at H
          by_cases c9 : x20_2 < ((rd_L12 l0 x13_1).length : Int)
          ·rw [if_pos c9] at H
           replace c9 := decide_eq_true c9
           by_cases c10 : 0 ≤ x20_2
           ·rw [if_pos c10] at H
            replace c10 := decide_eq_true c10
            by_cases c11 : x20_2 < ((rd_L12 l0 x13_1).length : Int)
            ·rw [if_pos c11] at H
             replace c11 := decide_eq_true c11
             by_cases c12 : 0 ≤ (rd (rd_L12 l0 x13_1) x20_2)
             ·rw [if_pos c12] at H
              replace c12 := decide_eq_true c12
              by_cases c13 : (rd (rd_L12 l0 x13_1) x20_2) < (x3_2.length : Int)
              ·rw [if_pos c13] at H
               replace c13 := decide_eq_true c13
               by_cases c14 : (rd_L12 x3_2 (rd (rd_L12 l0 x13_1) x20_2)).length < 17592186044416
               ·rw [if_pos c14] at H
                have LMc14 := am_ c14
                clear c14
                obtain ⟨y816, hy816⟩ : ∃ y_ : List Int, y_ = ((rd_L12 x3_2 (rd (rd_L12 l0 x13_1) x20_2)) ++ [x13_1]) := ⟨_, rfl⟩
                replace H : (impl_turned.l1 k2 (x3_2.set ((rd (rd_L12 l0 x13_1) x20_2) : Int).toNat y816) x13_1 l0 (l0.length : Int) x13_1 (rd_L12 l0 x13_1) ((rd_L12 l0 x13_1).length : Int) (wrap64 (x20_2 + 1))) = some r := by first | (rw [hy816]; with_reducible exact H) | (have H2_ := (Option.bind_some _ _).symm.trans H; rw [hy816]; with_reducible exact H2_) | (have H2_ := (Option.bind_some _ _).symm.trans H; with_reducible exact H2_) | with_reducible exact H | (rw [hy816]; exact H) | exact H
                have Ny816 := am_ hy816
                clear hy816
                obtain ⟨y819, hy819⟩ : ∃ y_ : List (List Int), y_ = (x3_2.set ((rd (rd_L12 l0 x13_1) x20_2) : Int).toNat y816) := ⟨_, rfl⟩
                replace H : (impl_turned.l1 k2 y819 x13_1 l0 (l0.length : Int) x13_1 (rd_L12 l0 x13_1) ((rd_L12 l0 x13_1).length : Int) (wrap64 (x20_2 + 1))) = some r := by first | (rw [hy819]; with_reducible exact H) | (have H2_ := (Option.bind_some _ _).symm.trans H; rw [hy819]; with_reducible exact H2_) | (have H2_ := (Option.bind_some _ _).symm.trans H; with_reducible exact H2_) | with_reducible exact H | (rw [hy819]; exact H) | exact H
                have Ny819 := am_ hy819
                clear hy819
                have H' := am_ H
                clear H
                have p814 : 0 ≤ (x20_2 : Int) := Sh.od
                have q814 : x20_2 < ((rd_L12 l0 x13_1).length : Int) := Sh.od
                obtain ⟨ad814, e814, hx814_0⟩ := Kd.at_int HR813_0.out x20_2 p814 q814
                cases e814
                try replace hx814_0 := Sh.cw hx814_0
                replace p814 := eq_true p814
                replace q814 := eq_true q814
                obtain ⟨Ao16, co16, eo16⟩ := Kd.S_slice HO_3.out
                subst eo16
                have p815 : 0 ≤ ((rd (rd_L12 l0 x13_1) x20_2) : Int) := Sh.od
                have q815 : (rd (rd_L12 l0 x13_1) x20_2) < (x3_2.length : Int) := Sh.od
                obtain ⟨ad815, A815_0, c815_0, e815, hx815_0, hl815_0, hi815_0⟩ := at_L12 (Kd.S_reads' HO_3.out).2.2 (rd (rd_L12 l0 x13_1) x20_2) p815 q815
                cases e815
                obtain ⟨ce815, hce815, hMe815, hcc815⟩ := Kd.S_get HO_3.out [] (rd (rd_L12 l0 x13_1) x20_2) p815 (by first | exact q815 | exact of_decide_eq_true (by first | (with_reducible assumption) | assumption) | (have e_ := (Kd.S_reads' HO_3.out).1; omega))
                obtain ⟨ve815_0, rfl, ge815_0⟩ := hMe815
                have hv815_0 := hcc815 0 _ rfl
                rw [Nat.add_zero, show ((Kd.slice 3 (Kd.int .i64))).sz = 1 from rfl, Nat.mul_one] at hv815_0
                replace hv815_0 := Option.some.inj (hv815_0.symm.trans hx815_0)
                rw [hv815_0] at ge815_0
                have HL815_0 := am_ (show Kd.R (Kd.int .i64) 3 _ _ _ _ (rd_L12 x3_2 (rd (rd_L12 l0 x13_1) x20_2)) from ge815_0)
                clear hv815_0 ge815_0
                have HX815_0 := am_ hx815_0
                clear hcc815 hce815
                have HR815_0 := am_ hi815_0
                have HC815_0 := am_ hl815_0
                clear hi815_0 hl815_0
                replace p815 := eq_true p815
                replace q815 := eq_true q815
                obtain ⟨go17, co17, eo17, gb17, gl17, cl17, HG17⟩ := Kd.S_form HO_3.out (by have h_ : ((rd (rd_L12 l0 x13_1) x20_2) : Int) < ((x3_2.length : Int) : Int) := Sh.od; have h2_ : 0 ≤ ((rd (rd_L12 l0 x13_1) x20_2) : Int) := (of_decide_eq_true (by first | (with_reducible assumption) | assumption)); omega)
                (first | cases eo17 | (injection eo17 with ea_ en_ ec_; (first | subst ea_ | (injection ea_ with ea_; subst ea_)); subst ec_; clear en_))
                have GB17 := am_ gb17
                have GG17 := am_ HG17
                clear gb17 gl17 HG17
                (first | simp only [add_plain] at hx815_0 | skip)
                obtain ⟨oki17, ce17, hcl17, hM17, hcc17, _, _, hH17⟩ := Kd.S_elem HO_3.out [] ((rd (rd_L12 l0 x13_1) x20_2) : Int) (of_decide_eq_true (by first | (with_reducible assumption) | assumption)) (by have h_ : ((rd (rd_L12 l0 x13_1) x20_2) : Int) < ((x3_2.length : Int) : Int) := Sh.od; first | exact h_ | (have e_ := (Kd.S_reads' HO_3.out).1; omega) | simpa using h_)
                obtain ⟨ve17_0, rfl, ge17_0⟩ := hM17
                have hv17 := hcc17 0 _ rfl
                have hX17 := HX815_0.out
                (try simp only [add_plain] at hX17)
                (try simp only [Nat.add_zero] at hv17)
                (try rw [show ((Kd.slice 3 (Kd.int .i64))).sz = 1 from rfl, Nat.mul_one] at hv17)
                replace hv17 := Option.some.inj (hv17.symm.trans hX17)
                subst hv17
                clear hX17 hcc17 hcl17
                have UU17 := am_ (show Kd.R (Kd.int .i64) 3 _ w.heap.size oki17 (.slice A815_0 (rd_L12 x3_2 (rd (rd_L12 l0 x13_1) x20_2)).length c815_0) (rd_L12 x3_2 (rd (rd_L12 l0 x13_1) x20_2)) from ge17_0)
                have HH17 := am_ hH17
                have HN17 := am_ (Kd.S_reads' HO_3.out).1
                clear hH17 ge17_0
                go_wp2_with (first | ((with_reducible refine gate_builtin (b := .append) (xs := #[.tmp 29, .tmp 31]) rfl ?_); at_builtin; refine Kd.R_append (Kd.int .i64) (w0 := w) w.heap.size rfl (.tmp 29) (.tmp 31) 27 3 (.int .i64 0) 8 rfl Tryz.underlying27 info3 rfl (by decide) (by omega) (.slice A815_0 (rd_L12 x3_2 (rd (rd_L12 l0 x13_1) x20_2)).length c815_0) (rd_L12 x3_2 (rd (rd_L12 l0 x13_1) x20_2)) x13_1 [.int .i64 x13_1] (fun k_ => oki17 k_ ∨ ((fun _ => True)) k_ ∧ wr.heap.size ≤ k_) (fun _ => False) rfl rfl ?aP (fun _ hk => hk.elim) ?aF ?aO ?aB ?aS ?aL ?_; (case aP => exact rfl); (case aB => exact Sh.bw); (case aF => exact (fun k_ hk => .inr ⟨trivial, hk⟩)); (case aO => exact (Sh.rl (Kd.R_mono UU17.out (fun _ hk => .inl hk)))); (case aS => exact (below_size Sh.bw)); (case aL => have := LMc14.out; omega); intro v817 w18 ho hb hg hat; rw [← Ny816.out] at ho; have n0_ := am_ hb; have n1_ := am_ (Kd.H_grown (Kd.H_widen (by repeat (first | exact HH17.out | refine Kd.H_alloc ?_ _ | refine Kd.H_drewN ?_ _ | refine Kd.H_drew ?_))) hg (fun k_ e_ => .inl (UU17.out.1 k_ e_))); have n2_ := am_ ho; clear HB; clear HH17; clear HO_3; clear UU17; clear HL815_0; have HB := n0_; have HH17 := n1_; have HO818 := n2_; clear n0_ n1_ n2_; clear ho hb hg hat; have p15 : 0 ≤ ((rd (rd_L12 l0 x13_1) x20_2) : Int) := Sh.od; have q15 : ((rd (rd_L12 l0 x13_1) x20_2) : Int) < ((x3_2.length : Int) : Int) := Sh.od; replace p15 := eq_true p15; replace q15 := eq_true q15; obtain ⟨Ao21, co21, eo21⟩ := Kd.R_slice HO818.out; subst eo21; obtain ⟨_, _, hraw19, _, _, hcc19, _⟩ := Kd.H_raw HH17.out (of_decide_eq_true (by first | (with_reducible assumption) | assumption)) (by have h_ : ((rd (rd_L12 l0 x13_1) x20_2) : Int) < ((x3_2.length : Int) : Int) := Sh.od; first | exact h_ | (have e_ := (HN17.out); omega) | simpa using h_); obtain ⟨_, hfr19⟩ := Kd.H_at HH17.out (of_decide_eq_true (by first | (with_reducible assumption) | assumption)) (by have h_ : ((rd (rd_L12 l0 x13_1) x20_2) : Int) < ((x3_2.length : Int) : Int) := Sh.od; first | exact h_ | (have e_ := (HN17.out); omega) | simpa using h_); have hx19_0 := hcc19 0 _ rfl; have hf19_0 := hfr19 0; (try simp only [Nat.add_zero] at hx19_0 hf19_0); (try rw [show ((Kd.slice 3 (Kd.int .i64))).sz = 1 from rfl, Nat.mul_one] at hx19_0); (try rw [show ((Kd.slice 3 (Kd.int .i64))).sz = 1 from rfl, Nat.mul_one] at hf19_0); have HP19 := Kd.S_seg0 HH17.out (of_decide_eq_true (by first | (with_reducible assumption) | assumption)) (by have h_ : ((rd (rd_L12 l0 x13_1) x20_2) : Int) < ((x3_2.length : Int) : Int) := Sh.od; first | exact h_ | (have e_ := (HN17.out); omega) | simpa using h_) (seg := [.slice Ao21 y816.length co21]) (j := 0) (show 1 ≤ 1 from by decide) (x' := y816) (Kd.M_row HO818.out) (fun _ hk => hk); (try simp only [show ((Kd.slice 3 (Kd.int .i64))).sz = 1 from rfl, Nat.mul_one, Nat.add_zero] at HP19); clear hcc19 hfr19) | ((with_reducible refine gate_store (t := 27) (p := 33) rfl ?_); refine store_event (t := 27) (p := 33) (v := ?vo_w20) (w1 := (w18.setCell ⟨go17, ((rd (rd_L12 l0 x13_1) x20_2) : Int).toNat, none⟩ (.slice Ao21 y816.length co21))) ?hg ?ho ?hn ?hr ?_; (case ho => rfl); (case hg => rfl); (case hn => rfl); (case hr => first | (go_simp; done) | (go_simp; rfl)); intro w20 hw; have hg : w18.grownBy w20 (some go17) := (by rw [hw]; exact HP19.2); have hp_ : Kd.S (Kd.slice 3 (Kd.int .i64)) 27 w20 w.heap.size (fun _ => True) (.slice (some ⟨go17, 0, none⟩) x3_2.length co16) y819 := (by rw [hw, Ny819.out]; exact HP19.1); clear HP19; have n0_ := am_ ((by rw [hw]; exact below_set HB.out GB17.out : Below w.heap.size w w20)); have n1_ := am_ hp_; clear HB; clear HO818; clear HH17; have HB := n0_; have HO_3 := n1_; clear n0_ n1_; clear hg hw hp_ hraw19))
                go_roundg k2
                case measure => have := HK1.out; have := HK2.out; omega
                case rel => exact ⟨(y819), (wrap64 (x20_2 + 1)), (Sh.es), H', ⟨by have := HK1.out; have := HK2.out; omega⟩, ⟨by (with_reducible repeat (first | apply Kd.S_alloc | apply Kd.S_drewN | apply Kd.S_drew)); exact HO_3.out⟩, ⟨Sh.bw⟩⟩
               ·rw [if_neg c14] at H
                cases H
              ·rw [if_neg c13] at H
               cases H
             ·rw [if_neg c12] at H
              cases H
            ·rw [if_neg c11] at H
             cases H
           ·rw [if_neg c10] at H
            cases H
          ·rw [if_neg c9] at H
           replace c9 := decide_eq_false c9
           have H' := am_ H
           clear H
           go_wp2
           go_roundg k2
           case measure => have := HK1.out; have := HK2.out; omega
           case rel => exact ⟨(x3_2), (wrap64 (x13_1 + 1)), (Sh.es), H', ⟨by have := HK1.out; have := HK2.out; omega⟩, ⟨by (with_reducible repeat (first | apply Kd.S_alloc | apply Kd.S_drewN | apply Kd.S_drew)); exact HO_3.out⟩, ⟨Sh.bw⟩⟩
       ·rw [if_neg c8] at H
        cases H
      ·rw [if_neg c7] at H
       cases H
     ·rw [if_neg c6] at H
      replace c6 := decide_eq_false c6
      obtain rfl := Option.some.inj H
      go_wp2
      go_ret
      exact ⟨_, Sh.eR, by (with_reducible repeat (first | apply Kd.S_alloc | apply Kd.S_drewN | apply Kd.S_drew)); exact HO_3.out, Sh.bw⟩
  ·rw [if_neg c3] at H
   cases H
 ·rw [if_neg c2] at H
  cases H
def impl_BackFrom.j0 : Nat → List Int → Bool → Int → Int → List (S79) → List (S95) → Option (List Int × Bool)
 | 0, _, _, _, _, _, _ => none
 | k + 1, x1, x15, x821000, x821001, x821002, x821003 => if x15 = true then (some (([] : List Int), false)) else ((impl_Program_graph.f k x821000 x821001 x821002 x821003).bind fun t824 => ((impl_turned.f k t824).bind fun t827 => ((impl_reachedFrom.f k t827 x1).bind fun t830 => (some (t830, true)))))
def impl_BackFrom.f (k : Nat) (a0_0 : Int) (a0_1 : Int) (l0_2 : List (S79)) (l0_3 : List (S95)) (l1 : List Int) : Option (List Int × Bool) := (impl_isSmall.f k a0_0 a0_1 l0_2 l0_3).bind fun t821 => (if t821 = true then ((impl_Program_states.f a0_0 a0_1 l0_2 l0_3).bind fun t822 => ((impl_isIncreasing.f k l1 t822).bind fun t823 => (impl_BackFrom.j0 k l1 (!t823) a0_0 a0_1 l0_2 l0_3))) else (impl_BackFrom.j0 k l1 true a0_0 a0_1 l0_2 l0_3))
theorem impl_BackFrom.mono_l : ∀ k, (∀ y0 y1 y2 y3 y4 y5, LeO (impl_BackFrom.j0 k y0 y1 y2 y3 y4 y5) (impl_BackFrom.j0 (k + 1) y0 y1 y2 y3 y4 y5))
 | 0 => fun _ _ _ _ _ _ r h => by simp [impl_BackFrom.j0] at h
 | k + 1 => by
  have ih0 := impl_BackFrom.mono_l k
  ·intro y0 y1 y2 y3 y4 y5
   unfold impl_BackFrom.j0
   repeat' with_reducible first | apply ih0 | apply impl_Program_graph.mono | apply impl_isIncreasing.mono | apply impl_isSmall.mono | apply impl_reachedFrom.mono | apply impl_turned.mono | exact LeO.refl _ | exact LeO.none _ | apply LeO.ite | refine LeO.bind ?_ fun _ => ?_
theorem impl_BackFrom.mono : ∀ a0 a1 a2 a3 a4 k, LeO (impl_BackFrom.f k a0 a1 a2 a3 a4) (impl_BackFrom.f (k + 1) a0 a1 a2 a3 a4) := by
 intro a0 a1 a2 a3 a4 k
 have ih0 := impl_BackFrom.mono_l k
 unfold impl_BackFrom.f
 repeat' with_reducible first | apply ih0 | apply impl_Program_graph.mono | apply impl_isIncreasing.mono | apply impl_isSmall.mono | apply impl_reachedFrom.mono | apply impl_turned.mono | exact LeO.refl _ | exact LeO.none _ | apply LeO.ite | refine LeO.bind ?_ fun _ => ?_
theorem impl_BackFrom.calls (k : Nat) (a0_0 : Int) (a0_1 : Int) (A0_2 : Option Addr) (c0_2 : Nat) (l0_2 : List (S79)) (A0_3 : Option Addr) (c0_3 : Nat) (l0_3 : List (S95)) (A1 : Option Addr) (c1 : Nat) (l1 : List Int) (r1 : List Int) (r2 : Bool) (w : World) (hr0_2 : Kd.C k79 w A0_2 l0_2.length l0_2) (hc0_2 : l0_2.length ≤ c0_2) (hr0_3 : Kd.C k95 w A0_3 l0_3.length l0_3) (hc0_3 : l0_3.length ≤ c0_3) (hr1 : Kd.C (Kd.int .i64) w A1 l1.length l1) (hc1 : l1.length ≤ c1) (h : impl_BackFrom.f k a0_0 a0_1 l0_2 l0_3 l1 = some (r1, r2)) :
  Calls Tryz.prog 35 #[.agg #[.int .i64 a0_0, .int .i64 a0_1, .slice A0_2 l0_2.length c0_2, .slice A0_3 l0_3.length c0_3], .slice A1 l1.length c1] w fun e w' => ∃ v0_ : Value, e = .returned (.tuple #[v0_, .bool r2]) ∧ Kd.R (Kd.int .i64) 3 w' w.heap.size (fun _ => True) v0_ r1 ∧ Below w.heap.size w w' := by
 have hu33 := Tryz.underlying33
 have HR0_2 := am_ hr0_2
 have HC0_2 := am_ hc0_2
 clear hr0_2 hc0_2
 have HR0_3 := am_ hr0_3
 have HC0_3 := am_ hc0_3
 clear hr0_3 hc0_3
 have HR1 := am_ hr1
 have HC1 := am_ hc1
 clear hr1 hc1
 have HB := am_ (Below.refl w.heap.size w)
 have H := h
 clear h
 unfold impl_BackFrom.f at H
 have HC3 := am_ H
 clear H
 go_enter Tryz.func35, Tryz.ntmps35
 go_upto_region 1 with (first | ((with_reducible refine Sh.d 2 ?_); refine Sh.bz w (N := 2) (cs := #[.int .i64 a0_0, .int .i64 a0_1, .slice A0_2 l0_2.length c0_2, .slice A0_3 l0_3.length c0_3]) (t := 33) (h := ?_); clear HB; intro gb820 w4 BK820 GE820 HB))
 (try simp only [Act.put, List.setIfInBounds_toArray, List.set_cons_zero, List.set_cons_succ])
 go_cut [15] (fun v15 wc => ∃ (kq : Nat) (x15_2 : Bool), v15 = .bool x15_2 ∧ Aside0 (impl_BackFrom.j0 kq l1 x15_2 a0_0 a0_1 l0_2 l0_3 = some (r1, r2)) ∧ Aside0 (kq ≤ k) ∧ Aside0 (wc.heap[gb820]? = some (.cells #[.int .i64 a0_0, .int .i64 a0_1, (.slice A0_2 l0_2.length c0_2), (.slice A0_3 l0_3.length c0_3)] 33 (0, 0))) ∧ Aside0 (Below w.heap.size w wc))
 case first =>
  have H := HC3.out
  clear HC3
  obtain ⟨t821, A5, H⟩ := Sh.ba H
  by_cases c6 : t821 = true
  ·subst c6
   rw [if_pos rfl] at H
   obtain ⟨t822, A7, H⟩ := Sh.ba H
   obtain ⟨t823, A8, H⟩ := Sh.ba H
   have H' := am_ H
   clear H
   have hcz9_0 := Sh.bc BK820.out 0
   have hcz9_1 := Sh.bc BK820.out 1
   have hcz9_2 := Sh.bc BK820.out 2
   have hcz9_3 := Sh.bc BK820.out 3
   have hfz9_0 := blk_frozen BK820.out 0
   have hfz9_1 := blk_frozen BK820.out 1
   have hfz9_2 := blk_frozen BK820.out 2
   have hfz9_3 := blk_frozen BK820.out 3
   go_wp2_with (first | ((with_reducible refine Sh.k 63 ?_); refine Sh.gB (some 7) Tryz.func63 #[.agg #[.int .i64 a0_0, .int .i64 a0_1, .slice A0_2 l0_2.length c0_2, .slice A0_3 l0_3.length c0_3]] (impl_isSmall.calls k a0_0 a0_1 _ _ l0_2 _ _ l0_3 true _ (Sh.cB HR0_2.out) HC0_2.out (Sh.cB HR0_3.out) HC0_3.out A5.out) fun w10 hb => ?_; replace BK820 := Sh.ab BK820 hb; replace HB := Sh.hb hb; (try clear hb); (try clear hk); obtain ⟨hcz11_0, hcz11_1, hcz11_2, hcz11_3, hfz11_0, hfz11_1, hfz11_2, hfz11_3⟩ := Sh.b4 BK820.out) | (go_at_call 79; (with_reducible refine (impl_Program_states.calls a0_0 a0_1 _ _ l0_2 _ _ l0_3 t822 _ (Sh.cB HR0_2.out) HC0_2.out (Sh.cB HR0_3.out) HC0_3.out A7.out).mono ?_); rintro e w12 ⟨rfl, hb⟩; replace BK820 := Sh.ab BK820 hb; replace HB := Sh.hb hb; (try clear hb)) | (go_at_call 78; (with_reducible refine (impl_isIncreasing.calls k _ _ l1 t822 t823 _ (Sh.cB HR1.out) HC1.out A8.out).mono ?_); rintro e w' ⟨rfl, ⟨nd, rfl⟩⟩))
   go_meet
   case rel => exact ⟨_, (!t823), (Sh.es), H', ⟨Sh.om⟩, ⟨by refine Sh.pl ?_; exact BK820.out⟩, ⟨Sh.bw⟩⟩
  ·replace c6 := Bool.eq_false_iff.mpr c6
   subst c6
   rw [Sh.nf] at H
   have H' := am_ H
   clear H
   have hcz13_0 := Sh.bc BK820.out 0
   have hcz13_1 := Sh.bc BK820.out 1
   have hcz13_2 := Sh.bc BK820.out 2
   have hcz13_3 := Sh.bc BK820.out 3
   have hfz13_0 := blk_frozen BK820.out 0
   have hfz13_1 := blk_frozen BK820.out 1
   have hfz13_2 := blk_frozen BK820.out 2
   have hfz13_3 := blk_frozen BK820.out 3
   go_wp2_with (first | ((with_reducible refine Sh.k 63 ?_); refine Sh.gB (some 7) Tryz.func63 #[.agg #[.int .i64 a0_0, .int .i64 a0_1, .slice A0_2 l0_2.length c0_2, .slice A0_3 l0_3.length c0_3]] (impl_isSmall.calls k a0_0 a0_1 _ _ l0_2 _ _ l0_3 false _ (Sh.cB HR0_2.out) HC0_2.out (Sh.cB HR0_3.out) HC0_3.out A5.out) fun w14 hb => ?_; replace BK820 := Sh.ab BK820 hb; replace HB := Sh.hb hb; (try clear hb)))
   go_meet
   case rel => exact ⟨_, (true), (Sh.es), H', ⟨Sh.om⟩, ⟨by refine Sh.pl ?_; exact BK820.out⟩, ⟨Sh.bw⟩⟩
 case rest =>
  clear HC3
  try clear hcz11_0
  try clear hcz11_1
  try clear hcz11_2
  try clear hcz11_3
  try clear hcz13_0
  try clear hcz13_1
  try clear hcz13_2
  try clear hcz13_3
  try clear hcz9_0
  try clear hcz9_1
  try clear hcz9_2
  try clear hcz9_3
  try clear hfz11_0
  try clear hfz11_1
  try clear hfz11_2
  try clear hfz11_3
  try clear hfz13_0
  try clear hfz13_1
  try clear hfz13_2
  try clear hfz13_3
  try clear hfz9_0
  try clear hfz9_1
  try clear hfz9_2
  try clear hfz9_3
  obtain ⟨kq, x15_2, rfl, HA, HJ2, BK820, HB⟩ := hcut
  cases kq with
  | zero => exact absurd HA.out (by simp [impl_BackFrom.j0])
  | succ kj2 =>
   have H := HA.out
   clear HA
   simp only [impl_BackFrom.j0] at H
   by_cases c15 : x15_2 = true
   ·subst c15
    rw [if_pos rfl] at H
    obtain ⟨rfl, rfl⟩ := Prod.mk.inj (Option.some.inj H)
    go_wp2
    go_ret2
    exact ⟨_, Sh.eR, by first | exact Kd.R_nil _ _ _ _ _ | exact Kd.N_nil _ _ _ _ _ | exact Kd.V_nil _ _ _ _ _ | exact Kd.Q_nil _ _ _ _ _ | exact Kd.S_nil _ _ _ _ _, Sh.bw⟩
   ·replace c15 := Bool.eq_false_iff.mpr c15
    subst c15
    rw [Sh.nf] at H
    obtain ⟨t824, A16, H⟩ := Sh.ba H
    obtain ⟨t827, A17, H⟩ := Sh.ba H
    obtain ⟨t830, A18, H⟩ := Sh.ba H
    obtain ⟨rfl, rfl⟩ := Prod.mk.inj (Option.some.inj H)
    have hcz19_0 := Sh.bc BK820.out 0
    have hcz19_1 := Sh.bc BK820.out 1
    have hcz19_2 := Sh.bc BK820.out 2
    have hcz19_3 := Sh.bc BK820.out 3
    have hfz19_0 := blk_frozen BK820.out 0
    have hfz19_1 := blk_frozen BK820.out 1
    have hfz19_2 := blk_frozen BK820.out 2
    have hfz19_3 := blk_frozen BK820.out 3
    go_wp2_with (first | ((with_reducible refine Sh.k 71 ?_); refine Sh.gL (some 17) Tryz.func71 #[.agg #[.int .i64 a0_0, .int .i64 a0_1, .slice A0_2 l0_2.length c0_2, .slice A0_3 l0_3.length c0_3]] (h := ?_); (with_reducible refine (impl_Program_graph.calls kj2 a0_0 a0_1 _ _ l0_2 _ _ l0_3 t824 _ (Sh.cB HR0_2.out) HC0_2.out (Sh.cB HR0_3.out) HC0_3.out A16.out).mono ?_); rintro e w20 ⟨v825, rfl, ho0, hb⟩; refine ⟨_, rfl, ?_⟩; have HO826 := am_ (Kd.S_lower ho0 (below_size Sh.bw)); replace BK820 := Sh.ab BK820 hb; replace HB := Sh.hb hb; (try clear hb); (try clear ho0); obtain ⟨Ao21, co21, eo21⟩ := Kd.S_slice HO826.out; subst eo21) | ((with_reducible refine Sh.k 81 ?_); refine Sh.gL (some 18) Tryz.func81 #[.slice Ao21 t824.length co21] (h := ?_); (with_reducible refine (impl_turned.calls kj2 _ _ t824 t827 _ (Sh.cR (Kd.S_reads' HO826.out).2.2) (Kd.S_reads' HO826.out).2.1 A17.out).mono ?_); rintro e w22 ⟨v828, rfl, ho0, hb⟩; refine ⟨_, rfl, ?_⟩; have HO829 := am_ (Kd.S_lower (Kd.S_new' ho0 (Kd.S_lt (by (with_reducible repeat (first | apply Kd.S_alloc | apply Kd.S_drewN | apply Kd.S_drew)); exact HO826.out))) (below_size Sh.bw)); replace HO826 := am_ (Kd.S_elder' (by (with_reducible repeat (first | apply Kd.S_alloc | apply Kd.S_drewN | apply Kd.S_drew)); exact HO826.out) (Kd.S_base ho0) hb); replace BK820 := Sh.ab BK820 hb; replace HB := Sh.hb hb; (try clear hb); (try clear ho0); obtain ⟨Ao23, co23, eo23⟩ := Kd.S_slice HO829.out; subst eo23) | ((with_reducible refine Sh.k 80 ?_); refine Sh.gL (some 20) Tryz.func80 #[.slice Ao23 t827.length co23, .slice A1 l1.length c1] (h := ?_); (with_reducible refine (impl_reachedFrom.calls kj2 _ _ t827 _ _ l1 t830 _ (Sh.cR (Kd.S_reads' HO829.out).2.2) (Kd.S_reads' HO829.out).2.1 (Sh.cB HR1.out) HC1.out A18.out).mono ?_); rintro e w24 ⟨v831, rfl, ho0, hb⟩; refine ⟨_, rfl, ?_⟩; replace HO826 := am_ (Kd.S_elder' (by (with_reducible repeat (first | apply Kd.S_alloc | apply Kd.S_drewN | apply Kd.S_drew)); exact HO826.out) (Kd.R_base ho0) hb); replace HO829 := am_ (Kd.S_elder' (by (with_reducible repeat (first | apply Kd.S_alloc | apply Kd.S_drewN | apply Kd.S_drew)); exact HO829.out) (Kd.R_base ho0) hb); have HO832 := am_ (Kd.R_lower ho0 (below_size Sh.bw)); replace BK820 := Sh.ab BK820 hb; replace HB := Sh.hb hb; (try clear hb); (try clear ho0)))
    go_ret2
    exact ⟨_, Sh.eR, Sh.rl HO832.out, Sh.bw⟩
open Go.Proofs.YtngefmofelengaaGreat.Lw
def laws_FnExactBackFrom.Holds (k : Nat) (a0_0 : Int) (a0_1 : Int) (l0_2 : List (S81)) (l0_3 : List (S104)) (l1 : List Int) : Prop :=
 (1048576 < (l1.length : Int)) ∨ (¬ (1048576 < (l1.length : Int))) ∧ (∃ s6 : Int, laws_szProgram.f k a0_0 a0_1 l0_2 l0_3 1048576 = some s6 ∧ ((s6 < 0) ∨ (¬ (s6 < 0)) ∧ (∃ (y9 : List (S79)) (y10 : List (S95)) (y33 : List Int) (y34 : Bool) (m109 : Int) (m111 : Int) (y112 : List Int) (m115 : Int) (y116 : List Int), laws_toProgram.f k a0_0 a0_1 l0_2 l0_3 = some (a0_0, a0_1, y9, y10) ∧ laws_toIntS.f k l1 = some l1 ∧ spec_BackFrom.f k a0_0 a0_1 y9 y10 l1 = some (y33, y34) ∧ impl_BackFrom.f k a0_0 a0_1 y9 y10 l1 = some (y33, y34) ∧ laws_eqIntS.f k y33 y33 = some true ∧ laws_eqProgram.f k a0_0 a0_1 y9 y10 a0_0 a0_1 y9 y10 = some true ∧ laws_eqIntS.f k l1 l1 = some true ∧ laws_markProgram.f k a0_0 a0_1 y9 y10 1 = some m109 ∧ laws_markIntS.f k l1 m109 = some (m111, y112) ∧ laws_markIntS.f k y33 1 = some (m115, y116) ∧ laws_heldIntS.f k y116 1 = some m115 ∧ ¬ m111 < 0 ∧ ¬ m115 < 0)))
theorem laws_FnExactBackFrom.calls (k : Nat) (a0_0 : Int) (a0_1 : Int) (A0_2 : Option Addr) (c0_2 : Nat) (l0_2 : List (S81)) (A0_3 : Option Addr) (c0_3 : Nat) (l0_3 : List (S104)) (A1 : Option Addr) (c1 : Nat) (l1 : List Int) (w : World) (hr0_2 : Kd.C k81 w A0_2 l0_2.length l0_2) (hc0_2 : l0_2.length ≤ c0_2) (hr0_3 : Kd.C k104 w A0_3 l0_3.length l0_3) (hc0_3 : l0_3.length ≤ c0_3) (hr1 : Kd.C (Kd.int .i64) w A1 l1.length l1) (hc1 : l1.length ≤ c1) (h : laws_FnExactBackFrom.Holds k a0_0 a0_1 l0_2 l0_3 l1) :
  Calls Tryz.prog 9 #[.agg #[.int .i64 a0_0, .int .i64 a0_1, .slice A0_2 l0_2.length c0_2, .slice A0_3 l0_3.length c0_3], .slice A1 l1.length c1] w fun e w' => e = .returned (.bool true) ∧ Below w.heap.size w w' := by
 have hu25 := Tryz.underlying25
 have hu33 := Tryz.underlying33
 have HR0_2 := am_ hr0_2
 have HC0_2 := am_ hc0_2
 clear hr0_2 hc0_2
 have HR0_3 := am_ hr0_3
 have HC0_3 := am_ hc0_3
 clear hr0_3 hc0_3
 have HR1 := am_ hr1
 have HC1 := am_ hc1
 clear hr1 hc1
 have HB := am_ (Below.refl w.heap.size w)
 have NW : 0 ≤ w.heap.size := Nat.zero_le _
 rcases h with c | ⟨c, h⟩
 ·have cb : decide (1048576 < (l1.length : Int)) = true := decide_eq_true c
  clear c
  go_enter Tryz.func9, Tryz.ntmps9
  go_wp2_with (first | ((with_reducible refine Sh.d 2 ?_); refine Sh.bx (N := 2) (cs := #[.int .i64 a0_0, .int .i64 a0_1, .slice A0_2 l0_2.length c0_2, .slice A0_3 l0_3.length c0_3]) (t := 25) (h := ?_); intro g1 hg w3 hbox hb; have BK2 := box_new (w := w) (W := w) HB.out hg hbox; have oa4 := new_g (W := w) hg NW; replace HB := am_ (below_step HB.out hb); replace NW := Nat.le_trans NW hb.size; replace NW := BK2.lt; clear hb hbox hg; have hczq5_0 : w3.cell? ⟨g1, 0, none⟩ = some (.int .i64 a0_0) := (blk_cell BK2.b 0).trans rfl; have hfzq5_0 := blk_frozen BK2.b 0; have hczq5_1 : w3.cell? ⟨g1, 1, none⟩ = some (.int .i64 a0_1) := (blk_cell BK2.b 1).trans rfl; have hfzq5_1 := blk_frozen BK2.b 1; have hczq5_2 : w3.cell? ⟨g1, 2, none⟩ = some (.slice A0_2 l0_2.length c0_2) := (blk_cell BK2.b 2).trans rfl; have hfzq5_2 := blk_frozen BK2.b 2; have hczq5_3 : w3.cell? ⟨g1, 3, none⟩ = some (.slice A0_3 l0_3.length c0_3) := (blk_cell BK2.b 3).trans rfl; have hfzq5_3 := blk_frozen BK2.b 3))
  go_ret
  exact ⟨rfl, HB.out⟩
 have cb0 : decide (1048576 < (l1.length : Int)) = false := decide_eq_false c
 clear c
 obtain ⟨s6, ESs6, h⟩ := h
 replace ESs6 := am_ ESs6
 rcases h with c | ⟨c, h⟩
 ·have cb : decide (s6 < 0) = true := decide_eq_true c
  clear c
  go_enter Tryz.func9, Tryz.ntmps9
  go_wp2_with (first | ((with_reducible refine Sh.d 2 ?_); refine Sh.bx (N := 2) (cs := #[.int .i64 a0_0, .int .i64 a0_1, .slice A0_2 l0_2.length c0_2, .slice A0_3 l0_3.length c0_3]) (t := 25) (h := ?_); intro g1 hg w3 hbox hb; have BK2 := box_new (w := w) (W := w) HB.out hg hbox; have oa4 := new_g (W := w) hg NW; replace HB := am_ (below_step HB.out hb); replace NW := Nat.le_trans NW hb.size; replace NW := BK2.lt; clear hb hbox hg; have hczq5_0 : w3.cell? ⟨g1, 0, none⟩ = some (.int .i64 a0_0) := (blk_cell BK2.b 0).trans rfl; have hfzq5_0 := blk_frozen BK2.b 0; have hczq5_1 : w3.cell? ⟨g1, 1, none⟩ = some (.int .i64 a0_1) := (blk_cell BK2.b 1).trans rfl; have hfzq5_1 := blk_frozen BK2.b 1; have hczq5_2 : w3.cell? ⟨g1, 2, none⟩ = some (.slice A0_2 l0_2.length c0_2) := (blk_cell BK2.b 2).trans rfl; have hfzq5_2 := blk_frozen BK2.b 2; have hczq5_3 : w3.cell? ⟨g1, 3, none⟩ = some (.slice A0_3 l0_3.length c0_3) := (blk_cell BK2.b 3).trans rfl; have hfzq5_3 := blk_frozen BK2.b 3) | ((with_reducible refine Sh.k 11 ?_); refine Sh.gL (some 22) Tryz.func11 #[.agg #[.int .i64 a0_0, .int .i64 a0_1, .slice A0_2 l0_2.length c0_2, .slice A0_3 l0_3.length c0_3], .int .i64 1048576] (h := ?_); (with_reducible refine (laws_szProgram.calls k a0_0 a0_1 _ _ l0_2 _ _ l0_3 1048576 s6 _ (Kd.C_below HR0_2.out HB.out) HC0_2.out (Kd.C_below HR0_3.out HB.out) HC0_3.out ESs6.out).mono ?_); rintro e w7 ⟨rfl, hb⟩; refine ⟨_, rfl, ?_⟩; replace BK2 := BK2.same hb; replace HB := am_ (below_step HB.out hb); replace NW := Nat.le_trans NW hb.size; clear hb; have hczq8_0 : w7.cell? ⟨g1, 0, none⟩ = some (.int .i64 a0_0) := (blk_cell BK2.b 0).trans rfl; have hfzq8_0 := blk_frozen BK2.b 0; have hczq8_1 : w7.cell? ⟨g1, 1, none⟩ = some (.int .i64 a0_1) := (blk_cell BK2.b 1).trans rfl; have hfzq8_1 := blk_frozen BK2.b 1; have hczq8_2 : w7.cell? ⟨g1, 2, none⟩ = some (.slice A0_2 l0_2.length c0_2) := (blk_cell BK2.b 2).trans rfl; have hfzq8_2 := blk_frozen BK2.b 2; have hczq8_3 : w7.cell? ⟨g1, 3, none⟩ = some (.slice A0_3 l0_3.length c0_3) := (blk_cell BK2.b 3).trans rfl; have hfzq8_3 := blk_frozen BK2.b 3))
  go_ret
  exact ⟨rfl, HB.out⟩
 have cb1 : decide (s6 < 0) = false := decide_eq_false c
 clear c
 obtain ⟨y9, y10, y33, y34, m109, m111, y112, m115, y116, E1, E2, E3, E4, E5, E6, E7, E8, E9, E10, E11, cd0, cd1⟩ := h
 replace E1 := am_ E1
 replace E2 := am_ E2
 replace E3 := am_ E3
 replace E4 := am_ E4
 replace E5 := am_ E5
 replace E6 := am_ E6
 replace E7 := am_ E7
 replace E8 := am_ E8
 replace E9 := am_ E9
 replace E10 := am_ E10
 replace E11 := am_ E11
 have ce0 : decide (m111 < 0) = false := decide_eq_false cd0
 clear cd0
 have ce1 : decide (m115 < 0) = false := decide_eq_false cd1
 clear cd1
 have cr0 : (y34 != y34) = false := bne_self_eq_false _
 go_enter Tryz.func9, Tryz.ntmps9
 go_upto_region 13 with (first | ((with_reducible refine Sh.d 2 ?_); refine Sh.bx (N := 2) (cs := #[.int .i64 a0_0, .int .i64 a0_1, .slice A0_2 l0_2.length c0_2, .slice A0_3 l0_3.length c0_3]) (t := 25) (h := ?_); intro g1 hg w3 hbox hb; have BK2 := box_new (w := w) (W := w) HB.out hg hbox; have oa4 := new_g (W := w) hg NW; replace HB := am_ (below_step HB.out hb); replace NW := Nat.le_trans NW hb.size; replace NW := BK2.lt; clear hb hbox hg; have hczq5_0 : w3.cell? ⟨g1, 0, none⟩ = some (.int .i64 a0_0) := (blk_cell BK2.b 0).trans rfl; have hfzq5_0 := blk_frozen BK2.b 0; have hczq5_1 : w3.cell? ⟨g1, 1, none⟩ = some (.int .i64 a0_1) := (blk_cell BK2.b 1).trans rfl; have hfzq5_1 := blk_frozen BK2.b 1; have hczq5_2 : w3.cell? ⟨g1, 2, none⟩ = some (.slice A0_2 l0_2.length c0_2) := (blk_cell BK2.b 2).trans rfl; have hfzq5_2 := blk_frozen BK2.b 2; have hczq5_3 : w3.cell? ⟨g1, 3, none⟩ = some (.slice A0_3 l0_3.length c0_3) := (blk_cell BK2.b 3).trans rfl; have hfzq5_3 := blk_frozen BK2.b 3) | ((with_reducible refine Sh.k 11 ?_); refine Sh.gL (some 22) Tryz.func11 #[.agg #[.int .i64 a0_0, .int .i64 a0_1, .slice A0_2 l0_2.length c0_2, .slice A0_3 l0_3.length c0_3], .int .i64 1048576] (h := ?_); (with_reducible refine (laws_szProgram.calls k a0_0 a0_1 _ _ l0_2 _ _ l0_3 1048576 s6 _ (Kd.C_below HR0_2.out HB.out) HC0_2.out (Kd.C_below HR0_3.out HB.out) HC0_3.out ESs6.out).mono ?_); rintro e w7 ⟨rfl, hb⟩; refine ⟨_, rfl, ?_⟩; replace BK2 := BK2.same hb; replace HB := am_ (below_step HB.out hb); replace NW := Nat.le_trans NW hb.size; clear hb; have hczq8_0 : w7.cell? ⟨g1, 0, none⟩ = some (.int .i64 a0_0) := (blk_cell BK2.b 0).trans rfl; have hfzq8_0 := blk_frozen BK2.b 0; have hczq8_1 : w7.cell? ⟨g1, 1, none⟩ = some (.int .i64 a0_1) := (blk_cell BK2.b 1).trans rfl; have hfzq8_1 := blk_frozen BK2.b 1; have hczq8_2 : w7.cell? ⟨g1, 2, none⟩ = some (.slice A0_2 l0_2.length c0_2) := (blk_cell BK2.b 2).trans rfl; have hfzq8_2 := blk_frozen BK2.b 2; have hczq8_3 : w7.cell? ⟨g1, 3, none⟩ = some (.slice A0_3 l0_3.length c0_3) := (blk_cell BK2.b 3).trans rfl; have hfzq8_3 := blk_frozen BK2.b 3) | ((with_reducible refine Sh.k 13 ?_); refine Sh.gL (some 27) Tryz.func13 #[.agg #[.int .i64 a0_0, .int .i64 a0_1, .slice A0_2 l0_2.length c0_2, .slice A0_3 l0_3.length c0_3]] (h := ?_); (with_reducible refine (laws_toProgram.calls k a0_0 a0_1 _ _ l0_2 _ _ l0_3 a0_0 a0_1 y9 y10 _ (Kd.C_below HR0_2.out HB.out) HC0_2.out (Kd.C_below HR0_3.out HB.out) HC0_3.out E1.out).mono ?_); rintro e w11 ⟨v2_, v3_, rfl, ho0, ho1, hb⟩; refine ⟨_, rfl, ?_⟩; obtain ⟨lo14, hi15, ⟨HO12, HO13⟩, oa16, ob17, NW2⟩ := new1 (F := fun lo_ hi_ => Held k79 79 w11 w.heap.size lo_ hi_ v2_ y9 ∧ Held k95 95 w11 w.heap.size lo_ hi_ v3_ y10) ⟨held_new ho0 hb HB.out, held_new ho1 hb HB.out⟩ hb NW; replace BK2 := BK2.same hb; replace HB := am_ (below_step HB.out hb); replace NW := Nat.le_trans NW hb.size; replace NW := NW2; skip; obtain ⟨A18, c19, e20⟩ := HO12.slice; subst e20; obtain ⟨A21, c22, e23⟩ := HO13.slice; subst e23; clear hb ho0 ho1) | ((with_reducible refine Sh.k 21 ?_); refine Sh.gL (some 29) Tryz.func21 #[.slice A1 l1.length c1] (h := ?_); (with_reducible refine (laws_toIntS.calls k _ _ l1 l1 _ (Kd.C_below HR1.out HB.out) HC1.out E2.out).mono ?_); rintro e w24 ⟨v0_, rfl, ho0, hb⟩; refine ⟨_, rfl, ?_⟩; obtain ⟨lo26, hi27, HO25, oa28, ob29, NW2⟩ := new1 (F := fun lo_ hi_ => Held (Kd.int .i64) 3 w24 w.heap.size lo_ hi_ v0_ l1) (held_new ho0 hb HB.out) hb NW; replace BK2 := BK2.same hb; replace HO12 := HO12.same hb; replace HO13 := HO13.same hb; replace HB := am_ (below_step HB.out hb); replace NW := Nat.le_trans NW hb.size; replace NW := NW2; skip; obtain ⟨A30, c31, e32⟩ := HO25.slice; subst e32; clear hb ho0) | ((with_reducible refine Sh.k 34 ?_); refine Sh.gL (some 30) Tryz.func34 #[.agg #[.int .i64 a0_0, .int .i64 a0_1, .slice A18 y9.length c19, .slice A21 y10.length c22], .slice A30 l1.length c31] (h := ?_); (with_reducible refine (spec_BackFrom.calls k a0_0 a0_1 _ _ y9 _ _ y10 _ _ l1 y33 y34 _ HO12.C HO12.c HO13.C HO13.c HO25.C HO25.c E3.out).mono ?_); rintro e w35 ⟨v0_, rfl, ho0, hb⟩; refine ⟨_, rfl, ?_⟩; obtain ⟨lo37, hi38, HO36, oa39, ob40, NW2⟩ := new1 (F := fun lo_ hi_ => Held (Kd.int .i64) 3 w35 w.heap.size lo_ hi_ v0_ y33) (held_new ho0 hb HB.out) hb NW; replace BK2 := BK2.same hb; replace HO12 := HO12.same hb; replace HO13 := HO13.same hb; replace HO25 := HO25.same hb; replace HB := am_ (below_step HB.out hb); replace NW := Nat.le_trans NW hb.size; replace NW := NW2; skip; obtain ⟨A41, c42, e43⟩ := HO36.slice; subst e43; clear hb ho0; have hczq44_0 : w35.cell? ⟨g1, 0, none⟩ = some (.int .i64 a0_0) := (blk_cell BK2.b 0).trans rfl; have hfzq44_0 := blk_frozen BK2.b 0; have hczq44_1 : w35.cell? ⟨g1, 1, none⟩ = some (.int .i64 a0_1) := (blk_cell BK2.b 1).trans rfl; have hfzq44_1 := blk_frozen BK2.b 1; have hczq44_2 : w35.cell? ⟨g1, 2, none⟩ = some (.slice A0_2 l0_2.length c0_2) := (blk_cell BK2.b 2).trans rfl; have hfzq44_2 := blk_frozen BK2.b 2; have hczq44_3 : w35.cell? ⟨g1, 3, none⟩ = some (.slice A0_3 l0_3.length c0_3) := (blk_cell BK2.b 3).trans rfl; have hfzq44_3 := blk_frozen BK2.b 3) | ((with_reducible refine Sh.k 13 ?_); refine Sh.gL (some 34) Tryz.func13 #[.agg #[.int .i64 a0_0, .int .i64 a0_1, .slice A0_2 l0_2.length c0_2, .slice A0_3 l0_3.length c0_3]] (h := ?_); (with_reducible refine (laws_toProgram.calls k a0_0 a0_1 _ _ l0_2 _ _ l0_3 a0_0 a0_1 y9 y10 _ (Kd.C_below HR0_2.out HB.out) HC0_2.out (Kd.C_below HR0_3.out HB.out) HC0_3.out E1.out).mono ?_); rintro e w45 ⟨v2_, v3_, rfl, ho0, ho1, hb⟩; refine ⟨_, rfl, ?_⟩; obtain ⟨lo48, hi49, ⟨HO46, HO47⟩, oa50, ob51, NW2⟩ := new1 (F := fun lo_ hi_ => Held k79 79 w45 w.heap.size lo_ hi_ v2_ y9 ∧ Held k95 95 w45 w.heap.size lo_ hi_ v3_ y10) ⟨held_new ho0 hb HB.out, held_new ho1 hb HB.out⟩ hb NW; replace BK2 := BK2.same hb; replace HO12 := HO12.same hb; replace HO13 := HO13.same hb; replace HO25 := HO25.same hb; replace HO36 := HO36.same hb; replace HB := am_ (below_step HB.out hb); replace NW := Nat.le_trans NW hb.size; replace NW := NW2; skip; obtain ⟨A52, c53, e54⟩ := HO46.slice; subst e54; obtain ⟨A55, c56, e57⟩ := HO47.slice; subst e57; clear hb ho0 ho1) | ((with_reducible refine Sh.d 8 ?_); refine Sh.bx (N := 8) (cs := #[.int .i64 0, .int .i64 0, .slice none 0 0, .slice none 0 0]) (t := 33) (h := ?_); intro g58 hg w60 hbox hb; have BK59 := box_new (w := w) (W := w45) HB.out hg hbox; have oa61 := new_g (W := w45) hg NW; replace BK2 := BK2.same hb; replace HO12 := HO12.same hb; replace HO13 := HO13.same hb; replace HO25 := HO25.same hb; replace HO36 := HO36.same hb; replace HO46 := HO46.same hb; replace HO47 := HO47.same hb; replace HB := am_ (below_step HB.out hb); replace NW := Nat.le_trans NW hb.size; replace NW := BK59.lt; clear hb hbox hg) | ((with_reducible refine gate_ (.store 33 (.tmp 8) (.tmp 34)) rfl ?_); refine store_event 8 (.tmp 34) rfl rfl rfl BK59 rfl [.int .i64 a0_0, .int .i64 a0_1, .slice A52 y9.length c53, .slice A55 y10.length c56] rfl rfl ?hs rfl ?h1 ?_; (case hs => kernel_rfl); (case h1 => (simp only [List.mem_cons, List.not_mem_nil, or_false]; intro q_ h_; rcases h_ with h_ | h_ | h_ | h_ <;> (subst h_; rfl))); intro w62 hbx hb hk; replace BK2 := BK2.move hk (by omega); replace HO12 := HO12.move hk (by omega); replace HO13 := HO13.move hk (by omega); replace HO25 := HO25.move hk (by omega); replace HO36 := HO36.move hk (by omega); replace HO46 := HO46.move hk (by omega); replace HO47 := HO47.move hk (by omega); replace BK59 := hbx; replace NW := Nat.le_trans NW hk.1; replace HB := am_ (HB.out.trans hb); clear hk hb) | ((with_reducible refine Sh.k 21 ?_); refine Sh.gL (some 36) Tryz.func21 #[.slice A1 l1.length c1] (h := ?_); (with_reducible refine (laws_toIntS.calls k _ _ l1 l1 _ (Kd.C_below HR1.out HB.out) HC1.out E2.out).mono ?_); rintro e w63 ⟨v0_, rfl, ho0, hb⟩; refine ⟨_, rfl, ?_⟩; obtain ⟨lo65, hi66, HO64, oa67, ob68, NW2⟩ := new1 (F := fun lo_ hi_ => Held (Kd.int .i64) 3 w63 w.heap.size lo_ hi_ v0_ l1) (held_new ho0 hb HB.out) hb NW; replace BK2 := BK2.same hb; replace HO12 := HO12.same hb; replace HO13 := HO13.same hb; replace HO25 := HO25.same hb; replace HO36 := HO36.same hb; replace HO46 := HO46.same hb; replace HO47 := HO47.same hb; replace BK59 := BK59.same hb; replace HB := am_ (below_step HB.out hb); replace NW := Nat.le_trans NW hb.size; replace NW := NW2; skip; obtain ⟨A69, c70, e71⟩ := HO64.slice; subst e71; clear hb ho0; have hczq72_0 : w63.cell? ⟨g58, 0, none⟩ = some (.int .i64 a0_0) := (blk_cell BK59.b 0).trans rfl; have hfzq72_0 := blk_frozen BK59.b 0; have hczq72_1 : w63.cell? ⟨g58, 1, none⟩ = some (.int .i64 a0_1) := (blk_cell BK59.b 1).trans rfl; have hfzq72_1 := blk_frozen BK59.b 1; have hczq72_2 : w63.cell? ⟨g58, 2, none⟩ = some (.slice A52 y9.length c53) := (blk_cell BK59.b 2).trans rfl; have hfzq72_2 := blk_frozen BK59.b 2; have hczq72_3 : w63.cell? ⟨g58, 3, none⟩ = some (.slice A55 y10.length c56) := (blk_cell BK59.b 3).trans rfl; have hfzq72_3 := blk_frozen BK59.b 3) | ((with_reducible refine Sh.k 35 ?_); refine Sh.gL (some 40) Tryz.func35 #[.agg #[.int .i64 a0_0, .int .i64 a0_1, .slice A52 y9.length c53, .slice A55 y10.length c56], .slice A69 l1.length c70] (h := ?_); (with_reducible refine (impl_BackFrom.calls k a0_0 a0_1 _ _ y9 _ _ y10 _ _ l1 y33 y34 _ HO46.C HO46.c HO47.C HO47.c HO64.C HO64.c E4.out).mono ?_); rintro e w73 ⟨v0_, rfl, ho0, hb⟩; refine ⟨_, rfl, ?_⟩; obtain ⟨lo75, hi76, HO74, oa77, ob78, NW2⟩ := new1 (F := fun lo_ hi_ => Held (Kd.int .i64) 3 w73 w.heap.size lo_ hi_ v0_ y33) (held_new ho0 hb HB.out) hb NW; replace BK2 := BK2.same hb; replace HO12 := HO12.same hb; replace HO13 := HO13.same hb; replace HO25 := HO25.same hb; replace HO36 := HO36.same hb; replace HO46 := HO46.same hb; replace HO47 := HO47.same hb; replace BK59 := BK59.same hb; replace HO64 := HO64.same hb; replace HB := am_ (below_step HB.out hb); replace NW := Nat.le_trans NW hb.size; replace NW := NW2; skip; obtain ⟨A79, c80, e81⟩ := HO74.slice; subst e81; clear hb ho0) | ((with_reducible refine Sh.k 15 ?_); refine Sh.gL (some 45) Tryz.func15 #[.slice A79 y33.length c80, .slice A41 y33.length c42] (h := ?_); (with_reducible refine (laws_eqIntS.calls k _ _ y33 _ _ y33 true _ HO74.C HO74.c HO36.C HO36.c E5.out).mono ?_); rintro e w82 ⟨rfl, hb⟩; refine ⟨_, rfl, ?_⟩; replace hb := hb.below; replace BK2 := BK2.same hb; replace HO12 := HO12.same hb; replace HO13 := HO13.same hb; replace HO25 := HO25.same hb; replace HO36 := HO36.same hb; replace HO46 := HO46.same hb; replace HO47 := HO47.same hb; replace BK59 := BK59.same hb; replace HO64 := HO64.same hb; replace HO74 := HO74.same hb; replace HB := am_ (below_step HB.out hb); replace NW := Nat.le_trans NW hb.size; clear hb))
 (try simp only [Act.put, List.setIfInBounds_toArray, List.set_cons_zero, List.set_cons_succ])
 try go_wp2
 have hb : Below w82.heap.size w82 w82.drew := below_drew (Below.refl _ _)
 replace BK2 := BK2.same hb
 replace HO12 := HO12.same hb
 replace HO13 := HO13.same hb
 replace HO25 := HO25.same hb
 replace HO36 := HO36.same hb
 replace HO46 := HO46.same hb
 replace HO47 := HO47.same hb
 replace BK59 := BK59.same hb
 replace HO64 := HO64.same hb
 replace HO74 := HO74.same hb
 replace HB := am_ (below_step HB.out hb)
 replace NW := Nat.le_trans NW hb.size
 clear hb
 have hL_ : 0 ≤ 0 := Nat.le_refl 0
 refine start_ (n := 5) (S := fun w' => w'.cell? ⟨g58, 0, none⟩ = some (.int .i64 a0_0) ∧ w'.cell? ⟨g58, 1, none⟩ = some (.int .i64 a0_1) ∧ w'.cell? ⟨g58, 2, none⟩ = some (.slice A52 y9.length c53) ∧ w'.cell? ⟨g58, 3, none⟩ = some (.slice A55 y10.length c56) ∧ w'.cell? ⟨g1, 0, none⟩ = some (.int .i64 a0_0) ∧ w'.cell? ⟨g1, 1, none⟩ = some (.int .i64 a0_1) ∧ w'.cell? ⟨g1, 2, none⟩ = some (.slice A0_2 l0_2.length c0_2) ∧ w'.cell? ⟨g1, 3, none⟩ = some (.slice A0_3 l0_3.length c0_3)) (ds := []) (Sh.nm 5 0) (by kernel_rfl) rfl rfl ⟨(blk_cell BK59.b 0).trans rfl, (blk_cell BK59.b 1).trans rfl, (blk_cell BK59.b 2).trans rfl, (blk_cell BK59.b 3).trans rfl, (blk_cell BK2.b 0).trans rfl, (blk_cell BK2.b 1).trans rfl, (blk_cell BK2.b 2).trans rfl, (blk_cell BK2.b 3).trans rfl⟩ (fun hHeld => ?_)
 generalize w82.drew = w83 at BK2 HO12 HO13 HO25 HO36 HO46 HO47 BK59 HO64 HO74 HB NW hHeld ⊢
 clear hL_
 refine Sh.tA 0 52 (Sh.nm 5 1) (by kernel_rfl) hHeld ?_ (hy := by rintro w' ⟨s0, s1, s2, s3, s4, s5, s6, s7⟩; go_simp; with_reducible rfl)
 refine Sh.tA 1 53 (Sh.nm 5 3) (by kernel_rfl) hHeld ?_ (hy := by rintro w' ⟨s0, s1, s2, s3, s4, s5, s6, s7⟩; go_simp; with_reducible rfl)
 refine one_ (i := 2) (N := some 54) (Sh.nm 5 7) rfl rfl (by kernel_rfl) (by decide) (fun K hK => ?_)
 refine goes_ Tryz.func13 (by kernel_rfl) rfl #[.agg #[.int .i64 a0_0, .int .i64 a0_1, .slice A0_2 l0_2.length c0_2, .slice A0_3 l0_3.length c0_3]] (by rfl) rfl rfl (by (try simp only [List.map_toArray, List.map_cons, List.map_nil]); first | done | rfl | (simp only [List.length_drop, List.length_take]; rfl)) ?_
 with_reducible refine (laws_toProgram.calls k a0_0 a0_1 _ _ l0_2 _ _ l0_3 a0_0 a0_1 y9 y10 _ (Kd.C_below HR0_2.out HB.out) HC0_2.out (Kd.C_below HR0_3.out HB.out) HC0_3.out E1.out).mono ?_
 rintro e w84 ⟨v2_, v3_, rfl, ho0, ho1, hb⟩
 refine ⟨_, rfl, ?_⟩
 obtain ⟨lo87, hi88, ⟨HO85, HO86⟩, oa89, ob90, NW2⟩ := new1 (F := fun lo_ hi_ => Held k79 79 w84 w.heap.size lo_ hi_ v2_ y9 ∧ Held k95 95 w84 w.heap.size lo_ hi_ v3_ y10) ⟨held_new ho0 hb HB.out, held_new ho1 hb HB.out⟩ hb NW
 replace BK2 := BK2.same hb
 replace HO12 := HO12.same hb
 replace HO13 := HO13.same hb
 replace HO25 := HO25.same hb
 replace HO36 := HO36.same hb
 replace HO46 := HO46.same hb
 replace HO47 := HO47.same hb
 replace BK59 := BK59.same hb
 replace HO64 := HO64.same hb
 replace HO74 := HO74.same hb
 replace HB := am_ (below_step HB.out hb)
 replace NW := Nat.le_trans NW hb.size
 replace NW := NW2
 skip
 obtain ⟨A91, c92, e93⟩ := HO85.slice
 subst e93
 obtain ⟨A94, c95, e96⟩ := HO86.slice
 subst e96
 clear hb ho0 ho1
 refine Sh.kN hK ⟨(blk_cell BK59.b 0).trans rfl, (blk_cell BK59.b 1).trans rfl, (blk_cell BK59.b 2).trans rfl, (blk_cell BK59.b 3).trans rfl, (blk_cell BK2.b 0).trans rfl, (blk_cell BK2.b 1).trans rfl, (blk_cell BK2.b 2).trans rfl, (blk_cell BK2.b 3).trans rfl⟩ fun hHeld => ?_
 clear hK K
 refine one_ (i := 3) (N := some 55) (Sh.nm 5 15) rfl rfl (by kernel_rfl) (by decide) (fun K hK => ?_)
 refine goes_ Tryz.func16 (by kernel_rfl) rfl #[.agg #[.int .i64 a0_0, .int .i64 a0_1, .slice A52 y9.length c53, .slice A55 y10.length c56], .agg #[.int .i64 a0_0, .int .i64 a0_1, .slice A91 y9.length c92, .slice A94 y10.length c95]] (by rfl) rfl rfl (by (try simp only [List.map_toArray, List.map_cons, List.map_nil]); first | done | rfl | (simp only [List.length_drop, List.length_take]; rfl)) ?_
 with_reducible refine (laws_eqProgram.calls k a0_0 a0_1 _ _ y9 _ _ y10 a0_0 a0_1 _ _ y9 _ _ y10 true _ HO46.C HO46.c HO47.C HO47.c HO85.C HO85.c HO86.C HO86.c E6.out).mono ?_
 rintro e w97 ⟨rfl, hb⟩
 refine ⟨_, rfl, ?_⟩
 replace BK2 := BK2.same hb
 replace HO12 := HO12.same hb
 replace HO13 := HO13.same hb
 replace HO25 := HO25.same hb
 replace HO36 := HO36.same hb
 replace HO46 := HO46.same hb
 replace HO47 := HO47.same hb
 replace BK59 := BK59.same hb
 replace HO64 := HO64.same hb
 replace HO74 := HO74.same hb
 replace HO85 := HO85.same hb
 replace HO86 := HO86.same hb
 replace HB := am_ (below_step HB.out hb)
 replace NW := Nat.le_trans NW hb.size
 clear hb
 refine Sh.kN hK ⟨(blk_cell BK59.b 0).trans rfl, (blk_cell BK59.b 1).trans rfl, (blk_cell BK59.b 2).trans rfl, (blk_cell BK59.b 3).trans rfl, (blk_cell BK2.b 0).trans rfl, (blk_cell BK2.b 1).trans rfl, (blk_cell BK2.b 2).trans rfl, (blk_cell BK2.b 3).trans rfl⟩ fun hHeld => ?_
 clear hK K
 refine Sh.pA 4 56 (Sh.nm 5 31) (by kernel_rfl) ?_
 refine done_ (by kernel_rfl) ?_
 go_wp2_with (first | ((with_reducible refine Sh.k 21 ?_); refine Sh.gL (some 59) Tryz.func21 #[.slice A1 l1.length c1] (h := ?_); (with_reducible refine (laws_toIntS.calls k _ _ l1 l1 _ (Kd.C_below HR1.out HB.out) HC1.out E2.out).mono ?_); rintro e w98 ⟨v0_, rfl, ho0, hb⟩; refine ⟨_, rfl, ?_⟩; obtain ⟨lo100, hi101, HO99, oa102, ob103, NW2⟩ := new1 (F := fun lo_ hi_ => Held (Kd.int .i64) 3 w98 w.heap.size lo_ hi_ v0_ l1) (held_new ho0 hb HB.out) hb NW; replace BK2 := BK2.same hb; replace HO12 := HO12.same hb; replace HO13 := HO13.same hb; replace HO25 := HO25.same hb; replace HO36 := HO36.same hb; replace HO46 := HO46.same hb; replace HO47 := HO47.same hb; replace BK59 := BK59.same hb; replace HO64 := HO64.same hb; replace HO74 := HO74.same hb; replace HO85 := HO85.same hb; replace HO86 := HO86.same hb; replace HB := am_ (below_step HB.out hb); replace NW := Nat.le_trans NW hb.size; replace NW := NW2; skip; obtain ⟨A104, c105, e106⟩ := HO99.slice; subst e106; clear hb ho0) | ((with_reducible refine Sh.k 15 ?_); refine Sh.gL (some 60) Tryz.func15 #[.slice A69 l1.length c70, .slice A104 l1.length c105] (h := ?_); (with_reducible refine (laws_eqIntS.calls k _ _ l1 _ _ l1 true _ HO64.C HO64.c HO99.C HO99.c E7.out).mono ?_); rintro e w107 ⟨rfl, hb⟩; refine ⟨_, rfl, ?_⟩; replace hb := hb.below; replace BK2 := BK2.same hb; replace HO12 := HO12.same hb; replace HO13 := HO13.same hb; replace HO25 := HO25.same hb; replace HO36 := HO36.same hb; replace HO46 := HO46.same hb; replace HO47 := HO47.same hb; replace BK59 := BK59.same hb; replace HO64 := HO64.same hb; replace HO74 := HO74.same hb; replace HO85 := HO85.same hb; replace HO86 := HO86.same hb; replace HO99 := HO99.same hb; replace HB := am_ (below_step HB.out hb); replace NW := Nat.le_trans NW hb.size; clear hb; have hczq108_0 : w107.cell? ⟨g58, 0, none⟩ = some (.int .i64 a0_0) := (blk_cell BK59.b 0).trans rfl; have hfzq108_0 := blk_frozen BK59.b 0; have hczq108_1 : w107.cell? ⟨g58, 1, none⟩ = some (.int .i64 a0_1) := (blk_cell BK59.b 1).trans rfl; have hfzq108_1 := blk_frozen BK59.b 1; have hczq108_2 : w107.cell? ⟨g58, 2, none⟩ = some (.slice A52 y9.length c53) := (blk_cell BK59.b 2).trans rfl; have hfzq108_2 := blk_frozen BK59.b 2; have hczq108_3 : w107.cell? ⟨g58, 3, none⟩ = some (.slice A55 y10.length c56) := (blk_cell BK59.b 3).trans rfl; have hfzq108_3 := blk_frozen BK59.b 3) | ((with_reducible refine Sh.k 17 ?_); refine Sh.gL (some 64) Tryz.func17 #[.agg #[.int .i64 a0_0, .int .i64 a0_1, .slice A52 y9.length c53, .slice A55 y10.length c56], .int .i64 1] (h := ?_); (with_reducible refine (laws_markProgram.calls k (fun k_ => lo48 ≤ k_ ∧ k_ < hi49) a0_0 a0_1 _ y9 _ y10 1 m109 w _ HB.out HO46.r HO47.r E8.out).mono ?_); rintro e w110 ⟨rfl, hb, hk⟩; refine ⟨_, rfl, ?_⟩; replace hk : Kept w107 w110 (fun k_ => lo48 ≤ k_ ∧ k_ < hi49) := hk; replace BK2 := BK2.move hk (by omega); replace HO12 := HO12.move hk (by omega); replace HO13 := HO13.move hk (by omega); replace HO25 := HO25.move hk (by omega); replace HO36 := HO36.move hk (by omega); replace BK59 := BK59.move hk (by omega); replace HO64 := HO64.move hk (by omega); replace HO74 := HO74.move hk (by omega); replace HO85 := HO85.move hk (by omega); replace HO86 := HO86.move hk (by omega); replace HO99 := HO99.move hk (by omega); clear HO46 HO47; replace NW := Nat.le_trans NW hk.1; replace HB := am_ hb; clear hk hb) | ((with_reducible refine Sh.k 18 ?_); refine Sh.gL (some 67) Tryz.func18 #[.slice A69 l1.length c70, .int .i64 m109] (h := ?_); (with_reducible refine (laws_markIntS.calls k (fun k_ => lo65 ≤ k_ ∧ k_ < hi66) _ l1 m109 m111 y112 w _ HB.out HO64.r E9.out).mono ?_); rintro e w113 ⟨rfl, hm0, hb, hk⟩; refine ⟨_, rfl, ?_⟩; replace hk : Kept w110 w113 (fun k_ => lo65 ≤ k_ ∧ k_ < hi66) := hk; replace BK2 := BK2.move hk (by omega); replace HO12 := HO12.move hk (by omega); replace HO13 := HO13.move hk (by omega); replace HO25 := HO25.move hk (by omega); replace HO36 := HO36.move hk (by omega); replace BK59 := BK59.move hk (by omega); replace HO74 := HO74.move hk (by omega); replace HO85 := HO85.move hk (by omega); replace HO86 := HO86.move hk (by omega); replace HO99 := HO99.move hk (by omega); replace HO64 := HO64.marked rfl hm0 hk; replace NW := Nat.le_trans NW hk.1; replace HB := am_ hb; clear hk hb hm0) | ((with_reducible refine Sh.k 15 ?_); (with_reducible refine Sh.d 73 ?_); (try simp only [ce0, ce1, cr0]); refine gate_guard (by rfl) ?_; dsimp only; refine Sh.gL (some 73) Tryz.func15 #[.slice A79 y33.length c80, .slice A41 y33.length c42] (h := ?_); (with_reducible refine (laws_eqIntS.calls k _ _ y33 _ _ y33 true _ HO74.C HO74.c HO36.C HO36.c E5.out).mono ?_); rintro e w114 ⟨rfl, hb⟩; refine ⟨_, rfl, ?_⟩; replace hb := hb.below; replace BK2 := BK2.same hb; replace HO12 := HO12.same hb; replace HO13 := HO13.same hb; replace HO25 := HO25.same hb; replace HO36 := HO36.same hb; replace BK59 := BK59.same hb; replace HO64 := HO64.same hb; replace HO74 := HO74.same hb; replace HO85 := HO85.same hb; replace HO86 := HO86.same hb; replace HO99 := HO99.same hb; replace HB := am_ (below_step HB.out hb); replace NW := Nat.le_trans NW hb.size; clear hb) | ((with_reducible refine Sh.k 18 ?_); refine Sh.gL (some 83) Tryz.func18 #[.slice A79 y33.length c80, .int .i64 1] (h := ?_); (with_reducible refine (laws_markIntS.calls k (fun k_ => lo75 ≤ k_ ∧ k_ < hi76) _ y33 1 m115 y116 w _ HB.out HO74.r E10.out).mono ?_); rintro e w117 ⟨rfl, hm0, hb, hk⟩; refine ⟨_, rfl, ?_⟩; replace hk : Kept w114 w117 (fun k_ => lo75 ≤ k_ ∧ k_ < hi76) := hk; replace BK2 := BK2.move hk (by omega); replace HO12 := HO12.move hk (by omega); replace HO13 := HO13.move hk (by omega); replace HO25 := HO25.move hk (by omega); replace HO36 := HO36.move hk (by omega); replace BK59 := BK59.move hk (by omega); replace HO64 := HO64.move hk (by omega); replace HO85 := HO85.move hk (by omega); replace HO86 := HO86.move hk (by omega); replace HO99 := HO99.move hk (by omega); replace HO74 := HO74.marked rfl hm0 hk; replace NW := Nat.le_trans NW hk.1; replace HB := am_ hb; clear hk hb hm0) | ((with_reducible refine Sh.k 19 ?_); refine Sh.gL (some 86) Tryz.func19 #[.slice A79 y33.length c80, .int .i64 1] (h := ?_); refine calls_of_args (args' := #[.slice A79 y116.length c80, .int .i64 1]) (by rw [← HO74.n]) ?_; (with_reducible refine (laws_heldIntS.calls k _ _ y116 1 m115 _ HO74.C HO74.c E11.out).mono ?_); rintro e w118 ⟨rfl, hb⟩; refine ⟨_, rfl, ?_⟩; replace hb := hb.below; replace BK2 := BK2.same hb; replace HO12 := HO12.same hb; replace HO13 := HO13.same hb; replace HO25 := HO25.same hb; replace HO36 := HO36.same hb; replace BK59 := BK59.same hb; replace HO64 := HO64.same hb; replace HO74 := HO74.same hb; replace HO85 := HO85.same hb; replace HO86 := HO86.same hb; replace HO99 := HO99.same hb; replace HB := am_ (below_step HB.out hb); replace NW := Nat.le_trans NW hb.size; clear hb; have hczq119_0 : w118.cell? ⟨g1, 0, none⟩ = some (.int .i64 a0_0) := (blk_cell BK2.b 0).trans rfl; have hfzq119_0 := blk_frozen BK2.b 0; have hczq119_1 : w118.cell? ⟨g1, 1, none⟩ = some (.int .i64 a0_1) := (blk_cell BK2.b 1).trans rfl; have hfzq119_1 := blk_frozen BK2.b 1; have hczq119_2 : w118.cell? ⟨g1, 2, none⟩ = some (.slice A0_2 l0_2.length c0_2) := (blk_cell BK2.b 2).trans rfl; have hfzq119_2 := blk_frozen BK2.b 2; have hczq119_3 : w118.cell? ⟨g1, 3, none⟩ = some (.slice A0_3 l0_3.length c0_3) := (blk_cell BK2.b 3).trans rfl; have hfzq119_3 := blk_frozen BK2.b 3) | ((with_reducible refine Sh.k 13 ?_); refine Sh.gL (some 94) Tryz.func13 #[.agg #[.int .i64 a0_0, .int .i64 a0_1, .slice A0_2 l0_2.length c0_2, .slice A0_3 l0_3.length c0_3]] (h := ?_); (with_reducible refine (laws_toProgram.calls k a0_0 a0_1 _ _ l0_2 _ _ l0_3 a0_0 a0_1 y9 y10 _ (Kd.C_below HR0_2.out HB.out) HC0_2.out (Kd.C_below HR0_3.out HB.out) HC0_3.out E1.out).mono ?_); rintro e w120 ⟨v2_, v3_, rfl, ho0, ho1, hb⟩; refine ⟨_, rfl, ?_⟩; obtain ⟨lo123, hi124, ⟨HO121, HO122⟩, oa125, ob126, NW2⟩ := new1 (F := fun lo_ hi_ => Held k79 79 w120 w.heap.size lo_ hi_ v2_ y9 ∧ Held k95 95 w120 w.heap.size lo_ hi_ v3_ y10) ⟨held_new ho0 hb HB.out, held_new ho1 hb HB.out⟩ hb NW; replace BK2 := BK2.same hb; replace HO12 := HO12.same hb; replace HO13 := HO13.same hb; replace HO25 := HO25.same hb; replace HO36 := HO36.same hb; replace BK59 := BK59.same hb; replace HO64 := HO64.same hb; replace HO74 := HO74.same hb; replace HO85 := HO85.same hb; replace HO86 := HO86.same hb; replace HO99 := HO99.same hb; replace HB := am_ (below_step HB.out hb); replace NW := Nat.le_trans NW hb.size; replace NW := NW2; skip; obtain ⟨A127, c128, e129⟩ := HO121.slice; subst e129; obtain ⟨A130, c131, e132⟩ := HO122.slice; subst e132; clear hb ho0 ho1) | ((with_reducible refine Sh.k 21 ?_); refine Sh.gL (some 96) Tryz.func21 #[.slice A1 l1.length c1] (h := ?_); (with_reducible refine (laws_toIntS.calls k _ _ l1 l1 _ (Kd.C_below HR1.out HB.out) HC1.out E2.out).mono ?_); rintro e w133 ⟨v0_, rfl, ho0, hb⟩; refine ⟨_, rfl, ?_⟩; obtain ⟨lo135, hi136, HO134, oa137, ob138, NW2⟩ := new1 (F := fun lo_ hi_ => Held (Kd.int .i64) 3 w133 w.heap.size lo_ hi_ v0_ l1) (held_new ho0 hb HB.out) hb NW; replace BK2 := BK2.same hb; replace HO12 := HO12.same hb; replace HO13 := HO13.same hb; replace HO25 := HO25.same hb; replace HO36 := HO36.same hb; replace BK59 := BK59.same hb; replace HO64 := HO64.same hb; replace HO74 := HO74.same hb; replace HO85 := HO85.same hb; replace HO86 := HO86.same hb; replace HO99 := HO99.same hb; replace HO121 := HO121.same hb; replace HO122 := HO122.same hb; replace HB := am_ (below_step HB.out hb); replace NW := Nat.le_trans NW hb.size; replace NW := NW2; skip; obtain ⟨A139, c140, e141⟩ := HO134.slice; subst e141; clear hb ho0) | ((with_reducible refine Sh.k 35 ?_); refine Sh.gL (some 97) Tryz.func35 #[.agg #[.int .i64 a0_0, .int .i64 a0_1, .slice A127 y9.length c128, .slice A130 y10.length c131], .slice A139 l1.length c140] (h := ?_); (with_reducible refine (impl_BackFrom.calls k a0_0 a0_1 _ _ y9 _ _ y10 _ _ l1 y33 y34 _ HO121.C HO121.c HO122.C HO122.c HO134.C HO134.c E4.out).mono ?_); rintro e w142 ⟨v0_, rfl, ho0, hb⟩; refine ⟨_, rfl, ?_⟩; obtain ⟨lo144, hi145, HO143, oa146, ob147, NW2⟩ := new1 (F := fun lo_ hi_ => Held (Kd.int .i64) 3 w142 w.heap.size lo_ hi_ v0_ y33) (held_new ho0 hb HB.out) hb NW; replace BK2 := BK2.same hb; replace HO12 := HO12.same hb; replace HO13 := HO13.same hb; replace HO25 := HO25.same hb; replace HO36 := HO36.same hb; replace BK59 := BK59.same hb; replace HO64 := HO64.same hb; replace HO74 := HO74.same hb; replace HO85 := HO85.same hb; replace HO86 := HO86.same hb; replace HO99 := HO99.same hb; replace HO121 := HO121.same hb; replace HO122 := HO122.same hb; replace HO134 := HO134.same hb; replace HB := am_ (below_step HB.out hb); replace NW := Nat.le_trans NW hb.size; replace NW := NW2; skip; obtain ⟨A148, c149, e150⟩ := HO143.slice; subst e150; clear hb ho0) | ((with_reducible refine Sh.k 15 ?_); refine Sh.gL (some 102) Tryz.func15 #[.slice A148 y33.length c149, .slice A41 y33.length c42] (h := ?_); (with_reducible refine (laws_eqIntS.calls k _ _ y33 _ _ y33 true _ HO143.C HO143.c HO36.C HO36.c E5.out).mono ?_); rintro e w151 ⟨rfl, hb⟩; refine ⟨_, rfl, ?_⟩; replace hb := hb.below; replace BK2 := BK2.same hb; replace HO12 := HO12.same hb; replace HO13 := HO13.same hb; replace HO25 := HO25.same hb; replace HO36 := HO36.same hb; replace BK59 := BK59.same hb; replace HO64 := HO64.same hb; replace HO74 := HO74.same hb; replace HO85 := HO85.same hb; replace HO86 := HO86.same hb; replace HO99 := HO99.same hb; replace HO121 := HO121.same hb; replace HO122 := HO122.same hb; replace HO134 := HO134.same hb; replace HO143 := HO143.same hb; replace HB := am_ (below_step HB.out hb); replace NW := Nat.le_trans NW hb.size; clear hb) | ((with_reducible refine Sh.k 19 ?_); refine Sh.gL (some 111) Tryz.func19 #[.slice A79 y33.length c80, .int .i64 1] (h := ?_); refine calls_of_args (args' := #[.slice A79 y116.length c80, .int .i64 1]) (by rw [← HO74.n]) ?_; (with_reducible refine (laws_heldIntS.calls k _ _ y116 1 m115 _ HO74.C HO74.c E11.out).mono ?_); rintro e w152 ⟨rfl, hb⟩; refine ⟨_, rfl, ?_⟩; replace hb := hb.below; replace BK2 := BK2.same hb; replace HO12 := HO12.same hb; replace HO13 := HO13.same hb; replace HO25 := HO25.same hb; replace HO36 := HO36.same hb; replace BK59 := BK59.same hb; replace HO64 := HO64.same hb; replace HO74 := HO74.same hb; replace HO85 := HO85.same hb; replace HO86 := HO86.same hb; replace HO99 := HO99.same hb; replace HO121 := HO121.same hb; replace HO122 := HO122.same hb; replace HO134 := HO134.same hb; replace HO143 := HO143.same hb; replace HB := am_ (below_step HB.out hb); replace NW := Nat.le_trans NW hb.size; clear hb))
 go_ret
 exact ⟨rfl, HB.out⟩
end Go.Proofs.YtngefmofelengaaGreat.P
