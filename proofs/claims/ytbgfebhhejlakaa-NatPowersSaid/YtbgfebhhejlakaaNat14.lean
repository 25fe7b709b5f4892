/- Numbers by limbs: calls that answer a number; the page's examples, walked. -/
import Derived.Test.YtbgfebhhejlakaaNat12
import Derived.Test.YtbgfebhhejlakaaNat13
import Derived.Test.YtbgfebhhejlakaaRefN
import Derived.Test.YtbgfebhhejlakaaCodeL
set_option linter.unusedVariables false
set_option linter.unusedSimpArgs false
namespace Go.Proofs.Ytbgfebhhejlakaa.Spec
open Go Go.RowKit Go.Proofs Go.Proofs.Ytbgfebhhejlakaa.Eng Go.Proofs.Ytbgfebhhejlakaa.Code Go.Proofs.Ytbgfebhhejlakaa.Big
set_option maxRecDepth 100000
attribute [local irreducible] callK S.W opsW scrW

theorem same_vw {w : World} {va vb : Value} {l r : List Int} (ha : Vw .u32 w va l) (hb : Vw .u32 w vb r) (h : l.length ≤ 1099511627776) (K : Value → World → Prop)
    (hK : ∀ w', Fr w w' nob → K (.bool (decide (l = r))) w') : callK Try.prog 20 [va, vb] w K := by
  obtain ⟨A, c, rfl, hc, hr⟩ := ha
  obtain ⟨B, d, rfl, hd, hs⟩ := hb
  exact sameN_spec rfl rfl hr hs (by omega) K hK
theorem sameb_vw {w : World} {va vb : Value} {l r : List Int} (ha : Vw .u8 w va l) (hb : Vw .u8 w vb r) (h : l.length ≤ 1099511627776) (K : Value → World → Prop)
    (hK : ∀ w', Fr w w' nob → K (.bool (decide (l = r))) w') : callK Try.prog 41 [va, vb] w K := by
  obtain ⟨A, c, rfl, hc, hr⟩ := ha
  obtain ⟨B, d, rfl, hd, hs⟩ := hb
  exact same_spec rfl rfl hr hs (by omega) K hK
theorem same_yes {w : World} {va vb : Value} {l r : List Int} (ha : Vw .u32 w va l) (hb : Vw .u32 w vb r) (e : l = r) (h : l.length ≤ 1099511627776) (K : Value → World → Prop)
    (hK : ∀ w', Fr w w' nob → K (.bool true) w') : callK Try.prog 20 [va, vb] w K :=
  same_vw ha hb h K fun w' f => by rw [decide_eq_true e]; exact hK w' f
theorem sameb_yes {w : World} {va vb : Value} {l r : List Int} (ha : Vw .u8 w va l) (hb : Vw .u8 w vb r) (e : l = r) (h : l.length ≤ 1099511627776) (K : Value → World → Prop)
    (hK : ∀ w', Fr w w' nob → K (.bool true) w') : callK Try.prog 41 [va, vb] w K :=
  sameb_vw ha hb h K fun w' f => by rw [decide_eq_true e]; exact hK w' f
theorem num_spec (n : Int) (w : World) (K : Value → World → Prop) (hK : K (.int .i64 n) w) : callK Try.prog 21 [.int .i64 n] w K := by
  refine call_of Try.func21 Code.h21 (by simp [Code.c21]) ?_
  simp (disch := omega) only [EO, ↓EP, EQ, EM, ↓reduceIte, Int.reduceAdd, Int.reduceEq, Int.reduceLE, Int.reduceLT, Int.reduceMul, Int.reduceNeg, Int.reducePow, Int.reduceSub, Int.reduceToNat, Nat.reduceAdd, Nat.reduceEqDiff, Nat.reduceLT, Nat.reduceLeDiff, Nat.reduceMul, reduceCtorEq, Code.c21]
  exact hK
/-- A list that is as short as may be, by looking. -/
def canB (l : List Int) : Bool := (l.all fun x => decide (0 ≤ x ∧ x < 4294967296)) && (l.isEmpty || decide (l.getLastD 0 ≠ 0))
theorem can_of {l : List Int} (h : canB l = true) : Big.Can l := by
  unfold canB at h
  rw [Bool.and_eq_true, List.all_eq_true] at h
  refine ⟨fun x hx => by simpa using h.1 x hx, ?_⟩
  by_cases h0 : l = []
  · exact .inl h0
  · right
    have h2 := h.2
    have he : l.isEmpty = false := by cases l with | nil => exact absurd rfl h0 | cons => rfl
    rw [he, Bool.false_or, decide_eq_true_eq] at h2
    rw [at_nat, List.getD_eq_getElem?_getD]
    rw [List.getLastD_eq_getLast?, List.getLast?_eq_getElem?] at h2
    exact h2
theorem limbs_k {l : List Int} {v : Int} (h : canB l = true) (hv : val l = v) : limbs v = l := ((can_of h).eq hv).symm
theorem lim_k {l : List Int} (h : canB l = true) : Lim l := (can_of h).1

/-! ### Calls that answer a number -/
section
variable {w : World} {va vb vc : Value} {l r m : List Int} {x y z : Int} {n : Nat}
theorem add_ok (ha : Vw .u32 w va l) (hb : Vw .u32 w vb r) (hL : Lim l) (hR : Lim r) (hx : val l = x) (hy : val r = y) (h1 : l.length ≤ n) (h2 : r.length ≤ n) (hn : n ≤ 511) (K : Value → World → Prop)
    (hK : ∀ v w', Gw .u32 w w' v (limbs (x + y)) → Nv w' v (x + y) → (limbs (x + y)).length ≤ n + 1 → K (.tuple #[v, .int .i64 0]) w') : callK Try.prog 16 [va, vb] w K := by
  refine add_vw ha hb hL hR K fun v w' g => ?_
  have b1 := (val_bd hL).1
  have b2 := (val_bd hR).1
  have k1 := len_val hL
  have k2 := len_val hR
  have k3 := len_add b1 b2 (n := n) (m := n) (by omega) (by omega)
  rw [Nat.max_self] at k3
  have e : addR l r = (limbs (x + y), 0) := by unfold addR; rw [if_neg (by omega), if_neg (by omega), hx, hy]
  rw [e] at g ⊢
  exact hK v w' g (g.nv (by omega)) (by rw [← hx, ← hy]; exact k3)
theorem sub_ok (ha : Vw .u32 w va l) (hb : Vw .u32 w vb r) (hL : Lim l) (hR : Lim r) (hx : val l = x) (hy : val r = y) (h1 : l.length ≤ n) (h2 : r.length ≤ n) (hn : n ≤ 512) (hle : y ≤ x) (K : Value → World → Prop)
    (hK : ∀ v w', Gw .u32 w w' v (limbs (x - y)) → Nv w' v (x - y) → (limbs (x - y)).length ≤ n → K (.tuple #[v, .int .i64 0]) w') : callK Try.prog 18 [va, vb] w K := by
  refine sub_vw ha hb hL hR K fun v w' g => ?_
  have b1 := (val_bd hL).1
  have b2 := (val_bd hR).1
  have k1 := len_val hL
  have e : subR l r = (limbs (x - y), 0) := by unfold subR; rw [if_neg (by omega), if_neg (by omega), hx, hy]
  rw [e] at g ⊢
  have k3 := len_mono (a := x - y) (b := val l) (by omega) (by omega)
  exact hK v w' g (g.nv (by omega)) (by omega)
theorem mul_ok {k : Nat} (ha : Vw .u32 w va l) (hb : Vw .u32 w vb r) (hL : Lim l) (hR : Lim r) (hx : val l = x) (hy : val r = y) (h1 : l.length ≤ n) (h2 : r.length ≤ k) (hn : n + k ≤ 512) (K : Value → World → Prop)
    (hK : ∀ v w', Gw .u32 w w' v (limbs (x * y)) → Nv w' v (x * y) → (limbs (x * y)).length ≤ n + k → K (.tuple #[v, .int .i64 0]) w') : callK Try.prog 30 [va, vb] w K := by
  refine mul_vw ha hb hL hR K fun v w' g => ?_
  have b1 := (val_bd hL).1
  have b2 := (val_bd hR).1
  have k1 := len_val hL
  have k2 := len_val hR
  have k3 := len_mul b1 b2 (n := n) (m := k) (by omega) (by omega)
  have e : mulR l r = (limbs (x * y), 0) := by unfold mulR; rw [if_neg (by omega), if_neg (by omega), hx, hy]
  rw [e] at g ⊢
  exact hK v w' g (g.nv (by rw [← hx, ← hy]; exact Int.mul_nonneg b1 b2)) (by rw [← hx, ← hy]; exact k3)
theorem div_ok {k : Nat} (ha : Vw .u32 w va l) (hb : Vw .u32 w vb r) (hL : Lim l) (hR : Lim r) (hx : val l = x) (hy : val r = y) (h1 : l.length ≤ n) (h2 : r.length ≤ k) (hn : n ≤ 512) (hk : k ≤ 512) (hpos : 0 < y) (K : Value → World → Prop)
    (hK : ∀ u v w', Gw .u32 w w' u (limbs (x / y)) → Gw .u32 w w' v (limbs (x % y)) → Nv w' u (x / y) → Nv w' v (x % y) → (limbs (x / y)).length ≤ n → (limbs (x % y)).length ≤ k → (∀ b, blkOf u = some b → blkOf v ≠ some b) → K (.tuple #[u, v, .int .i64 0]) w') : callK Try.prog 32 [va, vb] w K := by
  refine divmod_vw ha hb hL hR K fun u v w' g1 g2 hne => ?_
  have b1 := (val_bd hL).1
  have k1 := len_val hL
  have k2 := len_val hR
  have e : divR l r = (limbs (x / y), limbs (x % y), 0) := by unfold divR; rw [if_neg (by omega), if_neg (by omega), hx, hy]
  rw [e] at g1 g2 ⊢
  have hq := Int.ediv_nonneg (show 0 ≤ x by omega) (show 0 ≤ y by omega)
  have hr := mod_bd (a := x) hpos
  have k3 := len_mono hq (Int.ediv_le_self y (show 0 ≤ x by omega))
  have k4 := len_mono hr.1 (show x % y ≤ y by omega)
  rw [hx] at k1
  rw [hy] at k2
  exact hK u v w' g1 g2 (g1.nv hq) (g2.nv hr.1) (by omega) (by omega) hne
theorem pow_ok {k : Nat} (ha : Vw .u32 w va l) (hb : Vw .u32 w vb r) (hc : Vw .u32 w vc m) (hL : Lim l) (hR : Lim r) (hM : Lim m) (hx : val l = x) (hy : val r = y) (hz : val m = z) (h1 : l.length ≤ 512) (h2 : r.length ≤ 256) (h3 : m.length ≤ k) (hk : k ≤ 256) (hpos : 0 < z) (K : Value → World → Prop)
    (hK : ∀ v w', Gw .u32 w w' v (limbs (x ^ y.toNat % z)) → Nv w' v (x ^ y.toNat % z) → (limbs (x ^ y.toNat % z)).length ≤ k → K (.tuple #[v, .int .i64 0]) w') : callK Try.prog 35 [va, vb, vc] w K := by
  refine expmod_vw ha hb hc hL hR hM K fun v w' g => ?_
  have k2 := len_val hM
  have e : powR l r m = (limbs (x ^ y.toNat % z), 0) := by unfold powR; rw [if_neg (by omega), if_neg (by omega), hx, hy, hz]
  rw [e] at g ⊢
  have hr := mod_bd (a := x ^ y.toNat) hpos
  have k4 := len_mono hr.1 (show x ^ y.toNat % z ≤ z by omega)
  rw [hz] at k2
  exact hK v w' g (g.nv hr.1) (by omega)
theorem inv_ok {k : Nat} (ha : Vw .u32 w va l) (hb : Vw .u32 w vb m) (hL : Lim l) (hM : Lim m) (hx : val l = x) (hz : val m = z) (h1 : l.length ≤ 512) (h2 : m.length ≤ k) (hk : k ≤ 512) (hpos : 0 < z) (hi : isInv x z y) (K : Value → World → Prop)
    (hK : ∀ v w', Gw .u32 w w' v (limbs y) → Nv w' v y → (limbs y).length ≤ k → K (.tuple #[v, .int .i64 0]) w') : callK Try.prog 37 [va, vb] w K := by
  refine inverse_vw ha hb hL hM K fun v w' g => ?_
  have k2 := len_val hM
  rw [invR_some (y := y) (by omega) (by omega) (by rw [hx, hz]; exact hi)] at g ⊢
  have k4 := len_mono hi.1 (show y ≤ z by have := hi.2.1; omega)
  rw [hz] at k2
  exact hK v w' g (g.nv hi.1) (by omega)
theorem cmp_is (ha : Vw .u32 w va l) (hb : Vw .u32 w vb r) (hL : Lim l) (hR : Lim r) (hx : val l = x) (hy : val r = y) (h1 : l.length ≤ n) (h2 : r.length ≤ n) (hn : n ≤ 1099511627776) (K : Value → World → Prop)
    (hK : ∀ c w', Fr w w' nob → (x < y → c = -1) → (x = y → c = 0) → (y < x → c = 1) → K (.int .i64 c) w') : callK Try.prog 26 [va, vb] w K := by
  refine cmp_vw ha hb hL hR (by omega) (by omega) K fun w' f => ?_
  rw [hx, hy]
  exact hK _ w' f (fun h => cmp_lt h) (fun h => cmp_eq h) (fun h => cmp_gt h)
end
set_option maxHeartbeats 2000000 in
theorem live_spec (w0 : World) (K : Value → World → Prop) (hK : ∀ w', Fr w0 w' nob → K (.bool true) w') : callK Try.prog 29 [] w0 K := by
  refine call_of Try.func29 Code.h29 (by simp [Code.c29]) ?_
  simp (disch := omega) only [EO, ↓EP, EQ, EM, ↓reduceIte, Int.reduceAdd, Int.reduceEq, Int.reduceLE, Int.reduceLT, Int.reduceMul, Int.reduceNeg, Int.reducePow, Int.reduceSub, Int.reduceToNat, Nat.reduceAdd, Nat.reduceEqDiff, Nat.reduceLT, Nat.reduceLeDiff, Nat.reduceMul, reduceCtorEq, Code.c29]
  refine bsl1 fun w1 n1 => ?_
  have f1 := n1.fr nob
  simp (disch := omega) only [EO, ↓EP, EQ, EM, ↓reduceIte, Int.reduceAdd, Int.reduceEq, Int.reduceLE, Int.reduceLT, Int.reduceMul, Int.reduceNeg, Int.reducePow, Int.reduceSub, Int.reduceToNat, Nat.reduceAdd, Nat.reduceEqDiff, Nat.reduceLT, Nat.reduceLeDiff, Nat.reduceMul, reduceCtorEq]
  refine bsl1 fun w2 n2 => ?_
  have f2 := n2.fr nob
  simp (disch := omega) only [EO, ↓EP, EQ, EM, ↓reduceIte, Int.reduceAdd, Int.reduceEq, Int.reduceLE, Int.reduceLT, Int.reduceMul, Int.reduceNeg, Int.reducePow, Int.reduceSub, Int.reduceToNat, Nat.reduceAdd, Nat.reduceEqDiff, Nat.reduceLT, Nat.reduceLeDiff, Nat.reduceMul, reduceCtorEq]
  refine add_ok (x := 4294967295) (y := 1) (n := 1) ((n1.vw rfl).nb f2) (n2.vw rfl) (lim_k (by decide)) (lim_k (by decide)) (by decide) (by decide) (by simp) (by simp) (by omega) _ fun v3 w3 g3 _ _ => ?_
  rw [limbs_k (l := [0, 1]) (by decide) (by decide)] at g3
  have f3 := g3.fr
  simp (disch := omega) only [EO, ↓EP, EQ, EM, ↓reduceIte, Int.reduceAdd, Int.reduceEq, Int.reduceLE, Int.reduceLT, Int.reduceMul, Int.reduceNeg, Int.reducePow, Int.reduceSub, Int.reduceToNat, Nat.reduceAdd, Nat.reduceEqDiff, Nat.reduceLT, Nat.reduceLeDiff, Nat.reduceMul, reduceCtorEq]
  refine bsl2 fun w4 n4 => ?_
  have f4 := n4.fr nob
  simp (disch := omega) only [EO, ↓EP, EQ, EM, ↓reduceIte, Int.reduceAdd, Int.reduceEq, Int.reduceLE, Int.reduceLT, Int.reduceMul, Int.reduceNeg, Int.reducePow, Int.reduceSub, Int.reduceToNat, Nat.reduceAdd, Nat.reduceEqDiff, Nat.reduceLT, Nat.reduceLeDiff, Nat.reduceMul, reduceCtorEq]
  refine bsl1 fun w5 n5 => ?_
  have f5 := n5.fr nob
  simp (disch := omega) only [EO, ↓EP, EQ, EM, ↓reduceIte, Int.reduceAdd, Int.reduceEq, Int.reduceLE, Int.reduceLT, Int.reduceMul, Int.reduceNeg, Int.reducePow, Int.reduceSub, Int.reduceToNat, Nat.reduceAdd, Nat.reduceEqDiff, Nat.reduceLT, Nat.reduceLeDiff, Nat.reduceMul, reduceCtorEq]
  refine sub_ok (x := 4294967296) (y := 1) (n := 2) ((n4.vw rfl).nb f5) (n5.vw rfl) (lim_k (by decide)) (lim_k (by decide)) (by decide) (by decide) (by simp) (by simp) (by omega) (by decide) _ fun v6 w6 g6 _ _ => ?_
  rw [limbs_k (l := [4294967295]) (by decide) (by decide)] at g6
  have f6 := g6.fr
  simp (disch := omega) only [EO, ↓EP, EQ, EM, ↓reduceIte, Int.reduceAdd, Int.reduceEq, Int.reduceLE, Int.reduceLT, Int.reduceMul, Int.reduceNeg, Int.reducePow, Int.reduceSub, Int.reduceToNat, Nat.reduceAdd, Nat.reduceEqDiff, Nat.reduceLT, Nat.reduceLeDiff, Nat.reduceMul, reduceCtorEq]
  refine bsl2 fun w7 n7 => ?_
  have f7 := n7.fr nob
  simp (disch := omega) only [EO, ↓EP, EQ, EM, ↓reduceIte, Int.reduceAdd, Int.reduceEq, Int.reduceLE, Int.reduceLT, Int.reduceMul, Int.reduceNeg, Int.reducePow, Int.reduceSub, Int.reduceToNat, Nat.reduceAdd, Nat.reduceEqDiff, Nat.reduceLT, Nat.reduceLeDiff, Nat.reduceMul, reduceCtorEq]
  refine bsl2 fun w8 n8 => ?_
  have f8 := n8.fr nob
  simp (disch := omega) only [EO, ↓EP, EQ, EM, ↓reduceIte, Int.reduceAdd, Int.reduceEq, Int.reduceLE, Int.reduceLT, Int.reduceMul, Int.reduceNeg, Int.reducePow, Int.reduceSub, Int.reduceToNat, Nat.reduceAdd, Nat.reduceEqDiff, Nat.reduceLT, Nat.reduceLeDiff, Nat.reduceMul, reduceCtorEq]
  refine mul_ok (x := 4294967296) (y := 4294967296) (n := 2) (k := 2) ((n7.vw rfl).nb f8) (n8.vw rfl) (lim_k (by decide)) (lim_k (by decide)) (by decide) (by decide) (by simp) (by simp) (by omega) _ fun v9 w9 g9 _ _ => ?_
  rw [limbs_k (l := [0, 0, 1]) (by decide) (by decide)] at g9
  have f9 := g9.fr
  simp (disch := omega) only [EO, ↓EP, EQ, EM, ↓reduceIte, Int.reduceAdd, Int.reduceEq, Int.reduceLE, Int.reduceLT, Int.reduceMul, Int.reduceNeg, Int.reducePow, Int.reduceSub, Int.reduceToNat, Nat.reduceAdd, Nat.reduceEqDiff, Nat.reduceLT, Nat.reduceLeDiff, Nat.reduceMul, reduceCtorEq]
  refine bsl1 fun w10 n10 => ?_
  have f10 := n10.fr nob
  simp (disch := omega) only [EO, ↓EP, EQ, EM, ↓reduceIte, Int.reduceAdd, Int.reduceEq, Int.reduceLE, Int.reduceLT, Int.reduceMul, Int.reduceNeg, Int.reducePow, Int.reduceSub, Int.reduceToNat, Nat.reduceAdd, Nat.reduceEqDiff, Nat.reduceLT, Nat.reduceLeDiff, Nat.reduceMul, reduceCtorEq]
  refine bsl1 fun w11 n11 => ?_
  have f11 := n11.fr nob
  simp (disch := omega) only [EO, ↓EP, EQ, EM, ↓reduceIte, Int.reduceAdd, Int.reduceEq, Int.reduceLE, Int.reduceLT, Int.reduceMul, Int.reduceNeg, Int.reducePow, Int.reduceSub, Int.reduceToNat, Nat.reduceAdd, Nat.reduceEqDiff, Nat.reduceLT, Nat.reduceLeDiff, Nat.reduceMul, reduceCtorEq]
  refine div_ok (x := 7) (y := 2) (n := 1) (k := 1) ((n10.vw rfl).nb f11) (n11.vw rfl) (lim_k (by decide)) (lim_k (by decide)) (by decide) (by decide) (by simp) (by simp) (by omega) (by omega) (by decide) _ fun u12 v12 w12 h12 g12 _ _ _ _ _ => ?_
  rw [limbs_k (l := [3]) (by decide) (by decide)] at h12
  rw [limbs_k (l := [1]) (by decide) (by decide)] at g12
  have f12 := g12.fr
  simp (disch := omega) only [EO, ↓EP, EQ, EM, ↓reduceIte, Int.reduceAdd, Int.reduceEq, Int.reduceLE, Int.reduceLT, Int.reduceMul, Int.reduceNeg, Int.reducePow, Int.reduceSub, Int.reduceToNat, Nat.reduceAdd, Nat.reduceEqDiff, Nat.reduceLT, Nat.reduceLeDiff, Nat.reduceMul, reduceCtorEq]
  refine bsl1 fun w13 n13 => ?_
  have f13 := n13.fr nob
  simp (disch := omega) only [EO, ↓EP, EQ, EM, ↓reduceIte, Int.reduceAdd, Int.reduceEq, Int.reduceLE, Int.reduceLT, Int.reduceMul, Int.reduceNeg, Int.reducePow, Int.reduceSub, Int.reduceToNat, Nat.reduceAdd, Nat.reduceEqDiff, Nat.reduceLT, Nat.reduceLeDiff, Nat.reduceMul, reduceCtorEq]
  refine bsl1 fun w14 n14 => ?_
  have f14 := n14.fr nob
  simp (disch := omega) only [EO, ↓EP, EQ, EM, ↓reduceIte, Int.reduceAdd, Int.reduceEq, Int.reduceLE, Int.reduceLT, Int.reduceMul, Int.reduceNeg, Int.reducePow, Int.reduceSub, Int.reduceToNat, Nat.reduceAdd, Nat.reduceEqDiff, Nat.reduceLT, Nat.reduceLeDiff, Nat.reduceMul, reduceCtorEq]
  refine bsl1 fun w15 n15 => ?_
  have f15 := n15.fr nob
  simp (disch := omega) only [EO, ↓EP, EQ, EM, ↓reduceIte, Int.reduceAdd, Int.reduceEq, Int.reduceLE, Int.reduceLT, Int.reduceMul, Int.reduceNeg, Int.reducePow, Int.reduceSub, Int.reduceToNat, Nat.reduceAdd, Nat.reduceEqDiff, Nat.reduceLT, Nat.reduceLeDiff, Nat.reduceMul, reduceCtorEq]
  refine pow_ok (x := 3) (y := 4) (z := 5) (k := 1) ((n13.vw rfl).nb (f14.nb f15)) ((n14.vw rfl).nb f15) (n15.vw rfl) (lim_k (by decide)) (lim_k (by decide)) (lim_k (by decide)) (by decide) (by decide) (by decide) (by simp) (by simp) (by simp) (by omega) (by decide) _ fun v16 w16 g16 _ _ => ?_
  rw [limbs_k (l := [1]) (by decide) (by decide)] at g16
  have f16 := g16.fr
  simp (disch := omega) only [EO, ↓EP, EQ, EM, ↓reduceIte, Int.reduceAdd, Int.reduceEq, Int.reduceLE, Int.reduceLT, Int.reduceMul, Int.reduceNeg, Int.reducePow, Int.reduceSub, Int.reduceToNat, Nat.reduceAdd, Nat.reduceEqDiff, Nat.reduceLT, Nat.reduceLeDiff, Nat.reduceMul, reduceCtorEq]
  refine bsl1 fun w17 n17 => ?_
  have f17 := n17.fr nob
  simp (disch := omega) only [EO, ↓EP, EQ, EM, ↓reduceIte, Int.reduceAdd, Int.reduceEq, Int.reduceLE, Int.reduceLT, Int.reduceMul, Int.reduceNeg, Int.reducePow, Int.reduceSub, Int.reduceToNat, Nat.reduceAdd, Nat.reduceEqDiff, Nat.reduceLT, Nat.reduceLeDiff, Nat.reduceMul, reduceCtorEq]
  refine bsl1 fun w18 n18 => ?_
  have f18 := n18.fr nob
  simp (disch := omega) only [EO, ↓EP, EQ, EM, ↓reduceIte, Int.reduceAdd, Int.reduceEq, Int.reduceLE, Int.reduceLT, Int.reduceMul, Int.reduceNeg, Int.reducePow, Int.reduceSub, Int.reduceToNat, Nat.reduceAdd, Nat.reduceEqDiff, Nat.reduceLT, Nat.reduceLeDiff, Nat.reduceMul, reduceCtorEq]
  refine inv_ok (x := 3) (y := 5) (z := 7) (k := 1) ((n17.vw rfl).nb f18) (n18.vw rfl) (lim_k (by decide)) (lim_k (by decide)) (by decide) (by decide) (by simp) (by simp) (by omega) (by decide) ⟨by decide, by decide, ⟨2, by decide⟩⟩ _ fun v19 w19 g19 _ _ => ?_
  rw [limbs_k (l := [5]) (by decide) (by decide)] at g19
  have f19 := g19.fr
  simp (disch := omega) only [EO, ↓EP, EQ, EM, ↓reduceIte, Int.reduceAdd, Int.reduceEq, Int.reduceLE, Int.reduceLT, Int.reduceMul, Int.reduceNeg, Int.reducePow, Int.reduceSub, Int.reduceToNat, Nat.reduceAdd, Nat.reduceEqDiff, Nat.reduceLT, Nat.reduceLeDiff, Nat.reduceMul, reduceCtorEq]
  refine bsl1 fun w20 n20 => ?_
  have f20 := n20.fr nob
  simp (disch := omega) only [EO, ↓EP, EQ, EM, ↓reduceIte, Int.reduceAdd, Int.reduceEq, Int.reduceLE, Int.reduceLT, Int.reduceMul, Int.reduceNeg, Int.reducePow, Int.reduceSub, Int.reduceToNat, Nat.reduceAdd, Nat.reduceEqDiff, Nat.reduceLT, Nat.reduceLeDiff, Nat.reduceMul, reduceCtorEq]
  refine bytes_vw 3 (n20.vw rfl) (lim_k (by decide)) (by omega) _ fun v21 w21 g21 => ?_
  have f21 := g21.fr
  have e21 : tbR [258] 3 = ([0, 1, 2], 0) := by decide +kernel
  rw [e21] at g21 ⊢
  simp (disch := omega) only [EO, ↓EP, EQ, EM, ↓reduceIte, Int.reduceAdd, Int.reduceEq, Int.reduceLE, Int.reduceLT, Int.reduceMul, Int.reduceNeg, Int.reducePow, Int.reduceSub, Int.reduceToNat, Nat.reduceAdd, Nat.reduceEqDiff, Nat.reduceLT, Nat.reduceLeDiff, Nat.reduceMul, reduceCtorEq]
  refine num_spec 0 _ _ ?_
  simp (disch := omega) only [EO, ↓EP, EQ, EM, ↓reduceIte, Int.reduceAdd, Int.reduceEq, Int.reduceLE, Int.reduceLT, Int.reduceMul, Int.reduceNeg, Int.reducePow, Int.reduceSub, Int.reduceToNat, Nat.reduceAdd, Nat.reduceEqDiff, Nat.reduceLT, Nat.reduceLeDiff, Nat.reduceMul, reduceCtorEq]
  refine num_spec 0 _ _ ?_
  simp (disch := omega) only [EO, ↓EP, EQ, EM, ↓reduceIte, Int.reduceAdd, Int.reduceEq, Int.reduceLE, Int.reduceLT, Int.reduceMul, Int.reduceNeg, Int.reducePow, Int.reduceSub, Int.reduceToNat, Nat.reduceAdd, Nat.reduceEqDiff, Nat.reduceLT, Nat.reduceLeDiff, Nat.reduceMul, reduceCtorEq]
  refine num_spec 0 _ _ ?_
  simp (disch := omega) only [EO, ↓EP, EQ, EM, ↓reduceIte, Int.reduceAdd, Int.reduceEq, Int.reduceLE, Int.reduceLT, Int.reduceMul, Int.reduceNeg, Int.reducePow, Int.reduceSub, Int.reduceToNat, Nat.reduceAdd, Nat.reduceEqDiff, Nat.reduceLT, Nat.reduceLeDiff, Nat.reduceMul, reduceCtorEq]
  refine num_spec 0 _ _ ?_
  simp (disch := omega) only [EO, ↓EP, EQ, EM, ↓reduceIte, Int.reduceAdd, Int.reduceEq, Int.reduceLE, Int.reduceLT, Int.reduceMul, Int.reduceNeg, Int.reducePow, Int.reduceSub, Int.reduceToNat, Nat.reduceAdd, Nat.reduceEqDiff, Nat.reduceLT, Nat.reduceLeDiff, Nat.reduceMul, reduceCtorEq]
  refine num_spec 0 _ _ ?_
  simp (disch := omega) only [EO, ↓EP, EQ, EM, ↓reduceIte, Int.reduceAdd, Int.reduceEq, Int.reduceLE, Int.reduceLT, Int.reduceMul, Int.reduceNeg, Int.reducePow, Int.reduceSub, Int.reduceToNat, Nat.reduceAdd, Nat.reduceEqDiff, Nat.reduceLT, Nat.reduceLeDiff, Nat.reduceMul, reduceCtorEq]
  refine num_spec 0 _ _ ?_
  simp (disch := omega) only [EO, ↓EP, EQ, EM, ↓reduceIte, Int.reduceAdd, Int.reduceEq, Int.reduceLE, Int.reduceLT, Int.reduceMul, Int.reduceNeg, Int.reducePow, Int.reduceSub, Int.reduceToNat, Nat.reduceAdd, Nat.reduceEqDiff, Nat.reduceLT, Nat.reduceLeDiff, Nat.reduceMul, reduceCtorEq]
  refine num_spec 0 _ _ ?_
  simp (disch := omega) only [EO, ↓EP, EQ, EM, ↓reduceIte, Int.reduceAdd, Int.reduceEq, Int.reduceLE, Int.reduceLT, Int.reduceMul, Int.reduceNeg, Int.reducePow, Int.reduceSub, Int.reduceToNat, Nat.reduceAdd, Nat.reduceEqDiff, Nat.reduceLT, Nat.reduceLeDiff, Nat.reduceMul, reduceCtorEq]
  refine bsl2 fun w22 n22 => ?_
  have f22 := n22.fr nob
  simp (disch := omega) only [EO, ↓EP, EQ, EM, ↓reduceIte, Int.reduceAdd, Int.reduceEq, Int.reduceLE, Int.reduceLT, Int.reduceMul, Int.reduceNeg, Int.reducePow, Int.reduceSub, Int.reduceToNat, Nat.reduceAdd, Nat.reduceEqDiff, Nat.reduceLT, Nat.reduceLeDiff, Nat.reduceMul, reduceCtorEq]
  refine same_yes (g3.vw.nb ((((((((((((((((((f4.nb f5).nb f6).nb f7).nb f8).nb f9).nb f10).nb f11).nb f12).nb f13).nb f14).nb f15).nb f16).nb f17).nb f18).nb f19).nb f20).nb f21).nb f22)) (n22.vw rfl) rfl (by simp) _ fun w23 f23 => ?_
  simp (disch := omega) only [EO, ↓EP, EQ, EM, ↓reduceIte, Int.reduceAdd, Int.reduceEq, Int.reduceLE, Int.reduceLT, Int.reduceMul, Int.reduceNeg, Int.reducePow, Int.reduceSub, Int.reduceToNat, Nat.reduceAdd, Nat.reduceEqDiff, Nat.reduceLT, Nat.reduceLeDiff, Nat.reduceMul, reduceCtorEq]
  refine bsl1 fun w24 n24 => ?_
  have f24 := n24.fr nob
  simp (disch := omega) only [EO, ↓EP, EQ, EM, ↓reduceIte, Int.reduceAdd, Int.reduceEq, Int.reduceLE, Int.reduceLT, Int.reduceMul, Int.reduceNeg, Int.reducePow, Int.reduceSub, Int.reduceToNat, Nat.reduceAdd, Nat.reduceEqDiff, Nat.reduceLT, Nat.reduceLeDiff, Nat.reduceMul, reduceCtorEq]
  refine same_yes (g6.vw.nb (((((((((((((((((f7.nb f8).nb f9).nb f10).nb f11).nb f12).nb f13).nb f14).nb f15).nb f16).nb f17).nb f18).nb f19).nb f20).nb f21).nb f22).nb f23).nb f24)) (n24.vw rfl) rfl (by simp) _ fun w25 f25 => ?_
  simp (disch := omega) only [EO, ↓EP, EQ, EM, ↓reduceIte, Int.reduceAdd, Int.reduceEq, Int.reduceLE, Int.reduceLT, Int.reduceMul, Int.reduceNeg, Int.reducePow, Int.reduceSub, Int.reduceToNat, Nat.reduceAdd, Nat.reduceEqDiff, Nat.reduceLT, Nat.reduceLeDiff, Nat.reduceMul, reduceCtorEq]
  refine bsl3 fun w26 n26 => ?_
  have f26 := n26.fr nob
  simp (disch := omega) only [EO, ↓EP, EQ, EM, ↓reduceIte, Int.reduceAdd, Int.reduceEq, Int.reduceLE, Int.reduceLT, Int.reduceMul, Int.reduceNeg, Int.reducePow, Int.reduceSub, Int.reduceToNat, Nat.reduceAdd, Nat.reduceEqDiff, Nat.reduceLT, Nat.reduceLeDiff, Nat.reduceMul, reduceCtorEq]
  refine same_yes (g9.vw.nb ((((((((((((((((f10.nb f11).nb f12).nb f13).nb f14).nb f15).nb f16).nb f17).nb f18).nb f19).nb f20).nb f21).nb f22).nb f23).nb f24).nb f25).nb f26)) (n26.vw rfl) rfl (by simp) _ fun w27 f27 => ?_
  simp (disch := omega) only [EO, ↓EP, EQ, EM, ↓reduceIte, Int.reduceAdd, Int.reduceEq, Int.reduceLE, Int.reduceLT, Int.reduceMul, Int.reduceNeg, Int.reducePow, Int.reduceSub, Int.reduceToNat, Nat.reduceAdd, Nat.reduceEqDiff, Nat.reduceLT, Nat.reduceLeDiff, Nat.reduceMul, reduceCtorEq]
  refine bsl1 fun w28 n28 => ?_
  have f28 := n28.fr nob
  simp (disch := omega) only [EO, ↓EP, EQ, EM, ↓reduceIte, Int.reduceAdd, Int.reduceEq, Int.reduceLE, Int.reduceLT, Int.reduceMul, Int.reduceNeg, Int.reducePow, Int.reduceSub, Int.reduceToNat, Nat.reduceAdd, Nat.reduceEqDiff, Nat.reduceLT, Nat.reduceLeDiff, Nat.reduceMul, reduceCtorEq]
  refine same_yes (h12.vw.nb (((((((((((((((f13.nb f14).nb f15).nb f16).nb f17).nb f18).nb f19).nb f20).nb f21).nb f22).nb f23).nb f24).nb f25).nb f26).nb f27).nb f28)) (n28.vw rfl) rfl (by simp) _ fun w29 f29 => ?_
  simp (disch := omega) only [EO, ↓EP, EQ, EM, ↓reduceIte, Int.reduceAdd, Int.reduceEq, Int.reduceLE, Int.reduceLT, Int.reduceMul, Int.reduceNeg, Int.reducePow, Int.reduceSub, Int.reduceToNat, Nat.reduceAdd, Nat.reduceEqDiff, Nat.reduceLT, Nat.reduceLeDiff, Nat.reduceMul, reduceCtorEq]
  refine bsl1 fun w30 n30 => ?_
  have f30 := n30.fr nob
  simp (disch := omega) only [EO, ↓EP, EQ, EM, ↓reduceIte, Int.reduceAdd, Int.reduceEq, Int.reduceLE, Int.reduceLT, Int.reduceMul, Int.reduceNeg, Int.reducePow, Int.reduceSub, Int.reduceToNat, Nat.reduceAdd, Nat.reduceEqDiff, Nat.reduceLT, Nat.reduceLeDiff, Nat.reduceMul, reduceCtorEq]
  refine same_yes (g12.vw.nb (((((((((((((((((f13.nb f14).nb f15).nb f16).nb f17).nb f18).nb f19).nb f20).nb f21).nb f22).nb f23).nb f24).nb f25).nb f26).nb f27).nb f28).nb f29).nb f30)) (n30.vw rfl) rfl (by simp) _ fun w31 f31 => ?_
  simp (disch := omega) only [EO, ↓EP, EQ, EM, ↓reduceIte, Int.reduceAdd, Int.reduceEq, Int.reduceLE, Int.reduceLT, Int.reduceMul, Int.reduceNeg, Int.reducePow, Int.reduceSub, Int.reduceToNat, Nat.reduceAdd, Nat.reduceEqDiff, Nat.reduceLT, Nat.reduceLeDiff, Nat.reduceMul, reduceCtorEq]
  refine bsl1 fun w32 n32 => ?_
  have f32 := n32.fr nob
  simp (disch := omega) only [EO, ↓EP, EQ, EM, ↓reduceIte, Int.reduceAdd, Int.reduceEq, Int.reduceLE, Int.reduceLT, Int.reduceMul, Int.reduceNeg, Int.reducePow, Int.reduceSub, Int.reduceToNat, Nat.reduceAdd, Nat.reduceEqDiff, Nat.reduceLT, Nat.reduceLeDiff, Nat.reduceMul, reduceCtorEq]
  refine same_yes (g16.vw.nb (((((((((((((((f17.nb f18).nb f19).nb f20).nb f21).nb f22).nb f23).nb f24).nb f25).nb f26).nb f27).nb f28).nb f29).nb f30).nb f31).nb f32)) (n32.vw rfl) rfl (by simp) _ fun w33 f33 => ?_
  simp (disch := omega) only [EO, ↓EP, EQ, EM, ↓reduceIte, Int.reduceAdd, Int.reduceEq, Int.reduceLE, Int.reduceLT, Int.reduceMul, Int.reduceNeg, Int.reducePow, Int.reduceSub, Int.reduceToNat, Nat.reduceAdd, Nat.reduceEqDiff, Nat.reduceLT, Nat.reduceLeDiff, Nat.reduceMul, reduceCtorEq]
  refine bsl1 fun w34 n34 => ?_
  have f34 := n34.fr nob
  simp (disch := omega) only [EO, ↓EP, EQ, EM, ↓reduceIte, Int.reduceAdd, Int.reduceEq, Int.reduceLE, Int.reduceLT, Int.reduceMul, Int.reduceNeg, Int.reducePow, Int.reduceSub, Int.reduceToNat, Nat.reduceAdd, Nat.reduceEqDiff, Nat.reduceLT, Nat.reduceLeDiff, Nat.reduceMul, reduceCtorEq]
  refine same_yes (g19.vw.nb ((((((((((((((f20.nb f21).nb f22).nb f23).nb f24).nb f25).nb f26).nb f27).nb f28).nb f29).nb f30).nb f31).nb f32).nb f33).nb f34)) (n34.vw rfl) rfl (by simp) _ fun w35 f35 => ?_
  simp (disch := omega) only [EO, ↓EP, EQ, EM, ↓reduceIte, Int.reduceAdd, Int.reduceEq, Int.reduceLE, Int.reduceLT, Int.reduceMul, Int.reduceNeg, Int.reducePow, Int.reduceSub, Int.reduceToNat, Nat.reduceAdd, Nat.reduceEqDiff, Nat.reduceLT, Nat.reduceLeDiff, Nat.reduceMul, reduceCtorEq]
  refine bsl3 fun w36 n36 => ?_
  have f36 := n36.fr nob
  simp (disch := omega) only [EO, ↓EP, EQ, EM, ↓reduceIte, Int.reduceAdd, Int.reduceEq, Int.reduceLE, Int.reduceLT, Int.reduceMul, Int.reduceNeg, Int.reducePow, Int.reduceSub, Int.reduceToNat, Nat.reduceAdd, Nat.reduceEqDiff, Nat.reduceLT, Nat.reduceLeDiff, Nat.reduceMul, reduceCtorEq]
  refine sameb_yes (g21.vw.nb ((((((((((((((f22.nb f23).nb f24).nb f25).nb f26).nb f27).nb f28).nb f29).nb f30).nb f31).nb f32).nb f33).nb f34).nb f35).nb f36)) (n36.vw rfl) rfl (by simp) _ fun w37 f37 => ?_
  simp (disch := omega) only [EO, ↓EP, EQ, EM, ↓reduceIte, Int.reduceAdd, Int.reduceEq, Int.reduceLE, Int.reduceLT, Int.reduceMul, Int.reduceNeg, Int.reducePow, Int.reduceSub, Int.reduceToNat, Nat.reduceAdd, Nat.reduceEqDiff, Nat.reduceLT, Nat.reduceLeDiff, Nat.reduceMul, reduceCtorEq]
  exact hK w37 ((((((((((((((((((((((((((((((((((((f1.nb f2).nb f3).nb f4).nb f5).nb f6).nb f7).nb f8).nb f9).nb f10).nb f11).nb f12).nb f13).nb f14).nb f15).nb f16).nb f17).nb f18).nb f19).nb f20).nb f21).nb f22).nb f23).nb f24).nb f25).nb f26).nb f27).nb f28).nb f29).nb f30).nb f31).nb f32).nb f33).nb f34).nb f35).nb f36).nb f37)
end Go.Proofs.Ytbgfebhhejlakaa.Spec
