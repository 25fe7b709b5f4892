/- Numbers by limbs: shifts, and quotients by one limb, walked. -/
import Derived.Test.YtbgfebhhejlakaaNat4
set_option linter.unusedVariables false
set_option linter.unusedSimpArgs false
namespace Go.Proofs.Ytbgfebhhejlakaa.Spec
open Go Go.RowKit Go.Proofs Go.Proofs.Ytbgfebhhejlakaa.Eng Go.Proofs.Ytbgfebhhejlakaa.Code Go.Proofs.Ytbgfebhhejlakaa.Big
set_option maxRecDepth 100000
attribute [local irreducible] callK S.W opsW scrW

theorem low_shl {a : Int} {s : Nat} (ha : 0 ≤ a) (hs : s < 32) : ∃ z : Int, 0 ≤ z ∧ (a * 2 ^ s) % 4294967296 = z * 2 ^ s ∧ z * 2 ^ s + 2 ^ s ≤ 4294967296 := by
  have hp : (0 : Int) < 2 ^ s := p2_pos s
  have hq : (0 : Int) < 2 ^ (32 - s) := p2_pos (32 - s)
  have e : (4294967296 : Int) = 2 ^ s * 2 ^ (32 - s) := by rw [← Int.pow_add, show s + (32 - s) = 32 by omega]; rfl
  have h1 := Int.emod_nonneg a (show (2 : Int) ^ (32 - s) ≠ 0 by omega)
  have h2 := Int.emod_lt_of_pos a hq
  refine ⟨a % 2 ^ (32 - s), h1, ?_, ?_⟩
  · rw [e, Int.mul_comm a, Int.mul_emod_mul_of_pos _ _ hp, Int.mul_comm]
  · have := Int.mul_le_mul_of_nonneg_right (show a % 2 ^ (32 - s) + 1 ≤ 2 ^ (32 - s) by omega) (show (0 : Int) ≤ 2 ^ s by omega)
    rw [e]
    grind
theorem shl_bd {a : Int} {s : Nat} (ha : 0 ≤ a ∧ a < 4294967296) (hs : s < 32) : 0 ≤ a * 2 ^ s ∧ a * 2 ^ s < 9223372036854775808 ∧ a * 2 ^ s / 4294967296 < 2 ^ s := by
  have hp : (0 : Int) < 2 ^ s := p2_pos s
  have h31 : (2 : Int) ^ s ≤ 2 ^ 31 := p2_mono (by omega)
  have e31 : (2 : Int) ^ 31 = 2147483648 := rfl
  refine ⟨Int.mul_nonneg ha.1 (by omega), ?_, ?_⟩
  · have := Int.mul_le_mul (show a ≤ 4294967295 by omega) (show (2 : Int) ^ s ≤ 2147483648 by omega) (by omega) (by omega)
    omega
  · apply Int.ediv_lt_of_lt_mul (by decide)
    have := Int.mul_lt_mul_of_pos_right ha.2 hp
    omega
set_option maxHeartbeats 1000000 in
theorem shifted_spec {w : World} {A : Option Addr} {n c s : Nat} {l : List Int} (hn : l.length = n) (hl : Rd w A (nums .u32 l)) (hL : Lim l) (hn' : n ≤ 1099511627776) (hs : s < 32) (K : Value → World → Prop)
    (hK : ∀ o w', Blk w' w.heap.size (nums .u32 o) → o.length = n + 1 → Lim o → val o = val l * 2 ^ s → Fr w w' nob → K (.slice (some ⟨w.heap.size, 0, none⟩) (n + 1) (n + 1)) w') : callK Try.prog 72 [.slice A n c, .int .i64 s] w K := by
  refine call_of Try.func72 Code.h72 (by simp [Code.c72]) ?_
  subst hn
  have hp : (0 : Int) < 2 ^ s := p2_pos s
  have eN : ((l.length : Int) + 1).toNat = l.length + 1 := by omega
  simp (disch := omega) only [EO, ↓EP, EQ, EM, ↓reduceIte, Int.reduceAdd, Int.reduceEq, Int.reduceLE, Int.reduceLT, Int.reduceMul, Int.reduceNeg, Int.reducePow, Int.reduceSub, Int.reduceToNat, Nat.reduceAdd, Nat.reduceEqDiff, Nat.reduceLT, Nat.reduceLeDiff, Nat.reduceMul, reduceCtorEq, Code.c72]
  refine al_k (nums .u32 (List.replicate (l.length + 1) 0)) (by rw [madeCells_list, nums_replicate, eN]) fun w1 n1 => ?_
  simp (disch := omega) only [EO, ↓EP, EQ, EM, ↓reduceIte, Int.reduceAdd, Int.reduceEq, Int.reduceLE, Int.reduceLT, Int.reduceMul, Int.reduceNeg, Int.reducePow, Int.reduceSub, Int.reduceToNat, Nat.reduceAdd, Nat.reduceEqDiff, Nat.reduceLT, Nat.reduceLeDiff, Nat.reduceMul, reduceCtorEq]
  refine loop_inv (fun t ρ w2 => ∃ (k : Nat) (o : List Int), ρ 14 = .int .i64 k ∧ k ≤ l.length ∧ t = l.length - k ∧ Blk w2 w.heap.size (nums .u32 o) ∧ o.length = l.length + 1 ∧ Lim o ∧ at' o k < 2 ^ s ∧ val (o.take k) + at' o k * pw k = val (l.take k) * 2 ^ s ∧ Fr w w2 nob) _
    ⟨0, _, by simp (disch := omega) only [EO, ↓EP, EQ, EM, ↓reduceIte, Int.reduceAdd, Int.reduceEq, Int.reduceLE, Int.reduceLT, Int.reduceMul, Int.reduceNeg, Int.reducePow, Int.reduceSub, Int.reduceToNat, Nat.reduceAdd, Nat.reduceEqDiff, Nat.reduceLT, Nat.reduceLeDiff, Nat.reduceMul, reduceCtorEq], by omega, rfl, n1.blk, by simp, Lim.zeros _, by rw [at_zeros]; exact hp, by rw [at_zeros]; simp [val_nil], n1.fr nob⟩ ?_
  rintro t ρ w2 hf ⟨k, o, h14, hk, rfl, hB, ho, hO, hlt, hv, f2⟩ N hN
  have q0 : ρ 0 = .slice A l.length c := by rw [hf 0 rfl]; simp (disch := omega) only [EO, ↓EP, EQ, EM, ↓reduceIte, Int.reduceAdd, Int.reduceEq, Int.reduceLE, Int.reduceLT, Int.reduceMul, Int.reduceNeg, Int.reducePow, Int.reduceSub, Int.reduceToNat, Nat.reduceAdd, Nat.reduceEqDiff, Nat.reduceLT, Nat.reduceLeDiff, Nat.reduceMul, reduceCtorEq]
  have q1 : ρ 1 = .int .i64 s := by rw [hf 1 rfl]; simp (disch := omega) only [EO, ↓EP, EQ, EM, ↓reduceIte, Int.reduceAdd, Int.reduceEq, Int.reduceLE, Int.reduceLT, Int.reduceMul, Int.reduceNeg, Int.reducePow, Int.reduceSub, Int.reduceToNat, Nat.reduceAdd, Nat.reduceEqDiff, Nat.reduceLT, Nat.reduceLeDiff, Nat.reduceMul, reduceCtorEq]
  have q5 : ρ 5 = .slice (some ⟨w.heap.size, 0, none⟩) (l.length + 1) (l.length + 1) := by rw [hf 5 rfl]; simp (disch := omega) only [EO, ↓EP, EQ, EM, ↓reduceIte, Int.reduceAdd, Int.reduceEq, Int.reduceLE, Int.reduceLT, Int.reduceMul, Int.reduceNeg, Int.reducePow, Int.reduceSub, Int.reduceToNat, Nat.reduceAdd, Nat.reduceEqDiff, Nat.reduceLT, Nat.reduceLeDiff, Nat.reduceMul, reduceCtorEq, eN]
  have q13 : ρ 13 = .int .i64 l.length := by rw [hf 13 rfl]; simp (disch := omega) only [EO, ↓EP, EQ, EM, ↓reduceIte, Int.reduceAdd, Int.reduceEq, Int.reduceLE, Int.reduceLT, Int.reduceMul, Int.reduceNeg, Int.reducePow, Int.reduceSub, Int.reduceToNat, Nat.reduceAdd, Nat.reduceEqDiff, Nat.reduceLT, Nat.reduceLeDiff, Nat.reduceMul, reduceCtorEq]
  clear hf
  by_cases hkl : (k : Int) < (l.length : Int)
  · obtain ⟨p, rfl, _, hp'⟩ := (hl.nb f2).get (by rw [nums_length]; omega)
    have cp := hp'.numN (j := k) (by omega)
    have co := hB.numN (j := k) (by omega)
    have bx := hL.at k
    have bo := hO.at k
    obtain ⟨h1, h2, h3⟩ := shl_bd bx hs
    obtain ⟨z, hz0, hz, hz2⟩ := low_shl (s := s) bx.1 hs
    have em : min s 64 = s := by omega
    have eor : bits .or .u32 (at' o k) (at' l k * 2 ^ s % 4294967296) = z * 2 ^ s + at' o k := by
      rw [hz]; exact or32_add bo.1 hlt hz0 (by omega)
    have e1 := val_take_succ' l k
    have hdm := Int.mul_ediv_add_emod (at' l k * 2 ^ s) 4294967296
    simp (disch := omega) only [wu64, wu32, wu8, fdiv_nn, EO, ↓EP, EQ, EM, ↓reduceIte, Int.reduceAdd, Int.reduceEq, Int.reduceLE, Int.reduceLT, Int.reduceMul, Int.reduceNeg, Int.reducePow, Int.reduceSub, Int.reduceToNat, Nat.reduceAdd, Nat.reduceEqDiff, Nat.reduceLT, Nat.reduceLeDiff, Nat.reduceMul, reduceCtorEq, h14, q0, q1, q5, q13, cp, co, em, wu32_mod, eor]
    refine st_num hB (by omega) fun w4 p4 => ?_
    have hd : at' l k * 2 ^ s / 4294967296 % 4294967296 = at' l k * 2 ^ s / 4294967296 := by omega
    simp (disch := omega) only [wu64, wu32, wu8, fdiv_nn, EO, ↓EP, EQ, EM, ↓reduceIte, Int.reduceAdd, Int.reduceEq, Int.reduceLE, Int.reduceLT, Int.reduceMul, Int.reduceNeg, Int.reducePow, Int.reduceSub, Int.reduceToNat, Nat.reduceAdd, Nat.reduceEqDiff, Nat.reduceLT, Nat.reduceLeDiff, Nat.reduceMul, reduceCtorEq, h14, q5, show ((k : Int) + 1).toNat = k + 1 by omega, wu32_mod, hd]
    have hl4 : (o.set k (z * 2 ^ s + at' o k)).length = l.length + 1 := by rw [List.length_set]; exact ho
    refine st_num p4.blk (by omega) fun w5 p5 => ?_
    simp (disch := omega) only [wu64, wu32, wu8, fdiv_nn, EO, ↓EP, EQ, EM, ↓reduceIte, Int.reduceAdd, Int.reduceEq, Int.reduceLE, Int.reduceLT, Int.reduceMul, Int.reduceNeg, Int.reducePow, Int.reduceSub, Int.reduceToNat, Nat.reduceAdd, Nat.reduceEqDiff, Nat.reduceLT, Nat.reduceLeDiff, Nat.reduceMul, reduceCtorEq, h14]
    have hzs : 0 ≤ z * 2 ^ s := Int.mul_nonneg hz0 (by omega)
    refine hN (l.length - (k + 1)) _ _ (by omega) ⟨k + 1, _, by simp (disch := omega) only [EO, ↓EP, EQ, EM, ↓reduceIte, Int.reduceAdd, Int.reduceEq, Int.reduceLE, Int.reduceLT, Int.reduceMul, Int.reduceNeg, Int.reducePow, Int.reduceSub, Int.reduceToNat, Nat.reduceAdd, Nat.reduceEqDiff, Nat.reduceLT, Nat.reduceLeDiff, Nat.reduceMul, reduceCtorEq, h14, Int.natCast_add], by omega, rfl, p5.blk, by rw [List.length_set]; exact hl4, (hO.set _ (by omega) (by omega)).set _ (by omega) (by omega), ?_, ?_, (f2.own p4.fr fun x e => by omega).own p5.fr fun x e => by omega⟩
    · rw [at_setN (by omega)]; exact h3
    · rw [at_setN (by omega), take_set, val_take_set (by omega), e1, pw_succ]
      grind
  · have hk : k = l.length := by omega
    subst hk
    simp (disch := omega) only [EO, ↓EP, EQ, EM, ↓reduceIte, Int.reduceAdd, Int.reduceEq, Int.reduceLE, Int.reduceLT, Int.reduceMul, Int.reduceNeg, Int.reducePow, Int.reduceSub, Int.reduceToNat, Nat.reduceAdd, Nat.reduceEqDiff, Nat.reduceLT, Nat.reduceLeDiff, Nat.reduceMul, reduceCtorEq, h14, q5, q13]
    refine hK o w2 hB ho hO ?_ f2
    rw [← val_take_all (l := o) (n := l.length + 1) (by omega), val_take_succ' o l.length, hv, List.take_length]

theorem div32_spec (hi lo y : Int) (hh : 0 ≤ hi ∧ hi < y) (hl : 0 ≤ lo ∧ lo < 4294967296) (hy : y < 4294967296) (w : World) (K : Value → World → Prop)
    (hK : ∀ n, K (.tuple #[.int .u32 ((hi * 4294967296 + lo) / y), .int .u32 ((hi * 4294967296 + lo) % y)]) (w.drewN n)) : callK Try.prog 77 [.int .u32 hi, .int .u32 lo, .int .u32 y] w K := by
  refine call_of Try.func77 Code.h77 (by simp [Code.c77]) ?_
  have e := or_shl (a := hi) (b := lo) (by omega) (by omega) hl.1 hl.2
  have h1 : (hi * 4294967296 + lo) / y < 4294967296 := by
    apply Int.ediv_lt_of_lt_mul (by omega)
    have := Int.mul_le_mul_of_nonneg_right (show hi + 1 ≤ y by omega) (show (0 : Int) ≤ 4294967296 by decide)
    omega
  have h2 := Int.ediv_nonneg (show 0 ≤ hi * 4294967296 + lo by omega) (show 0 ≤ y by omega)
  have h3 := Int.emod_nonneg (hi * 4294967296 + lo) (show y ≠ 0 by omega)
  have h4 := Int.emod_lt_of_pos (hi * 4294967296 + lo) (show 0 < y by omega)
  simp (disch := omega) only [wu64, wu32, wu8, fdiv_nn, EO, ↓EP, EQ, EM, ↓reduceIte, Int.reduceAdd, Int.reduceEq, Int.reduceLE, Int.reduceLT, Int.reduceMul, Int.reduceNeg, Int.reducePow, Int.reduceSub, Int.reduceToNat, Nat.reduceAdd, Nat.reduceEqDiff, Nat.reduceLT, Nat.reduceLeDiff, Nat.reduceMul, reduceCtorEq, Code.c77, W_join, e]
  exact hK
theorem val_drop_at (l : List Int) {k : Nat} (h : k < l.length) : val (l.drop k) = at' l k + 4294967296 * val (l.drop (k + 1)) := by
  rw [List.drop_eq_getElem_cons h, val_cons, at_get h]
theorem drop_set {l : List Int} {k : Nat} {x : Int} (h : k < l.length) : val ((l.set k x).drop k) = x + 4294967296 * val (l.drop (k + 1)) := by
  rw [val_drop_at _ (by rw [List.length_set]; exact h), at_setN h, List.drop_set_of_lt (by omega)]
set_option maxHeartbeats 1000000 in
theorem short_spec {w : World} {A : Option Addr} {n c : Nat} {l : List Int} {d : Int} (hn : l.length = n) (hl : Rd w A (nums .u32 l)) (hL : Lim l) (hn' : n ≤ 1099511627776) (hd : 0 < d ∧ d < 4294967296) (K : Value → World → Prop)
    (hK : ∀ u v w', Gw .u32 w w' u (limbs (val l / d)) → Gw .u32 w w' v (limbs (val l % d)) → (∀ b, blkOf u = some b → blkOf v ≠ some b) → K (.tuple #[u, v]) w') : callK Try.prog 70 [.slice A n c, .int .u32 d] w K := by
  refine call_of Try.func70 Code.h70 (by simp [Code.c70]) ?_
  subst hn
  simp (disch := omega) only [EO, ↓EP, EQ, EM, ↓reduceIte, Int.reduceAdd, Int.reduceEq, Int.reduceLE, Int.reduceLT, Int.reduceMul, Int.reduceNeg, Int.reducePow, Int.reduceSub, Int.reduceToNat, Nat.reduceAdd, Nat.reduceEqDiff, Nat.reduceLT, Nat.reduceLeDiff, Nat.reduceMul, reduceCtorEq, Code.c70]
  refine al_k (nums .u32 (List.replicate l.length 0)) (by rw [madeCells_list, nums_replicate]) fun w1 n1 => ?_
  simp (disch := omega) only [EO, ↓EP, EQ, EM, ↓reduceIte, Int.reduceAdd, Int.reduceEq, Int.reduceLE, Int.reduceLT, Int.reduceMul, Int.reduceNeg, Int.reducePow, Int.reduceSub, Int.reduceToNat, Nat.reduceAdd, Nat.reduceEqDiff, Nat.reduceLT, Nat.reduceLeDiff, Nat.reduceMul, reduceCtorEq]
  refine loop_inv (fun t ρ w2 => ∃ (o : List Int) (rs : Int), ρ 7 = .int .i64 ((t : Int) - 1) ∧ t ≤ l.length ∧ ρ 6 = .int .u32 rs ∧ 0 ≤ rs ∧ rs < d ∧ Blk w2 w.heap.size (nums .u32 o) ∧ o.length = l.length ∧ Lim o ∧ val (l.drop t) = val (o.drop t) * d + rs ∧ Fr w w2 nob) l.length
    ⟨_, 0, by simp (disch := omega) only [EO, ↓EP, EQ, EM, ↓reduceIte, Int.reduceAdd, Int.reduceEq, Int.reduceLE, Int.reduceLT, Int.reduceMul, Int.reduceNeg, Int.reducePow, Int.reduceSub, Int.reduceToNat, Nat.reduceAdd, Nat.reduceEqDiff, Nat.reduceLT, Nat.reduceLeDiff, Nat.reduceMul, reduceCtorEq], by omega, by simp (disch := omega) only [EO, ↓EP, EQ, EM, ↓reduceIte, Int.reduceAdd, Int.reduceEq, Int.reduceLE, Int.reduceLT, Int.reduceMul, Int.reduceNeg, Int.reducePow, Int.reduceSub, Int.reduceToNat, Nat.reduceAdd, Nat.reduceEqDiff, Nat.reduceLT, Nat.reduceLeDiff, Nat.reduceMul, reduceCtorEq], by omega, by omega, n1.blk, by simp, Lim.zeros _, by simp [val_nil], n1.fr nob⟩ ?_
  rintro t ρ w2 hf ⟨o, rs, h7, ht, h6, hr0, hr1, hB, ho, hO, hv, f2⟩ N hN
  have q0 : ρ 0 = .slice A l.length c := by rw [hf 0 rfl]; simp (disch := omega) only [EO, ↓EP, EQ, EM, ↓reduceIte, Int.reduceAdd, Int.reduceEq, Int.reduceLE, Int.reduceLT, Int.reduceMul, Int.reduceNeg, Int.reducePow, Int.reduceSub, Int.reduceToNat, Nat.reduceAdd, Nat.reduceEqDiff, Nat.reduceLT, Nat.reduceLeDiff, Nat.reduceMul, reduceCtorEq]
  have q1 : ρ 1 = .int .u32 d := by rw [hf 1 rfl]; simp (disch := omega) only [EO, ↓EP, EQ, EM, ↓reduceIte, Int.reduceAdd, Int.reduceEq, Int.reduceLE, Int.reduceLT, Int.reduceMul, Int.reduceNeg, Int.reducePow, Int.reduceSub, Int.reduceToNat, Nat.reduceAdd, Nat.reduceEqDiff, Nat.reduceLT, Nat.reduceLeDiff, Nat.reduceMul, reduceCtorEq]
  have q4 : ρ 4 = .slice (some ⟨w.heap.size, 0, none⟩) l.length l.length := by rw [hf 4 rfl]; simp (disch := omega) only [EO, ↓EP, EQ, EM, ↓reduceIte, Int.reduceAdd, Int.reduceEq, Int.reduceLE, Int.reduceLT, Int.reduceMul, Int.reduceNeg, Int.reducePow, Int.reduceSub, Int.reduceToNat, Nat.reduceAdd, Nat.reduceEqDiff, Nat.reduceLT, Nat.reduceLeDiff, Nat.reduceMul, reduceCtorEq]
  clear hf
  cases t with
  | succ k =>
    have e1 : ((k + 1 : Nat) : Int) - 1 = k := by omega
    rw [e1] at h7
    obtain ⟨p, rfl, _, hp⟩ := (hl.nb f2).get (by rw [nums_length]; omega)
    have cp := hp.numN (j := k) (by omega)
    have bx := hL.at k
    simp (disch := omega) only [EO, ↓EP, EQ, EM, ↓reduceIte, Int.reduceAdd, Int.reduceEq, Int.reduceLE, Int.reduceLT, Int.reduceMul, Int.reduceNeg, Int.reducePow, Int.reduceSub, Int.reduceToNat, Nat.reduceAdd, Nat.reduceEqDiff, Nat.reduceLT, Nat.reduceLeDiff, Nat.reduceMul, reduceCtorEq, h7, h6, q0, q1, q4, cp]
    refine div32_spec rs (at' l k) d ⟨hr0, hr1⟩ bx hd.2 _ _ fun m1 => ?_
    have h1 : (rs * 4294967296 + at' l k) / d < 4294967296 := by
      apply Int.ediv_lt_of_lt_mul (by omega)
      have := Int.mul_le_mul_of_nonneg_right (show rs + 1 ≤ d by omega) (show (0 : Int) ≤ 4294967296 by decide)
      omega
    have h2 := Int.ediv_nonneg (show 0 ≤ rs * 4294967296 + at' l k by omega) (show 0 ≤ d by omega)
    have h3 := Int.emod_nonneg (rs * 4294967296 + at' l k) (show d ≠ 0 by omega)
    have h4 := Int.emod_lt_of_pos (rs * 4294967296 + at' l k) (show 0 < d by omega)
    have h5 := Int.mul_ediv_add_emod (rs * 4294967296 + at' l k) d
    simp (disch := omega) only [EO, ↓EP, EQ, EM, ↓reduceIte, Int.reduceAdd, Int.reduceEq, Int.reduceLE, Int.reduceLT, Int.reduceMul, Int.reduceNeg, Int.reducePow, Int.reduceSub, Int.reduceToNat, Nat.reduceAdd, Nat.reduceEqDiff, Nat.reduceLT, Nat.reduceLeDiff, Nat.reduceMul, reduceCtorEq, h7, q4]
    refine st_num (hB.drewN m1) (by omega) fun w4 p4 => ?_
    simp (disch := omega) only [EO, ↓EP, EQ, EM, ↓reduceIte, Int.reduceAdd, Int.reduceEq, Int.reduceLE, Int.reduceLT, Int.reduceMul, Int.reduceNeg, Int.reducePow, Int.reduceSub, Int.reduceToNat, Nat.reduceAdd, Nat.reduceEqDiff, Nat.reduceLT, Nat.reduceLeDiff, Nat.reduceMul, reduceCtorEq, h7]
    refine hN k _ _ (by omega) ⟨_, _, by simp (disch := omega) only [EO, ↓EP, EQ, EM, ↓reduceIte, Int.reduceAdd, Int.reduceEq, Int.reduceLE, Int.reduceLT, Int.reduceMul, Int.reduceNeg, Int.reducePow, Int.reduceSub, Int.reduceToNat, Nat.reduceAdd, Nat.reduceEqDiff, Nat.reduceLT, Nat.reduceLeDiff, Nat.reduceMul, reduceCtorEq, h7], by omega, by simp (disch := omega) only [EO, ↓EP, EQ, EM, ↓reduceIte, Int.reduceAdd, Int.reduceEq, Int.reduceLE, Int.reduceLT, Int.reduceMul, Int.reduceNeg, Int.reducePow, Int.reduceSub, Int.reduceToNat, Nat.reduceAdd, Nat.reduceEqDiff, Nat.reduceLT, Nat.reduceLeDiff, Nat.reduceMul, reduceCtorEq], h3, h4, p4.blk, by rw [List.length_set]; exact ho, hO.set _ h2 h1, ?_, (f2.nb (Fr.drewN w2 m1 nob)).own p4.fr fun x e => by omega⟩
    rw [val_drop_at l (by omega), drop_set (by omega), hv]
    grind
  | zero =>
    simp (disch := omega) only [EO, ↓EP, EQ, EM, ↓reduceIte, Int.reduceAdd, Int.reduceEq, Int.reduceLE, Int.reduceLT, Int.reduceMul, Int.reduceNeg, Int.reducePow, Int.reduceSub, Int.reduceToNat, Nat.reduceAdd, Nat.reduceEqDiff, Nat.reduceLT, Nat.reduceLeDiff, Nat.reduceMul, reduceCtorEq, h7, h6, q4, Int.natCast_zero]
    rw [List.drop_zero, List.drop_zero] at hv
    have hv1 : val l / d = val o := by
      rw [hv, Int.mul_comm, Int.mul_add_ediv_left _ _ (by omega), Int.ediv_eq_zero_of_lt hr0 hr1, Int.add_zero]
    have hv2 : val l % d = rs := by
      rw [hv, Int.mul_comm, Int.mul_add_emod_self_left, Int.emod_eq_of_lt hr0 hr1]
    refine cut_spec ho (blk_rd hB) hO (Nat.le_refl _) (by omega) _ fun m hm he _ => ?_
    simp (disch := omega) only [EO, ↓EP, EQ, EM, ↓reduceIte, Int.reduceAdd, Int.reduceEq, Int.reduceLE, Int.reduceLT, Int.reduceMul, Int.reduceNeg, Int.reducePow, Int.reduceSub, Int.reduceToNat, Nat.reduceAdd, Nat.reduceEqDiff, Nat.reduceLT, Nat.reduceLeDiff, Nat.reduceMul, reduceCtorEq, h6]
    refine bsl1 fun w3 n3 => ?_
    simp (disch := omega) only [EO, ↓EP, EQ, EM, ↓reduceIte, Int.reduceAdd, Int.reduceEq, Int.reduceLE, Int.reduceLT, Int.reduceMul, Int.reduceNeg, Int.reducePow, Int.reduceSub, Int.reduceToNat, Nat.reduceAdd, Nat.reduceEqDiff, Nat.reduceLT, Nat.reduceLeDiff, Nat.reduceMul, reduceCtorEq]
    have L3 : Lim [rs] := Lim.mk (by omega) (by omega) Lim.nil
    refine cut_spec (n := 1) rfl n3.rdl L3 (Nat.le_refl _) (by omega) _ fun m2 hm2 he2 _ => ?_
    simp (disch := omega) only [EO, ↓EP, EQ, EM, ↓reduceIte, Int.reduceAdd, Int.reduceEq, Int.reduceLE, Int.reduceLT, Int.reduceMul, Int.reduceNeg, Int.reducePow, Int.reduceSub, Int.reduceToNat, Nat.reduceAdd, Nat.reduceEqDiff, Nat.reduceLT, Nat.reduceLeDiff, Nat.reduceMul, reduceCtorEq]
    have lt := hB.lt
    have f3 := f2.nb (n3.fr nob)
    refine hK _ _ _ (own_cut (hB.nb (n3.fr nob)) (Nat.le_refl _) f3 ho hm (by rw [he, hv1])) (own_cut n3.blk f2.size f3 rfl hm2 (by rw [he2, hv2, val_one])) fun b e1 e2 => ?_
    have h1 : w.heap.size = b := Option.some.inj e1
    have h2 : w2.heap.size = b := Option.some.inj e2
    omega
end Go.Proofs.Ytbgfebhhejlakaa.Spec
