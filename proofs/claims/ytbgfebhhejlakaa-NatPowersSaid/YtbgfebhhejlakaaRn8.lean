/- The document's numbers, walked: bits, bytes, small numbers. -/
import Derived.Test.YtbgfebhhejlakaaRn4
import Derived.Test.YtbgfebhhejlakaaNd3
set_option linter.unusedVariables false
set_option linter.unusedSimpArgs false
namespace Go.Proofs.Ytbgfebhhejlakaa.Spec
open Go Go.RowKit Go.Proofs Go.Proofs.Ytbgfebhhejlakaa.Eng Go.Proofs.Ytbgfebhhejlakaa.Code Go.Proofs.Ytbgfebhhejlakaa.Big
set_option maxRecDepth 100000
attribute [local irreducible] callK S.W opsW scrW

theorem rtrim_vw {w : World} {va : Value} {l : List Int} (ha : Vw .u32 w va l) (hL : Lim l) (h47 : l.length ≤ 4194304) (K : Value → World → Prop)
    (hK : ∀ v w', Gw .u32 w w' v (limbs (val l)) → K v w') : callK Try.prog 23 [va] w K := by
  have b1 := (val_bd hL).1
  refine call_of Try.func23 Code.h23 (by simp [Code.c23]) ?_
  simp (disch := omega) only [EO, ↓EP, EQ, EM, ↓reduceIte, Int.reduceAdd, Int.reduceEq, Int.reduceLE, Int.reduceLT, Int.reduceMul, Int.reduceNeg, Int.reducePow, Int.reduceSub, Int.reduceToNat, Nat.reduceAdd, Nat.reduceEqDiff, Nat.reduceLT, Nat.reduceLeDiff, Nat.reduceMul, reduceCtorEq, Code.c23]
  refine digits_vw ha hL h47 _ fun v1 w1 g1 => ?_
  have k1 := digs_len_of b1 (n := l.length) (val_bd hL).2
  simp (disch := omega) only [EO, ↓EP, EQ, EM, ↓reduceIte, Int.reduceAdd, Int.reduceEq, Int.reduceLE, Int.reduceLT, Int.reduceMul, Int.reduceNeg, Int.reducePow, Int.reduceSub, Int.reduceToNat, Nat.reduceAdd, Nat.reduceEqDiff, Nat.reduceLT, Nat.reduceLeDiff, Nat.reduceMul, reduceCtorEq]
  refine limbs_vw g1.vw (Dg.digs_lim _) (by omega) _ fun v2 w2 g2 => ?_
  rw [Dg.digs_val b1] at g2
  simp (disch := omega) only [EO, ↓EP, EQ, EM, ↓reduceIte, Int.reduceAdd, Int.reduceEq, Int.reduceLE, Int.reduceLT, Int.reduceMul, Int.reduceNeg, Int.reducePow, Int.reduceSub, Int.reduceToNat, Nat.reduceAdd, Nat.reduceEqDiff, Nat.reduceLT, Nat.reduceLeDiff, Nat.reduceMul, reduceCtorEq]
  exact hK v2 w2 (g2.from g1.fr)
theorem rsmall_spec {w : World} (n : Int) (h0 : 0 ≤ n) (h1 : n < 18446744073709551616) (K : Value → World → Prop)
    (hK : ∀ v w', Gw .u32 w w' v (limbs n) → K v w') : callK Try.prog 46 [.int .u64 n] w K := by
  refine call_of Try.func46 Code.h46 (by simp [Code.c46]) ?_
  simp (disch := omega) only [wu64, wu32, wu8, fdiv_nn, EO, ↓EP, EQ, EM, ↓reduceIte, Int.reduceAdd, Int.reduceEq, Int.reduceLE, Int.reduceLT, Int.reduceMul, Int.reduceNeg, Int.reducePow, Int.reduceSub, Int.reduceToNat, Nat.reduceAdd, Nat.reduceEqDiff, Nat.reduceLT, Nat.reduceLeDiff, Nat.reduceMul, reduceCtorEq, Code.c46, wu32_mod]
  refine bsl2 fun w1 n1 => ?_
  simp (disch := omega) only [EO, ↓EP, EQ, EM, ↓reduceIte, Int.reduceAdd, Int.reduceEq, Int.reduceLE, Int.reduceLT, Int.reduceMul, Int.reduceNeg, Int.reducePow, Int.reduceSub, Int.reduceToNat, Nat.reduceAdd, Nat.reduceEqDiff, Nat.reduceLT, Nat.reduceLeDiff, Nat.reduceMul, reduceCtorEq]
  refine rtrim_vw (n1.vw rfl) (Lim.mk (by omega) (by omega) (Lim.mk (by omega) (by omega) Lim.nil)) (by simp) _ fun v w2 g2 => ?_
  have e : val [n % 4294967296, n / 4294967296] = n := by rw [val_cons, val_one]; omega
  rw [e] at g2
  simp (disch := omega) only [EO, ↓EP, EQ, EM, ↓reduceIte, Int.reduceAdd, Int.reduceEq, Int.reduceLE, Int.reduceLT, Int.reduceMul, Int.reduceNeg, Int.reducePow, Int.reduceSub, Int.reduceToNat, Nat.reduceAdd, Nat.reduceEqDiff, Nat.reduceLT, Nat.reduceLeDiff, Nat.reduceMul, reduceCtorEq]
  exact hK v w2 (g2.from (n1.fr nob))
theorem and1 {x : Int} (h0 : 0 ≤ x) (h1 : x < 18446744073709551616) : bits .and .u64 x 1 = x % 2 := by
  rw [u64_and _ _ (by omega) (by omega) (by omega) (by omega)]
  have := Nat.and_two_pow_sub_one_eq_mod x.toNat 1
  rw [show (1 : Int).toNat = 2 ^ 1 - 1 by rfl, this]
  omega
set_option maxHeartbeats 1000000 in
theorem rbits_vw {w : World} {va : Value} {l : List Int} (ha : Vw .u32 w va l) (hL : Lim l) (h47 : l.length ≤ 4194304) (K : Value → World → Prop)
    (hK : ∀ w', Fr w w' nob → K (.int .i64 (bl (val l) : Int)) w') : callK Try.prog 25 [va] w K := by
  have b1 := (val_bd hL).1
  refine call_of Try.func25 Code.h25 (by simp [Code.c25]) ?_
  simp (disch := omega) only [EO, ↓EP, EQ, EM, ↓reduceIte, Int.reduceAdd, Int.reduceEq, Int.reduceLE, Int.reduceLT, Int.reduceMul, Int.reduceNeg, Int.reducePow, Int.reduceSub, Int.reduceToNat, Nat.reduceAdd, Nat.reduceEqDiff, Nat.reduceLT, Nat.reduceLeDiff, Nat.reduceMul, reduceCtorEq, Code.c25]
  refine digits_vw ha hL h47 _ fun v1 w1 g1 => ?_
  have k1 := digs_len_of b1 (n := l.length) (val_bd hL).2
  have DL := Dg.digs_lim (val l)
  have hdv := Dg.digs_val b1
  have hlt0 : val l < 2 ^ (16 * (Dg.digs (val l)).length) := by
    have := (Dg.val_bd DL).2
    rw [hdv, dpw_p2] at this
    exact this
  have qv := g1.vw
  have f1 := g1.fr
  generalize Dg.digs (val l) = d at qv k1 DL hdv hlt0
  clear g1
  obtain ⟨A, c, rfl, hc, hr⟩ := qv
  have e16 : (16 : Int) * (d.length : Int) = ((16 * d.length : Nat) : Int) := by omega
  simp (disch := omega) only [EO, ↓EP, EQ, EM, ↓reduceIte, Int.reduceAdd, Int.reduceEq, Int.reduceLE, Int.reduceLT, Int.reduceMul, Int.reduceNeg, Int.reducePow, Int.reduceSub, Int.reduceToNat, Nat.reduceAdd, Nat.reduceEqDiff, Nat.reduceLT, Nat.reduceLeDiff, Nat.reduceMul, reduceCtorEq, e16]
  refine loop_inv (fun t ρ w' => w' = w1 ∧ ρ 4 = .int .i64 ((t : Nat) : Int) ∧ t ≤ 16 * d.length ∧ val l < 2 ^ t) (16 * d.length) ⟨rfl, by simp (disch := omega) only [EO, ↓EP, EQ, EM, ↓reduceIte, Int.reduceAdd, Int.reduceEq, Int.reduceLE, Int.reduceLT, Int.reduceMul, Int.reduceNeg, Int.reducePow, Int.reduceSub, Int.reduceToNat, Nat.reduceAdd, Nat.reduceEqDiff, Nat.reduceLT, Nat.reduceLeDiff, Nat.reduceMul, reduceCtorEq, e16], Nat.le_refl _, hlt0⟩ ?_
  rintro t ρ w' hf ⟨rfl, h4, ht, hlt⟩ N hN
  have q3 : ρ 3 = .slice A d.length c := by rw [hf 3 rfl]; simp (disch := omega) only [EO, ↓EP, EQ, EM, ↓reduceIte, Int.reduceAdd, Int.reduceEq, Int.reduceLE, Int.reduceLT, Int.reduceMul, Int.reduceNeg, Int.reducePow, Int.reduceSub, Int.reduceToNat, Nat.reduceAdd, Nat.reduceEqDiff, Nat.reduceLT, Nat.reduceLeDiff, Nat.reduceMul, reduceCtorEq]
  clear hf
  cases t with
  | zero =>
    have e0 : val l = 0 := by rw [Int.pow_zero] at hlt; omega
    simp (disch := omega) only [EO, ↓EP, EQ, EM, ↓reduceIte, Int.reduceAdd, Int.reduceEq, Int.reduceLE, Int.reduceLT, Int.reduceMul, Int.reduceNeg, Int.reducePow, Int.reduceSub, Int.reduceToNat, Nat.reduceAdd, Nat.reduceEqDiff, Nat.reduceLT, Nat.reduceLeDiff, Nat.reduceMul, reduceCtorEq, h4, q3, Int.natCast_zero]
    have := hK w' f1
    rw [e0, bl_zero] at this
    exact this
  | succ k =>
    obtain ⟨p, rfl, _, hp⟩ := hr.get (by rw [nums_length]; omega)
    have cp := hp.numN (j := k / 16) (by omega)
    have bx := DL.at (k / 16 : Nat)
    have e1 : ((k + 1 : Nat) : Int) - 1 = (k : Int) := by omega
    have ei : ((k : Int) / 16).toNat = k / 16 := by omega
    have em : min ((k : Int) % 16).toNat 64 = k % 16 := by omega
    have hp2 : (0 : Int) < 2 ^ (k % 16) := p2_pos _
    have hpk : (0 : Int) < 2 ^ k := p2_pos _
    have hs0 := Int.ediv_nonneg bx.1 (show (0 : Int) ≤ 2 ^ (k % 16) by omega)
    have hs1 := Int.ediv_le_self (2 ^ (k % 16)) bx.1
    have ha1 := and1 hs0 (by omega)
    have hb := digit_bits DL (k / 16) (k % 16) 1 (by omega)
    have h21 : (2 : Int) ^ 1 = 2 := rfl
    rw [show 16 * (k / 16) + k % 16 = k by omega, hdv, h21] at hb
    have hq0 := Int.ediv_nonneg b1 (show (0 : Int) ≤ 2 ^ k by omega)
    have hq1 : val l / 2 ^ k < 2 := Int.ediv_lt_of_lt_mul hpk (by rw [Int.pow_succ] at hlt; omega)
    have hdm := Int.mul_ediv_add_emod (val l) (2 ^ k)
    have hm0 := Int.emod_nonneg (val l) (show (2 : Int) ^ k ≠ 0 by omega)
    have hm1 := Int.emod_lt_of_pos (val l) hpk
    rw [hb] at ha1
    by_cases h0 : val l / 2 ^ k % 2 = 0
    · have hz : val l / 2 ^ k = 0 := by omega
      rw [hz, Int.mul_zero] at hdm
      simp (disch := omega) only [wu64, wu32, wu8, fdiv_nn, EO, ↓EP, EQ, EM, ↓reduceIte, Int.reduceAdd, Int.reduceEq, Int.reduceLE, Int.reduceLT, Int.reduceMul, Int.reduceNeg, Int.reducePow, Int.reduceSub, Int.reduceToNat, Nat.reduceAdd, Nat.reduceEqDiff, Nat.reduceLT, Nat.reduceLeDiff, Nat.reduceMul, reduceCtorEq, h4, q3, e1, ei, em, cp, ha1, h0]
      exact hN k _ _ (by omega) ⟨rfl, by simp (disch := omega) only [EO, ↓EP, EQ, EM, ↓reduceIte, Int.reduceAdd, Int.reduceEq, Int.reduceLE, Int.reduceLT, Int.reduceMul, Int.reduceNeg, Int.reducePow, Int.reduceSub, Int.reduceToNat, Nat.reduceAdd, Nat.reduceEqDiff, Nat.reduceLT, Nat.reduceLeDiff, Nat.reduceMul, reduceCtorEq, h4, e1], by omega, by omega⟩
    · have hz : val l / 2 ^ k = 1 := by omega
      rw [hz, Int.mul_one] at hdm
      have hf0 : (val l / 2 ^ k % 2 = 0) = False := eq_false h0
      simp (disch := omega) only [wu64, wu32, wu8, fdiv_nn, EO, ↓EP, EQ, EM, ↓reduceIte, Int.reduceAdd, Int.reduceEq, Int.reduceLE, Int.reduceLT, Int.reduceMul, Int.reduceNeg, Int.reducePow, Int.reduceSub, Int.reduceToNat, Nat.reduceAdd, Nat.reduceEqDiff, Nat.reduceLT, Nat.reduceLeDiff, Nat.reduceMul, reduceCtorEq, h4, q3, e1, ei, em, cp, ha1, hf0]
      have := hK w' f1
      rw [bl_of (k := k) (by omega) hlt] at this
      exact this
set_option maxHeartbeats 1000000 in
theorem rfrombytes_vw {w : World} {va : Value} {l : List Int} (ha : Vw .u8 w va l) (hL : Byt l) (K : Value → World → Prop)
    (hK : ∀ v w', Gw .u32 w w' v (fbR l).1 → K (.tuple #[v, .int .i64 (fbR l).2]) w') : callK Try.prog 43 [va] w K := by
  obtain ⟨A, c, rfl, hc, hr⟩ := ha
  refine call_of Try.func43 Code.h43 (by simp [Code.c43]) ?_
  by_cases hbig : 2048 < l.length
  · have e : fbR l = ([], 3) := by unfold fbR; rw [if_pos hbig]
    rw [e] at hK
    simp (disch := omega) only [EO, ↓EP, EQ, EM, ↓reduceIte, Int.reduceAdd, Int.reduceEq, Int.reduceLE, Int.reduceLT, Int.reduceMul, Int.reduceNeg, Int.reducePow, Int.reduceSub, Int.reduceToNat, Nat.reduceAdd, Nat.reduceEqDiff, Nat.reduceLT, Nat.reduceLeDiff, Nat.reduceMul, reduceCtorEq, Code.c43]
    exact hK _ w (Gw.nil _ _)
  have e : fbR l = (limbs (bv l), 0) := by unfold fbR; rw [if_neg hbig]
  rw [e] at hK
  have hrl : l.reverse.length = l.length := List.length_reverse
  simp (disch := omega) only [EO, ↓EP, EQ, EM, ↓reduceIte, Int.reduceAdd, Int.reduceEq, Int.reduceLE, Int.reduceLT, Int.reduceMul, Int.reduceNeg, Int.reducePow, Int.reduceSub, Int.reduceToNat, Nat.reduceAdd, Nat.reduceEqDiff, Nat.reduceLT, Nat.reduceLeDiff, Nat.reduceMul, reduceCtorEq, Code.c43]
  refine loop_inv (fun t ρ w' => ∃ (k : Nat) (v : Value) (o : List Int), ρ 5 = .int .i64 ((l.length : Int) - 1 - 2 * k) ∧ 2 * k ≤ l.length + 1 ∧ t = l.length + 1 - 2 * k ∧ ρ 4 = v ∧ Gw .u64 w w' v o ∧ o.length = k ∧ o ++ m8 (l.reverse.drop (2 * k)) = m8 l.reverse) _
    ⟨0, _, [], by simp (disch := omega) only [EO, ↓EP, EQ, EM, ↓reduceIte, Int.reduceAdd, Int.reduceEq, Int.reduceLE, Int.reduceLT, Int.reduceMul, Int.reduceNeg, Int.reducePow, Int.reduceSub, Int.reduceToNat, Nat.reduceAdd, Nat.reduceEqDiff, Nat.reduceLT, Nat.reduceLeDiff, Nat.reduceMul, reduceCtorEq, Int.natCast_zero, Int.mul_zero, Int.sub_zero], by omega, rfl, by simp (disch := omega) only [EO, ↓EP, EQ, EM, ↓reduceIte, Int.reduceAdd, Int.reduceEq, Int.reduceLE, Int.reduceLT, Int.reduceMul, Int.reduceNeg, Int.reducePow, Int.reduceSub, Int.reduceToNat, Nat.reduceAdd, Nat.reduceEqDiff, Nat.reduceLT, Nat.reduceLeDiff, Nat.reduceMul, reduceCtorEq], Gw.nil _ _, rfl, rfl⟩ ?_
  rintro t ρ w' hf ⟨k, v, o, h5, hk, rfl, h4, g, ho, hmk⟩ N hN
  have q0 : ρ 0 = .slice A l.length c := by rw [hf 0 rfl]; simp (disch := omega) only [EO, ↓EP, EQ, EM, ↓reduceIte, Int.reduceAdd, Int.reduceEq, Int.reduceLE, Int.reduceLT, Int.reduceMul, Int.reduceNeg, Int.reducePow, Int.reduceSub, Int.reduceToNat, Nat.reduceAdd, Nat.reduceEqDiff, Nat.reduceLT, Nat.reduceLeDiff, Nat.reduceMul, reduceCtorEq]
  clear hf
  by_cases hkl : 0 ≤ (l.length : Int) - 1 - 2 * (k : Int)
  · obtain ⟨p, rfl, _, hp⟩ := (hr.nb g.fr).get (by rw [nums_length]; omega)
    have cp := hp.numN (j := l.length - 1 - 2 * k) (by omega)
    have bx := hL.at (l.length - 1 - 2 * k : Nat)
    have ei : ((l.length : Int) - 1 - 2 * (k : Int)).toNat = l.length - 1 - 2 * k := by omega
    have e2 : (l.length : Int) - 1 - 2 * (k : Int) - 2 = (l.length : Int) - 1 - 2 * ((k + 1 : Nat) : Int) := by omega
    have r0 := at_rev (l := l) (i := 2 * k) (by omega)
    by_cases hlast : 0 < (l.length : Int) - 1 - 2 * (k : Int)
    · have cp1 := hp.numN (j := l.length - 1 - (2 * k + 1)) (by omega)
      have by1 := hL.at (l.length - 1 - (2 * k + 1) : Nat)
      have e1 : ((l.length : Int) - 1 - 2 * (k : Int) - 1).toNat = l.length - 1 - (2 * k + 1) := by omega
      have r1 := at_rev (l := l) (i := 2 * k + 1) (by omega)
      have ed : l.reverse.drop (2 * k) = at' l (l.length - 1 - 2 * k : Nat) :: at' l (l.length - 1 - (2 * k + 1) : Nat) :: l.reverse.drop (2 * (k + 1)) := by
        rw [List.drop_eq_getElem_cons (by omega), List.drop_eq_getElem_cons (by omega), ← at_get (by omega), ← at_get (by omega), r0, r1]
        rfl
      simp (disch := omega) only [wu64, wu32, wu8, fdiv_nn, EO, ↓EP, EQ, EM, ↓reduceIte, Int.reduceAdd, Int.reduceEq, Int.reduceLE, Int.reduceLT, Int.reduceMul, Int.reduceNeg, Int.reducePow, Int.reduceSub, Int.reduceToNat, Nat.reduceAdd, Nat.reduceEqDiff, Nat.reduceLT, Nat.reduceLeDiff, Nat.reduceMul, reduceCtorEq, W_join, h5, h4, q0, cp, cp1, ei, e1]
      refine bsl1 fun w2 n2 => ?_
      simp (disch := omega) only [wu64, wu32, wu8, fdiv_nn, EO, ↓EP, EQ, EM, ↓reduceIte, Int.reduceAdd, Int.reduceEq, Int.reduceLE, Int.reduceLT, Int.reduceMul, Int.reduceNeg, Int.reducePow, Int.reduceSub, Int.reduceToNat, Nat.reduceAdd, Nat.reduceEqDiff, Nat.reduceLT, Nat.reduceLeDiff, Nat.reduceMul, reduceCtorEq, h4]
      refine app_num (g.sl.nb (n2.fr nob)) rfl n2.rdl (by simp; omega) (by omega) fun v4 w4 a4 => ?_
      have g4 := (g.step (n2.fr nob)).apd a4
      simp (disch := omega) only [wu64, wu32, wu8, fdiv_nn, EO, ↓EP, EQ, EM, ↓reduceIte, Int.reduceAdd, Int.reduceEq, Int.reduceLE, Int.reduceLT, Int.reduceMul, Int.reduceNeg, Int.reducePow, Int.reduceSub, Int.reduceToNat, Nat.reduceAdd, Nat.reduceEqDiff, Nat.reduceLT, Nat.reduceLeDiff, Nat.reduceMul, reduceCtorEq, h5, e2]
      refine hN (l.length + 1 - 2 * (k + 1)) _ _ (by omega) ⟨k + 1, v4, _, by simp (disch := omega) only [wu64, wu32, wu8, fdiv_nn, EO, ↓EP, EQ, EM, ↓reduceIte, Int.reduceAdd, Int.reduceEq, Int.reduceLE, Int.reduceLT, Int.reduceMul, Int.reduceNeg, Int.reducePow, Int.reduceSub, Int.reduceToNat, Nat.reduceAdd, Nat.reduceEqDiff, Nat.reduceLT, Nat.reduceLeDiff, Nat.reduceMul, reduceCtorEq, h5, e2], by omega, rfl, by simp (disch := omega) only [EO, ↓EP, EQ, EM, ↓reduceIte, Int.reduceAdd, Int.reduceEq, Int.reduceLE, Int.reduceLT, Int.reduceMul, Int.reduceNeg, Int.reducePow, Int.reduceSub, Int.reduceToNat, Nat.reduceAdd, Nat.reduceEqDiff, Nat.reduceLT, Nat.reduceLeDiff, Nat.reduceMul, reduceCtorEq], g4, by simp [ho], ?_⟩
      rw [← hmk, ed, m8, List.append_assoc, List.singleton_append]
      congr 2
      omega
    · have ed : l.reverse.drop (2 * k) = [at' l (l.length - 1 - 2 * k : Nat)] := by
        rw [List.drop_eq_getElem_cons (by omega), ← at_get (by omega), List.drop_of_length_le (by omega), r0]
      have ed2 : l.reverse.drop (2 * (k + 1)) = [] := List.drop_of_length_le (by omega)
      simp (disch := omega) only [wu64, wu32, wu8, fdiv_nn, EO, ↓EP, EQ, EM, ↓reduceIte, Int.reduceAdd, Int.reduceEq, Int.reduceLE, Int.reduceLT, Int.reduceMul, Int.reduceNeg, Int.reducePow, Int.reduceSub, Int.reduceToNat, Nat.reduceAdd, Nat.reduceEqDiff, Nat.reduceLT, Nat.reduceLeDiff, Nat.reduceMul, reduceCtorEq, W_join, h5, h4, q0, cp, ei]
      refine bsl1 fun w2 n2 => ?_
      simp (disch := omega) only [wu64, wu32, wu8, fdiv_nn, EO, ↓EP, EQ, EM, ↓reduceIte, Int.reduceAdd, Int.reduceEq, Int.reduceLE, Int.reduceLT, Int.reduceMul, Int.reduceNeg, Int.reducePow, Int.reduceSub, Int.reduceToNat, Nat.reduceAdd, Nat.reduceEqDiff, Nat.reduceLT, Nat.reduceLeDiff, Nat.reduceMul, reduceCtorEq, h4]
      refine app_num (g.sl.nb (n2.fr nob)) rfl n2.rdl (by simp; omega) (by omega) fun v4 w4 a4 => ?_
      have g4 := (g.step (n2.fr nob)).apd a4
      simp (disch := omega) only [wu64, wu32, wu8, fdiv_nn, EO, ↓EP, EQ, EM, ↓reduceIte, Int.reduceAdd, Int.reduceEq, Int.reduceLE, Int.reduceLT, Int.reduceMul, Int.reduceNeg, Int.reducePow, Int.reduceSub, Int.reduceToNat, Nat.reduceAdd, Nat.reduceEqDiff, Nat.reduceLT, Nat.reduceLeDiff, Nat.reduceMul, reduceCtorEq, h5, e2]
      refine hN (l.length + 1 - 2 * (k + 1)) _ _ (by omega) ⟨k + 1, v4, _, by simp (disch := omega) only [wu64, wu32, wu8, fdiv_nn, EO, ↓EP, EQ, EM, ↓reduceIte, Int.reduceAdd, Int.reduceEq, Int.reduceLE, Int.reduceLT, Int.reduceMul, Int.reduceNeg, Int.reducePow, Int.reduceSub, Int.reduceToNat, Nat.reduceAdd, Nat.reduceEqDiff, Nat.reduceLT, Nat.reduceLeDiff, Nat.reduceMul, reduceCtorEq, h5, e2], by omega, rfl, by simp (disch := omega) only [EO, ↓EP, EQ, EM, ↓reduceIte, Int.reduceAdd, Int.reduceEq, Int.reduceLE, Int.reduceLT, Int.reduceMul, Int.reduceNeg, Int.reducePow, Int.reduceSub, Int.reduceToNat, Nat.reduceAdd, Nat.reduceEqDiff, Nat.reduceLT, Nat.reduceLeDiff, Nat.reduceMul, reduceCtorEq], g4, by simp [ho], ?_⟩
      rw [← hmk, ed, ed2]; simp [m8]
  · have e0 : l.reverse.drop (2 * k) = [] := List.drop_of_length_le (by omega)
    rw [e0, m8, List.append_nil] at hmk
    have hlen := m8_len l.reverse
    simp (disch := omega) only [EO, ↓EP, EQ, EM, ↓reduceIte, Int.reduceAdd, Int.reduceEq, Int.reduceLE, Int.reduceLT, Int.reduceMul, Int.reduceNeg, Int.reducePow, Int.reduceSub, Int.reduceToNat, Nat.reduceAdd, Nat.reduceEqDiff, Nat.reduceLT, Nat.reduceLeDiff, Nat.reduceMul, reduceCtorEq, h5, h4, q0]
    refine limbs_vw g.vw (by rw [hmk]; exact m8_lim hL.rev) (by omega) _ fun v5 w5 g5 => ?_
    rw [hmk, m8_val] at g5
    simp (disch := omega) only [EO, ↓EP, EQ, EM, ↓reduceIte, Int.reduceAdd, Int.reduceEq, Int.reduceLE, Int.reduceLT, Int.reduceMul, Int.reduceNeg, Int.reducePow, Int.reduceSub, Int.reduceToNat, Nat.reduceAdd, Nat.reduceEqDiff, Nat.reduceLT, Nat.reduceLeDiff, Nat.reduceMul, reduceCtorEq]
    exact hK v5 w5 (g5.from g.fr)
set_option maxHeartbeats 1000000 in
theorem rbytes_vw {w : World} {va : Value} {l : List Int} (n : Int) (ha : Vw .u32 w va l) (hL : Lim l) (hn : -9223372036854775808 ≤ n ∧ n ≤ 9223372036854775807) (K : Value → World → Prop)
    (hK : ∀ v w', Gw .u8 w w' v (tbR l n).1 → K (.tuple #[v, .int .i64 (tbR l n).2]) w') : callK Try.prog 44 [va, .int .i64 n] w K := by
  have b1 := (val_bd hL).1
  obtain ⟨A, c, ea, hc, hr⟩ := id ha
  refine call_of Try.func44 Code.h44 (by simp [Code.c44]) ?_
  by_cases h512 : (512 : Int) < (l.length : Int)
  · have e : tbR l n = ([], 3) := by unfold tbR; rw [if_pos (by omega)]
    rw [e] at hK
    simp (disch := omega) only [EO, ↓EP, EQ, EM, ↓reduceIte, Int.reduceAdd, Int.reduceEq, Int.reduceLE, Int.reduceLT, Int.reduceMul, Int.reduceNeg, Int.reducePow, Int.reduceSub, Int.reduceToNat, Nat.reduceAdd, Nat.reduceEqDiff, Nat.reduceLT, Nat.reduceLeDiff, Nat.reduceMul, reduceCtorEq, Code.c44, ea]
    exact hK _ w (Gw.nil _ _)
  by_cases hneg : n < 0
  · have e : tbR l n = ([], 1) := by unfold tbR; rw [if_neg (by omega), if_pos (by omega)]
    rw [e] at hK
    simp (disch := omega) only [EO, ↓EP, EQ, EM, ↓reduceIte, Int.reduceAdd, Int.reduceEq, Int.reduceLE, Int.reduceLT, Int.reduceMul, Int.reduceNeg, Int.reducePow, Int.reduceSub, Int.reduceToNat, Nat.reduceAdd, Nat.reduceEqDiff, Nat.reduceLT, Nat.reduceLeDiff, Nat.reduceMul, reduceCtorEq, Code.c44, ea]
    exact hK _ w (Gw.nil _ _)
  by_cases hbig : 2048 < n
  · have e : tbR l n = ([], 1) := by unfold tbR; rw [if_neg (by omega), if_pos (by omega)]
    rw [e] at hK
    simp (disch := omega) only [EO, ↓EP, EQ, EM, ↓reduceIte, Int.reduceAdd, Int.reduceEq, Int.reduceLE, Int.reduceLT, Int.reduceMul, Int.reduceNeg, Int.reducePow, Int.reduceSub, Int.reduceToNat, Nat.reduceAdd, Nat.reduceEqDiff, Nat.reduceLT, Nat.reduceLeDiff, Nat.reduceMul, reduceCtorEq, Code.c44, ea]
    exact hK _ w (Gw.nil _ _)
  simp (disch := omega) only [EO, ↓EP, EQ, EM, ↓reduceIte, Int.reduceAdd, Int.reduceEq, Int.reduceLE, Int.reduceLT, Int.reduceMul, Int.reduceNeg, Int.reducePow, Int.reduceSub, Int.reduceToNat, Nat.reduceAdd, Nat.reduceEqDiff, Nat.reduceLT, Nat.reduceLeDiff, Nat.reduceMul, reduceCtorEq, Code.c44, ea]
  try rw [← ea]
  refine digits_vw ha hL (by omega) _ fun v1 w1 g1 => ?_
  simp (disch := omega) only [EO, ↓EP, EQ, EM, ↓reduceIte, Int.reduceAdd, Int.reduceEq, Int.reduceLE, Int.reduceLT, Int.reduceMul, Int.reduceNeg, Int.reducePow, Int.reduceSub, Int.reduceToNat, Nat.reduceAdd, Nat.reduceEqDiff, Nat.reduceLT, Nat.reduceLeDiff, Nat.reduceMul, reduceCtorEq]
  refine rbits_vw (ha.nb g1.fr) hL (by omega) _ fun w2 f2 => ?_
  have f02 := g1.fr.nb f2
  have hbl : bl (val l) ≤ 32 * 512 := (bl_le b1).2 (by
    have := (val_bd hL).2
    have := pw_le (show l.length ≤ 512 by omega)
    rw [← pw_p2]; omega)
  by_cases hsm : 8 * n < (bl (val l) : Int)
  · have e : tbR l n = ([], 3) := by unfold tbR; rw [if_neg (by omega), if_neg (by omega), if_pos (by omega)]
    rw [e] at hK
    simp (disch := omega) only [EO, ↓EP, EQ, EM, ↓reduceIte, Int.reduceAdd, Int.reduceEq, Int.reduceLE, Int.reduceLT, Int.reduceMul, Int.reduceNeg, Int.reducePow, Int.reduceSub, Int.reduceToNat, Nat.reduceAdd, Nat.reduceEqDiff, Nat.reduceLT, Nat.reduceLeDiff, Nat.reduceMul, reduceCtorEq]
    exact hK _ w2 ((Gw.nil _ _).from f02)
  have e : tbR l n = (bvs n.toNat (val l), 0) := by unfold tbR; rw [if_neg (by omega), if_neg (by omega), if_neg (by omega)]
  rw [e] at hK
  have qN : ∃ N : Nat, n = N := ⟨n.toNat, by omega⟩
  obtain ⟨N, rfl⟩ := qN
  rw [Int.toNat_natCast] at hK
  clear e
  have hv2 := g1.vw.nb f2
  have DL := Dg.digs_lim (val l)
  have hdv := Dg.digs_val b1
  have k1 := digs_len_of b1 (n := l.length) (val_bd hL).2
  simp (disch := omega) only [EO, ↓EP, EQ, EM, ↓reduceIte, Int.reduceAdd, Int.reduceEq, Int.reduceLE, Int.reduceLT, Int.reduceMul, Int.reduceNeg, Int.reducePow, Int.reduceSub, Int.reduceToNat, Nat.reduceAdd, Nat.reduceEqDiff, Nat.reduceLT, Nat.reduceLeDiff, Nat.reduceMul, reduceCtorEq]
  refine al_k (nums .u8 (List.replicate N 0)) (by rw [madeCells_list, nums_replicate]) fun w3 n3 => ?_
  have sz1 := f02.size
  have f3 := f02.nb (n3.fr nob)
  have hv3 := hv2.nb (n3.fr nob)
  simp (disch := omega) only [EO, ↓EP, EQ, EM, ↓reduceIte, Int.reduceAdd, Int.reduceEq, Int.reduceLE, Int.reduceLT, Int.reduceMul, Int.reduceNeg, Int.reducePow, Int.reduceSub, Int.reduceToNat, Nat.reduceAdd, Nat.reduceEqDiff, Nat.reduceLT, Nat.reduceLeDiff, Nat.reduceMul, reduceCtorEq]
  refine loop_inv (fun t ρ w' => ∃ (k : Nat) (o : List Int), ρ 8 = .int .i64 k ∧ k ≤ N ∧ t = N - k ∧ Blk w' w2.heap.size (nums .u8 o) ∧ o.length = N ∧ (∀ i, i < k → at' o (N - 1 - i : Nat) = val l / 256 ^ i % 256) ∧ Fr w w' nob ∧ Fr w3 w' (fun b => b = w2.heap.size)) _
    ⟨0, _, by simp (disch := omega) only [EO, ↓EP, EQ, EM, ↓reduceIte, Int.reduceAdd, Int.reduceEq, Int.reduceLE, Int.reduceLT, Int.reduceMul, Int.reduceNeg, Int.reducePow, Int.reduceSub, Int.reduceToNat, Nat.reduceAdd, Nat.reduceEqDiff, Nat.reduceLT, Nat.reduceLeDiff, Nat.reduceMul, reduceCtorEq], by omega, rfl, n3.blk, by simp, fun i h => by omega, f3, Fr.refl _ _⟩ ?_
  rintro t ρ w4 hf ⟨k, o, h8, hk, rfl, hB, ho, hset, f4, f34⟩ M hM
  have q1 : ρ 1 = .int .i64 N := by rw [hf 1 rfl]; simp (disch := omega) only [EO, ↓EP, EQ, EM, ↓reduceIte, Int.reduceAdd, Int.reduceEq, Int.reduceLE, Int.reduceLT, Int.reduceMul, Int.reduceNeg, Int.reducePow, Int.reduceSub, Int.reduceToNat, Nat.reduceAdd, Nat.reduceEqDiff, Nat.reduceLT, Nat.reduceLeDiff, Nat.reduceMul, reduceCtorEq]
  have q6 : ρ 6 = v1 := by rw [hf 6 rfl]; simp (disch := omega) only [EO, ↓EP, EQ, EM, ↓reduceIte, Int.reduceAdd, Int.reduceEq, Int.reduceLE, Int.reduceLT, Int.reduceMul, Int.reduceNeg, Int.reducePow, Int.reduceSub, Int.reduceToNat, Nat.reduceAdd, Nat.reduceEqDiff, Nat.reduceLT, Nat.reduceLeDiff, Nat.reduceMul, reduceCtorEq]
  have q7 : ρ 7 = .slice (some ⟨w2.heap.size, 0, none⟩) N N := by rw [hf 7 rfl]; simp (disch := omega) only [EO, ↓EP, EQ, EM, ↓reduceIte, Int.reduceAdd, Int.reduceEq, Int.reduceLE, Int.reduceLT, Int.reduceMul, Int.reduceNeg, Int.reducePow, Int.reduceSub, Int.reduceToNat, Nat.reduceAdd, Nat.reduceEqDiff, Nat.reduceLT, Nat.reduceLeDiff, Nat.reduceMul, reduceCtorEq]
  clear hf
  by_cases hkl : (k : Int) < (N : Int)
  · have hv4 : Vw .u64 w4 v1 (Dg.digs (val l)) := by
      obtain ⟨A', c', e', hc', hr'⟩ := hv2
      refine ⟨A', c', e', hc', ?_⟩
      rcases hr' with hn' | ⟨p, hA', hlt', hcl'⟩
      · exact .inl hn'
      · exact Rd.fr ((Rd.nb (.inr ⟨p, hA', hlt', hcl'⟩) (n3.fr nob))) f34 (.inr fun q hq => by rw [hA'] at hq; cases hq; omega)
    have ei : (k : Int) / 2 = ((k / 2 : Nat) : Int) := by omega
    have ej : ((N : Int) - 1 - (k : Int)).toNat = N - 1 - k := by omega
    have em : min (8 * ((k : Int) % 2)).toNat 64 = 8 * (k % 2) := by omega
    have hp2 : (0 : Int) < 2 ^ (8 * (k % 2)) := p2_pos _
    have bx := DL.at (k / 2 : Nat)
    have hb := digit_bits DL (k / 2) (8 * (k % 2)) 8 (by omega)
    rw [hdv, show 16 * (k / 2) + 8 * (k % 2) = 8 * k by omega, ← p8_p2 k] at hb
    have hb' : at' (Dg.digs (val l)) (k / 2 : Nat) / 2 ^ (8 * (k % 2)) % 256 = val l / 256 ^ k % 256 := hb
    simp (disch := omega) only [wu64, wu32, wu8, fdiv_nn, EO, ↓EP, EQ, EM, ↓reduceIte, Int.reduceAdd, Int.reduceEq, Int.reduceLE, Int.reduceLT, Int.reduceMul, Int.reduceNeg, Int.reducePow, Int.reduceSub, Int.reduceToNat, Nat.reduceAdd, Nat.reduceEqDiff, Nat.reduceLT, Nat.reduceLeDiff, Nat.reduceMul, reduceCtorEq, h8, q1, q6, q7, ei]
    refine digit_nat hv4 (by omega) (k / 2) (by omega) _ ?_
    simp (disch := omega) only [wu64, wu32, wu8, fdiv_nn, EO, ↓EP, EQ, EM, ↓reduceIte, Int.reduceAdd, Int.reduceEq, Int.reduceLE, Int.reduceLT, Int.reduceMul, Int.reduceNeg, Int.reducePow, Int.reduceSub, Int.reduceToNat, Nat.reduceAdd, Nat.reduceEqDiff, Nat.reduceLT, Nat.reduceLeDiff, Nat.reduceMul, reduceCtorEq, h8, q1, q7, ej, em, wu8_mod, hb']
    refine st_num hB (by omega) fun w5 p5 => ?_
    simp (disch := omega) only [wu64, wu32, wu8, fdiv_nn, EO, ↓EP, EQ, EM, ↓reduceIte, Int.reduceAdd, Int.reduceEq, Int.reduceLE, Int.reduceLT, Int.reduceMul, Int.reduceNeg, Int.reducePow, Int.reduceSub, Int.reduceToNat, Nat.reduceAdd, Nat.reduceEqDiff, Nat.reduceLT, Nat.reduceLeDiff, Nat.reduceMul, reduceCtorEq, h8]
    refine hM (N - (k + 1)) _ _ (by omega) ⟨k + 1, _, by simp (disch := omega) only [EO, ↓EP, EQ, EM, ↓reduceIte, Int.reduceAdd, Int.reduceEq, Int.reduceLE, Int.reduceLT, Int.reduceMul, Int.reduceNeg, Int.reducePow, Int.reduceSub, Int.reduceToNat, Nat.reduceAdd, Nat.reduceEqDiff, Nat.reduceLT, Nat.reduceLeDiff, Nat.reduceMul, reduceCtorEq, h8, Int.natCast_add], by omega, rfl, p5.blk, by simpa using ho, fun i hi => ?_, f4.own p5.fr fun x e => by omega, f34.trans p5.fr fun _ _ e => e⟩
    by_cases hik : i = k
    · subst hik; rw [at_setN (by omega)]
    · rw [at_setO (by omega)]; exact hset i (by omega)
  · have hk : k = N := by omega
    subst hk
    simp (disch := omega) only [EO, ↓EP, EQ, EM, ↓reduceIte, Int.reduceAdd, Int.reduceEq, Int.reduceLE, Int.reduceLT, Int.reduceMul, Int.reduceNeg, Int.reducePow, Int.reduceSub, Int.reduceToNat, Nat.reduceAdd, Nat.reduceEqDiff, Nat.reduceLT, Nat.reduceLeDiff, Nat.reduceMul, reduceCtorEq, h8, q1, q7]
    have eo := bvs_of ho (fun i hi => hset i hi)
    subst eo
    exact hK _ _ ⟨.inr ⟨w2.heap.size, [], by simp [ho], by simpa using hB⟩, fun b e => by cases e; omega, f4⟩
end Go.Proofs.Ytbgfebhhejlakaa.Spec
