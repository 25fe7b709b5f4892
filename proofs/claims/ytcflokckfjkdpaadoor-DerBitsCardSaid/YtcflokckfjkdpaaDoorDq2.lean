/- The document's flags, walked. -/
import Derived.Test.YtcflokckfjkdpaaDoorDq1
set_option linter.unusedVariables false
set_option linter.unusedSimpArgs false
namespace Go.Proofs.YtcflokckfjkdpaaDoor.Der
open Go Go.RowKit Go.Proofs Go.Proofs.YtcflokckfjkdpaaDoor.Eng Go.Proofs.YtcflokckfjkdpaaDoor.Code
set_option maxRecDepth 100000
attribute [local irreducible] callK S.W opsW scrW scrT

theorem shr_and {y m : Int} (hy : 0 ≤ y ∧ y < 256) (j : Nat) : bits .and .u8 (y.fdiv (2 ^ j)) 1 = y / 2 ^ j % 2 := by
  have p1 : (1 : Int) ≤ 2 ^ j := by
    have := pow2_le (show 0 ≤ j by omega)
    simpa using this
  rw [Int.fdiv_eq_ediv_of_nonneg _ (by omega)]
  have q1 := Int.ediv_nonneg hy.1 (show (0 : Int) ≤ 2 ^ j by omega)
  have q2 := Int.ediv_le_self (2 ^ j) hy.1
  rw [d8_and1 ⟨q1, by omega⟩]
set_option maxHeartbeats 1000000 in
theorem rflags_vw {w : World} {v : Value} {d : List Int} (hv : Vw .u8 w v d) (hb : ByteL d) (hm : d.length ≤ 1073741824) (K : Value → World → Prop)
    (hK : ∀ w', Fr w w' nob → K (pr2 (.int .u32 (flagsR d).1) (flagsR d).2) w') : callK Tryd.prog 17 [v] w K := by
  obtain ⟨A, c, rfl, hc, hr⟩ := hv
  refine call_of Tryd.func17 Code.h17 (by simp [Code.c17]) ?_
  unfold flagsR at hK
  simp (disch := omega) only [wu64, wu32, wu8, fdiv_nn, EO, ↓EP, EQ, EM, ↓reduceIte, Int.reduceAdd, Int.reduceEq, Int.reduceLE, Int.reduceLT, Int.reduceMul, Int.reduceNeg, Int.reducePow, Int.reduceSub, Int.reduceToNat, Nat.reduceAdd, Nat.reduceEqDiff, Nat.reduceLT, Nat.reduceLeDiff, Nat.reduceMul, reduceCtorEq, Code.c17]
  refine rbits_vw (Vw.of rfl hc hr) hb hm _ fun v1 w1 g1 => ?_
  simp only [pr3]
  have hbb : ByteL (bitsR d).1 := by
    unfold bitsR
    split
    · exact ByteL.of (by simp)
    · split
      · exact ByteL.of (by simp)
      · exact ByteL.of fun x hx => byteL_mem hb x (List.mem_of_mem_drop hx)
  generalize bitsR d = br at g1 hK hbb ⊢
  obtain ⟨bl, bn, be⟩ := br
  simp only at g1 hK hbb ⊢
  by_cases he : be = 0
  rotate_left
  · rw [if_pos (by simpa using he)] at hK
    have he' : (be = 0) = False := eq_false he
    simp (disch := omega) only [wu64, wu32, wu8, fdiv_nn, EO, ↓EP, EQ, EM, ↓reduceIte, Int.reduceAdd, Int.reduceEq, Int.reduceLE, Int.reduceLT, Int.reduceMul, Int.reduceNeg, Int.reducePow, Int.reduceSub, Int.reduceToNat, Nat.reduceAdd, Nat.reduceEqDiff, Nat.reduceLT, Nat.reduceLeDiff, Nat.reduceMul, reduceCtorEq, he']
    exact hK w1 g1.fr
  rw [if_neg (by simpa using he)] at hK
  obtain ⟨A1, c1, rfl, hc1, hR1⟩ := readn g1.sl rfl
  by_cases h4 : (4 : Int) < (bl.length : Int)
  · rw [if_pos (by omega)] at hK
    simp (disch := omega) only [wu64, wu32, wu8, fdiv_nn, EO, ↓EP, EQ, EM, ↓reduceIte, Int.reduceAdd, Int.reduceEq, Int.reduceLE, Int.reduceLT, Int.reduceMul, Int.reduceNeg, Int.reducePow, Int.reduceSub, Int.reduceToNat, Nat.reduceAdd, Nat.reduceEqDiff, Nat.reduceLT, Nat.reduceLeDiff, Nat.reduceMul, reduceCtorEq, he]
    exact hK w1 g1.fr
  rw [if_neg (by omega)] at hK
  simp (disch := omega) only [wu64, wu32, wu8, fdiv_nn, EO, ↓EP, EQ, EM, ↓reduceIte, Int.reduceAdd, Int.reduceEq, Int.reduceLE, Int.reduceLT, Int.reduceMul, Int.reduceNeg, Int.reducePow, Int.reduceSub, Int.reduceToNat, Nat.reduceAdd, Nat.reduceEqDiff, Nat.reduceLT, Nat.reduceLeDiff, Nat.reduceMul, reduceCtorEq, he]
  refine loop_inv (fun t ρ w' => w' = w1 ∧ ∃ i : Nat, ρ 8 = .int .i64 i ∧ i ≤ bl.length ∧ t = bl.length - i ∧ ρ 7 = .int .u32 (flagSum bl (8 * i))) bl.length ⟨rfl, 0, by simp (disch := omega) only [wu64, wu32, wu8, fdiv_nn, EO, ↓EP, EQ, EM, ↓reduceIte, Int.reduceAdd, Int.reduceEq, Int.reduceLE, Int.reduceLT, Int.reduceMul, Int.reduceNeg, Int.reducePow, Int.reduceSub, Int.reduceToNat, Nat.reduceAdd, Nat.reduceEqDiff, Nat.reduceLT, Nat.reduceLeDiff, Nat.reduceMul, reduceCtorEq], by omega, by omega, by simp (disch := omega) only [wu64, wu32, wu8, fdiv_nn, EO, ↓EP, EQ, EM, ↓reduceIte, Int.reduceAdd, Int.reduceEq, Int.reduceLE, Int.reduceLT, Int.reduceMul, Int.reduceNeg, Int.reducePow, Int.reduceSub, Int.reduceToNat, Nat.reduceAdd, Nat.reduceEqDiff, Nat.reduceLT, Nat.reduceLeDiff, Nat.reduceMul, reduceCtorEq]; rfl⟩ ?_
  rintro t ρ w' hf ⟨rfl, i, h8, hi, rfl, h7⟩ N hN
  have r4 : ρ 4 = .slice A1 bl.length c1 := by rw [hf 4 rfl]; simp (disch := omega) only [wu64, wu32, wu8, fdiv_nn, EO, ↓EP, EQ, EM, ↓reduceIte, Int.reduceAdd, Int.reduceEq, Int.reduceLE, Int.reduceLT, Int.reduceMul, Int.reduceNeg, Int.reducePow, Int.reduceSub, Int.reduceToNat, Nat.reduceAdd, Nat.reduceEqDiff, Nat.reduceLT, Nat.reduceLeDiff, Nat.reduceMul, reduceCtorEq]
  clear hf
  by_cases hil : (i : Int) < (bl.length : Int)
  · obtain ⟨ad, rfl, cell⟩ := pos_cells hR1 (by omega)
    have ci := cell i (by omega)
    have bi := hbb i
    simp (disch := omega) only [wu64, wu32, wu8, fdiv_nn, EO, ↓EP, EQ, EM, ↓reduceIte, Int.reduceAdd, Int.reduceEq, Int.reduceLE, Int.reduceLT, Int.reduceMul, Int.reduceNeg, Int.reducePow, Int.reduceSub, Int.reduceToNat, Nat.reduceAdd, Nat.reduceEqDiff, Nat.reduceLT, Nat.reduceLeDiff, Nat.reduceMul, reduceCtorEq, h8, h7, r4]
    refine loop_inv (fun t ρ2 w2 => w2 = w' ∧ ∃ j : Nat, ρ2 9 = .int .i64 j ∧ j ≤ 8 ∧ t = 8 - j ∧ ρ2 7 = .int .u32 (flagSum bl (8 * i + j))) 8 ⟨rfl, 0, by simp (disch := omega) only [wu64, wu32, wu8, fdiv_nn, EO, ↓EP, EQ, EM, ↓reduceIte, Int.reduceAdd, Int.reduceEq, Int.reduceLE, Int.reduceLT, Int.reduceMul, Int.reduceNeg, Int.reducePow, Int.reduceSub, Int.reduceToNat, Nat.reduceAdd, Nat.reduceEqDiff, Nat.reduceLT, Nat.reduceLeDiff, Nat.reduceMul, reduceCtorEq], by omega, by omega, by simp (disch := omega) only [wu64, wu32, wu8, fdiv_nn, EO, ↓EP, EQ, EM, ↓reduceIte, Int.reduceAdd, Int.reduceEq, Int.reduceLE, Int.reduceLT, Int.reduceMul, Int.reduceNeg, Int.reducePow, Int.reduceSub, Int.reduceToNat, Nat.reduceAdd, Nat.reduceEqDiff, Nat.reduceLT, Nat.reduceLeDiff, Nat.reduceMul, reduceCtorEq, h7, Nat.add_zero]⟩ ?_
    rintro t ρ2 w2 hf2 ⟨rfl, j, h9, hj, rfl, h7'⟩ N2 hN2
    have s4 : ρ2 4 = .slice (some ad) bl.length c1 := by rw [hf2 4 rfl]; simp (disch := omega) only [wu64, wu32, wu8, fdiv_nn, EO, ↓EP, EQ, EM, ↓reduceIte, Int.reduceAdd, Int.reduceEq, Int.reduceLE, Int.reduceLT, Int.reduceMul, Int.reduceNeg, Int.reducePow, Int.reduceSub, Int.reduceToNat, Nat.reduceAdd, Nat.reduceEqDiff, Nat.reduceLT, Nat.reduceLeDiff, Nat.reduceMul, reduceCtorEq, r4]
    have s8 : ρ2 8 = .int .i64 i := by rw [hf2 8 rfl]; simp (disch := omega) only [wu64, wu32, wu8, fdiv_nn, EO, ↓EP, EQ, EM, ↓reduceIte, Int.reduceAdd, Int.reduceEq, Int.reduceLE, Int.reduceLT, Int.reduceMul, Int.reduceNeg, Int.reducePow, Int.reduceSub, Int.reduceToNat, Nat.reduceAdd, Nat.reduceEqDiff, Nat.reduceLT, Nat.reduceLeDiff, Nat.reduceMul, reduceCtorEq, h8]
    clear hf2
    by_cases hj8 : (j : Int) < 8
    · have e7 : min (7 - (j : Int)).toNat 8 = 7 - j := by omega
      have hsa := shr_and (m := 0) bi (7 - j)
      have hba : bitAt bl (8 * i + j) = at' bl (i : Int) / 2 ^ (7 - j) % 2 := by
        unfold bitAt
        rw [show ((8 * i + j : Nat) : Int) / 8 = (i : Int) by omega, show (8 * i + j) % 8 = j by omega]
      rw [← hba] at hsa
      have hb01 : bitAt bl (8 * i + j) = 0 ∨ bitAt bl (8 * i + j) = 1 := by unfold bitAt; omega
      have hst : flagSum bl (8 * i + (j + 1)) = flagSum bl (8 * i + j) + bitAt bl (8 * i + j) * 2 ^ (8 * i + j) := rfl
      rcases hb01 with hb0 | hb1
      · rw [hb0, Int.zero_mul, Int.add_zero] at hst
        rw [hb0] at hsa
        simp (disch := omega) only [wu64, wu32, wu8, fdiv_nn, EO, ↓EP, EQ, EM, ↓reduceIte, Int.reduceAdd, Int.reduceEq, Int.reduceLE, Int.reduceLT, Int.reduceMul, Int.reduceNeg, Int.reducePow, Int.reduceSub, Int.reduceToNat, Nat.reduceAdd, Nat.reduceEqDiff, Nat.reduceLT, Nat.reduceLeDiff, Nat.reduceMul, reduceCtorEq, W_join, h9, s4, s8, ci, e7, hsa]
        exact hN2 (8 - (j + 1)) _ _ (by omega) ⟨rfl, j + 1, by simp (disch := omega) only [wu64, wu32, wu8, fdiv_nn, EO, ↓EP, EQ, EM, ↓reduceIte, Int.reduceAdd, Int.reduceEq, Int.reduceLE, Int.reduceLT, Int.reduceMul, Int.reduceNeg, Int.reducePow, Int.reduceSub, Int.reduceToNat, Nat.reduceAdd, Nat.reduceEqDiff, Nat.reduceLT, Nat.reduceLeDiff, Nat.reduceMul, reduceCtorEq, h9, Int.natCast_add], by omega, rfl, by simp (disch := omega) only [wu64, wu32, wu8, fdiv_nn, EO, ↓EP, EQ, EM, ↓reduceIte, Int.reduceAdd, Int.reduceEq, Int.reduceLE, Int.reduceLT, Int.reduceMul, Int.reduceNeg, Int.reducePow, Int.reduceSub, Int.reduceToNat, Nat.reduceAdd, Nat.reduceEqDiff, Nat.reduceLT, Nat.reduceLeDiff, Nat.reduceMul, reduceCtorEq, h7', hst]⟩
      · rw [hb1, Int.one_mul] at hst
        rw [hb1] at hsa
        have p32 := pow2_le (show 8 * i + j ≤ 31 by omega)
        have p31 : (2 : Int) ^ 31 = 2147483648 := by decide
        have p0 := pow2_le (show 0 ≤ 8 * i + j by omega)
        rw [show (2 : Int) ^ 0 = 1 by rfl] at p0
        have hfs := flagSum_bd bl (8 * i + j)
        have eidx : min (8 * (i : Int) + (j : Int)).toNat 32 = 8 * i + j := by omega
        have hw1 : IntKind.u32.wrap (1 * 2 ^ (8 * i + j)) = 2 ^ (8 * i + j) := by rw [Int.one_mul]; exact wu32 (by omega) (by omega)
        have hw2 : IntKind.u32.wrap (flagSum bl (8 * i + j) + 2 ^ (8 * i + j)) = flagSum bl (8 * i + j) + 2 ^ (8 * i + j) := wu32 (by omega) (by omega)
        simp (disch := omega) only [wu64, wu32, wu8, fdiv_nn, EO, ↓EP, EQ, EM, ↓reduceIte, Int.reduceAdd, Int.reduceEq, Int.reduceLE, Int.reduceLT, Int.reduceMul, Int.reduceNeg, Int.reducePow, Int.reduceSub, Int.reduceToNat, Nat.reduceAdd, Nat.reduceEqDiff, Nat.reduceLT, Nat.reduceLeDiff, Nat.reduceMul, reduceCtorEq, W_join, h9, h7', s4, s8, ci, e7, hsa, eidx, hw1, hw2]
        exact hN2 (8 - (j + 1)) _ _ (by omega) ⟨rfl, j + 1, by simp (disch := omega) only [wu64, wu32, wu8, fdiv_nn, EO, ↓EP, EQ, EM, ↓reduceIte, Int.reduceAdd, Int.reduceEq, Int.reduceLE, Int.reduceLT, Int.reduceMul, Int.reduceNeg, Int.reducePow, Int.reduceSub, Int.reduceToNat, Nat.reduceAdd, Nat.reduceEqDiff, Nat.reduceLT, Nat.reduceLeDiff, Nat.reduceMul, reduceCtorEq, h9, Int.natCast_add], by omega, rfl, by simp (disch := omega) only [wu64, wu32, wu8, fdiv_nn, EO, ↓EP, EQ, EM, ↓reduceIte, Int.reduceAdd, Int.reduceEq, Int.reduceLE, Int.reduceLT, Int.reduceMul, Int.reduceNeg, Int.reducePow, Int.reduceSub, Int.reduceToNat, Nat.reduceAdd, Nat.reduceEqDiff, Nat.reduceLT, Nat.reduceLeDiff, Nat.reduceMul, reduceCtorEq, h7', eidx, hw1, hw2, hst]⟩
    · have hje : j = 8 := by omega
      subst hje
      simp (disch := omega) only [wu64, wu32, wu8, fdiv_nn, EO, ↓EP, EQ, EM, ↓reduceIte, Int.reduceAdd, Int.reduceEq, Int.reduceLE, Int.reduceLT, Int.reduceMul, Int.reduceNeg, Int.reducePow, Int.reduceSub, Int.reduceToNat, Nat.reduceAdd, Nat.reduceEqDiff, Nat.reduceLT, Nat.reduceLeDiff, Nat.reduceMul, reduceCtorEq, W_join, h9, s8]
      exact hN (bl.length - (i + 1)) _ _ (by omega) ⟨rfl, i + 1, by simp (disch := omega) only [wu64, wu32, wu8, fdiv_nn, EO, ↓EP, EQ, EM, ↓reduceIte, Int.reduceAdd, Int.reduceEq, Int.reduceLE, Int.reduceLT, Int.reduceMul, Int.reduceNeg, Int.reducePow, Int.reduceSub, Int.reduceToNat, Nat.reduceAdd, Nat.reduceEqDiff, Nat.reduceLT, Nat.reduceLeDiff, Nat.reduceMul, reduceCtorEq, s8, Int.natCast_add], by omega, rfl, by simp (disch := omega) only [wu64, wu32, wu8, fdiv_nn, EO, ↓EP, EQ, EM, ↓reduceIte, Int.reduceAdd, Int.reduceEq, Int.reduceLE, Int.reduceLT, Int.reduceMul, Int.reduceNeg, Int.reducePow, Int.reduceSub, Int.reduceToNat, Nat.reduceAdd, Nat.reduceEqDiff, Nat.reduceLT, Nat.reduceLeDiff, Nat.reduceMul, reduceCtorEq, h7', Nat.mul_add]⟩
  · have hie : i = bl.length := by omega
    subst hie
    simp (disch := omega) only [wu64, wu32, wu8, fdiv_nn, EO, ↓EP, EQ, EM, ↓reduceIte, Int.reduceAdd, Int.reduceEq, Int.reduceLE, Int.reduceLT, Int.reduceMul, Int.reduceNeg, Int.reducePow, Int.reduceSub, Int.reduceToNat, Nat.reduceAdd, Nat.reduceEqDiff, Nat.reduceLT, Nat.reduceLeDiff, Nat.reduceMul, reduceCtorEq, h8, h7, r4]
    exact hK w' g1.fr
end Go.Proofs.YtcflokckfjkdpaaDoor.Der
