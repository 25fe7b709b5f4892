/- Numbers by limbs: a guess of a quotient's limb, and what it takes off, walked. -/
import Derived.Test.YtbgfebhhejlakaaNat3
import Derived.Test.YtbgfebhhejlakaaNat5
set_option linter.unusedVariables false
set_option linter.unusedSimpArgs false
namespace Go.Proofs.Ytbgfebhhejlakaa.Spec
open Go Go.RowKit Go.Proofs Go.Proofs.Ytbgfebhhejlakaa.Eng Go.Proofs.Ytbgfebhhejlakaa.Code Go.Proofs.Ytbgfebhhejlakaa.Big
set_option maxRecDepth 100000
attribute [local irreducible] callK S.W opsW scrW

theorem mul_le_r {a b c : Int} (h : a ≤ b) (hc : 0 ≤ c) : a * c ≤ b * c := Int.mul_le_mul_of_nonneg_right h hc
/-- One step down of a guess. -/
theorem guess_down {q rest v1 v2 top u : Int} (hq : q * v1 + rest = top) (h : rest * 4294967296 + u < q * v2) (Q : Int) (hQ : Q * (v1 * 4294967296 + v2) ≤ top * 4294967296 + u) (hv : 0 ≤ v1 * 4294967296 + v2) : Q ≤ q - 1 := by
  by_cases hle : Q ≤ q - 1
  · exact hle
  · exfalso
    have := mul_le_r (show q ≤ Q by omega) hv
    have e : q * (v1 * 4294967296 + v2) = (q * v1) * 4294967296 + q * v2 := by grind
    have e2 : (q * v1) * 4294967296 = (top - rest) * 4294967296 := by rw [← hq]; grind
    omega
set_option maxHeartbeats 1000000 in
theorem guess_spec {w : World} {A : Option Addr} {m c : Nat} {u : List Int} {v1 v2 : Int} (hu : u.length = m + 3) (hr : Rd w A (nums .u32 u)) (hU : Lim u) (h40 : m ≤ 1099511627776) (h1 : 2147483648 ≤ v1 ∧ v1 < 4294967296) (h2 : 0 ≤ v2 ∧ v2 < 4294967296) (htop : at' u (m + 2 : Nat) ≤ v1) (K : Value → World → Prop)
    (hK : ∀ q n, 0 ≤ q → q < 4294967296 → q * (v1 * 4294967296 + v2) ≤ (at' u (m + 2 : Nat) * 4294967296 + at' u (m + 1 : Nat)) * 4294967296 + at' u m →
      (∀ Q, Q ≤ 4294967295 → Q * (v1 * 4294967296 + v2) ≤ (at' u (m + 2 : Nat) * 4294967296 + at' u (m + 1 : Nat)) * 4294967296 + at' u m → Q ≤ q) → K (.int .u32 q) (w.drewN n)) : callK Try.prog 73 [.slice A (m + 3) c, .int .u32 v1, .int .u32 v2] w K := by
  refine call_of Try.func73 Code.h73 (by simp [Code.c73]) ?_
  obtain ⟨p, rfl, _, hp⟩ := hr.get (by rw [nums_length]; omega)
  have c2 := hp.numN (j := m + 2) (by omega)
  have c1 := hp.numN (j := m + 1) (by omega)
  have c0 := hp.numN (j := m) (by omega)
  have b2 := hU.at (m + 2 : Nat)
  have b1 := hU.at (m + 1 : Nat)
  have b0 := hU.at m
  generalize at' u (m + 2 : Nat) = u2 at *
  generalize at' u (m + 1 : Nat) = u1 at *
  generalize at' u m = u0 at *
  have e1 : ((m + 3 : Nat) : Int) - 1 = ((m + 2 : Nat) : Int) := by omega
  have e2 : ((m + 3 : Nat) : Int) - 2 = ((m + 1 : Nat) : Int) := by omega
  have e3 : ((m + 3 : Nat) : Int) - 3 = (m : Int) := by omega
  have eo := or_shl (a := u2) (b := u1) b2.1 b2.2 b1.1 b1.2
  simp (disch := omega) only [wu64, wu32, wu8, fdiv_nn, EO, ↓EP, EQ, EM, ↓reduceIte, Int.reduceAdd, Int.reduceEq, Int.reduceLE, Int.reduceLT, Int.reduceMul, Int.reduceNeg, Int.reducePow, Int.reduceSub, Int.reduceToNat, Nat.reduceAdd, Nat.reduceEqDiff, Nat.reduceLT, Nat.reduceLeDiff, Nat.reduceMul, reduceCtorEq, Code.c73, W_joinT, e1, e2, c2, c1, eo]
  generalize hT : u2 * 4294967296 + u1 = top at *
  intro m1
  have q0 := Int.ediv_nonneg (show 0 ≤ top by omega) (show 0 ≤ v1 by omega)
  have r0 := Int.emod_nonneg top (show v1 ≠ 0 by omega)
  have r1 := Int.emod_lt_of_pos top (show 0 < v1 by omega)
  have hdm := Int.mul_ediv_add_emod top v1
  have hqtop : top / v1 ≤ 4294967297 := by
    apply Int.le_of_lt_add_one
    apply Int.ediv_lt_of_lt_mul (by omega)
    have := mul_le_r htop (show (0 : Int) ≤ 4294967296 by decide)
    omega
  have hv : 0 ≤ v1 * 4294967296 + v2 := by omega
  refine join_cut (fun ρ' w' => ∃ q n, w' = w.drewN n ∧ ρ' 9 = .int .u64 q ∧ 0 ≤ q ∧ q < 4294967296 ∧ q * (v1 * 4294967296 + v2) ≤ top * 4294967296 + u0 ∧ (∀ Q, Q ≤ 4294967295 → Q * (v1 * 4294967296 + v2) ≤ top * 4294967296 + u0 → Q ≤ q)) ?_ ?_
  · intro N hN
    simp (disch := omega) only [wu64, wu32, wu8, fdiv_nn, EO, ↓EP, EQ, EM, ↓reduceIte, Int.reduceAdd, Int.reduceEq, Int.reduceLE, Int.reduceLT, Int.reduceMul, Int.reduceNeg, Int.reducePow, Int.reduceSub, Int.reduceToNat, Nat.reduceAdd, Nat.reduceEqDiff, Nat.reduceLT, Nat.reduceLeDiff, Nat.reduceMul, reduceCtorEq]
    refine loop_inv (fun t ρ w' => ∃ q rest, w' = w.drewN m1 ∧ ρ 9 = .int .u64 q ∧ ρ 10 = .int .u64 rest ∧ t = q.toNat ∧ 0 ≤ q ∧ q ≤ 4294967297 ∧ 0 ≤ rest ∧ rest < 4294967296 ∧ q * v1 + rest = top ∧ (∀ Q, Q ≤ 4294967295 → Q * (v1 * 4294967296 + v2) ≤ top * 4294967296 + u0 → Q ≤ q)) (top / v1).toNat
      ⟨top / v1, top % v1, rfl, by simp (disch := omega) only [wu64, wu32, wu8, fdiv_nn, EO, ↓EP, EQ, EM, ↓reduceIte, Int.reduceAdd, Int.reduceEq, Int.reduceLE, Int.reduceLT, Int.reduceMul, Int.reduceNeg, Int.reducePow, Int.reduceSub, Int.reduceToNat, Nat.reduceAdd, Nat.reduceEqDiff, Nat.reduceLT, Nat.reduceLeDiff, Nat.reduceMul, reduceCtorEq], by simp (disch := omega) only [wu64, wu32, wu8, fdiv_nn, EO, ↓EP, EQ, EM, ↓reduceIte, Int.reduceAdd, Int.reduceEq, Int.reduceLE, Int.reduceLT, Int.reduceMul, Int.reduceNeg, Int.reducePow, Int.reduceSub, Int.reduceToNat, Nat.reduceAdd, Nat.reduceEqDiff, Nat.reduceLT, Nat.reduceLeDiff, Nat.reduceMul, reduceCtorEq], rfl, q0, hqtop, r0, by omega, by grind, ?_⟩ ?_
    · intro Q _ hQ
      by_cases hle : Q ≤ top / v1
      · exact hle
      · exfalso
        have h3 := mul_le_r (show top / v1 + 1 ≤ Q by omega) hv
        have h4 : (top / v1 + 1) * (v1 * 4294967296 + v2) = (v1 * (top / v1) + v1) * 4294967296 + (top / v1) * v2 + v2 := by grind
        have h5 := Int.mul_nonneg q0 h2.1
        omega
    rintro t ρ w' hf ⟨q, rest, rfl, h9, h10, rfl, hq0, hq1, hr0, hr1, hqr, hall⟩ N2 hN2
    have p0 : ρ 0 = .slice (some p) (m + 3) c := by rw [hf 0 rfl]; simp (disch := omega) only [wu64, wu32, wu8, fdiv_nn, EO, ↓EP, EQ, EM, ↓reduceIte, Int.reduceAdd, Int.reduceEq, Int.reduceLE, Int.reduceLT, Int.reduceMul, Int.reduceNeg, Int.reducePow, Int.reduceSub, Int.reduceToNat, Nat.reduceAdd, Nat.reduceEqDiff, Nat.reduceLT, Nat.reduceLeDiff, Nat.reduceMul, reduceCtorEq]
    have p1 : ρ 1 = .int .u32 v1 := by rw [hf 1 rfl]; simp (disch := omega) only [wu64, wu32, wu8, fdiv_nn, EO, ↓EP, EQ, EM, ↓reduceIte, Int.reduceAdd, Int.reduceEq, Int.reduceLE, Int.reduceLT, Int.reduceMul, Int.reduceNeg, Int.reducePow, Int.reduceSub, Int.reduceToNat, Nat.reduceAdd, Nat.reduceEqDiff, Nat.reduceLT, Nat.reduceLeDiff, Nat.reduceMul, reduceCtorEq]
    have p2 : ρ 2 = .int .u32 v2 := by rw [hf 2 rfl]; simp (disch := omega) only [wu64, wu32, wu8, fdiv_nn, EO, ↓EP, EQ, EM, ↓reduceIte, Int.reduceAdd, Int.reduceEq, Int.reduceLE, Int.reduceLT, Int.reduceMul, Int.reduceNeg, Int.reducePow, Int.reduceSub, Int.reduceToNat, Nat.reduceAdd, Nat.reduceEqDiff, Nat.reduceLT, Nat.reduceLeDiff, Nat.reduceMul, reduceCtorEq]
    have p7 : ρ 7 = .int .i64 (m + 3 : Nat) := by rw [hf 7 rfl]; simp (disch := omega) only [wu64, wu32, wu8, fdiv_nn, EO, ↓EP, EQ, EM, ↓reduceIte, Int.reduceAdd, Int.reduceEq, Int.reduceLE, Int.reduceLT, Int.reduceMul, Int.reduceNeg, Int.reducePow, Int.reduceSub, Int.reduceToNat, Nat.reduceAdd, Nat.reduceEqDiff, Nat.reduceLT, Nat.reduceLeDiff, Nat.reduceMul, reduceCtorEq]
    clear hf
    have eo2 := or_shl (a := rest) (b := u0) hr0 hr1 b0.1 b0.2
    have down : (4294967296 ≤ q ∨ rest * 4294967296 + u0 < q * v2) → ∀ Q, Q ≤ 4294967295 → Q * (v1 * 4294967296 + v2) ≤ top * 4294967296 + u0 → Q ≤ q - 1 := by
      intro h Q hQ hQ2
      rcases h with h | h
      · omega
      · exact guess_down hqr h Q hQ2 hv
    have step : (4294967296 ≤ q ∨ rest * 4294967296 + u0 < q * v2) → 0 < q ∧ (4294967296 ≤ rest + v1 → q - 1 < 4294967296 ∧ (q - 1) * (v1 * 4294967296 + v2) ≤ top * 4294967296 + u0) := by
      intro h
      have hq : 0 < q := by
        rcases h with h | h
        · omega
        · by_cases h0 : q = 0
          · subst h0; omega
          · omega
      refine ⟨hq, fun hb => ?_⟩
      have h6 : (q - 1) * v1 = top - (rest + v1) := by grind
      have h7 : q - 1 < 4294967296 := by
        by_cases h8 : q - 1 < 4294967296
        · exact h8
        · exfalso
          have := mul_le_r (show 4294967296 ≤ q - 1 by omega) (show 0 ≤ v1 by omega)
          have := mul_le_r htop (show (0 : Int) ≤ 4294967296 by decide)
          omega
      refine ⟨h7, ?_⟩
      have h8 := mul_bd (a := q - 1) (b := v2) ⟨by omega, h7⟩ h2
      have h9 : (q - 1) * (v1 * 4294967296 + v2) = ((q - 1) * v1) * 4294967296 + (q - 1) * v2 := by grind
      rw [h9, h6]
      omega
    by_cases hbig : 4294967296 ≤ q
    · obtain ⟨s1, s2⟩ := step (.inl hbig)
      have s3 := down (.inl hbig)
      by_cases hbr : 4294967296 ≤ rest + v1
      · obtain ⟨s4, s5⟩ := s2 hbr
        simp (disch := omega) only [wu64, wu32, wu8, fdiv_nn, EO, ↓EP, EQ, EM, ↓reduceIte, Int.reduceAdd, Int.reduceEq, Int.reduceLE, Int.reduceLT, Int.reduceMul, Int.reduceNeg, Int.reducePow, Int.reduceSub, Int.reduceToNat, Nat.reduceAdd, Nat.reduceEqDiff, Nat.reduceLT, Nat.reduceLeDiff, Nat.reduceMul, reduceCtorEq, h9, h10, p0, p1, p2, p7, e3, c0]
        exact hN _ _ ⟨q - 1, m1, rfl, by simp (disch := omega) only [wu64, wu32, wu8, fdiv_nn, EO, ↓EP, EQ, EM, ↓reduceIte, Int.reduceAdd, Int.reduceEq, Int.reduceLE, Int.reduceLT, Int.reduceMul, Int.reduceNeg, Int.reducePow, Int.reduceSub, Int.reduceToNat, Nat.reduceAdd, Nat.reduceEqDiff, Nat.reduceLT, Nat.reduceLeDiff, Nat.reduceMul, reduceCtorEq], by omega, s4, s5, s3⟩
      · simp (disch := omega) only [wu64, wu32, wu8, fdiv_nn, EO, ↓EP, EQ, EM, ↓reduceIte, Int.reduceAdd, Int.reduceEq, Int.reduceLE, Int.reduceLT, Int.reduceMul, Int.reduceNeg, Int.reducePow, Int.reduceSub, Int.reduceToNat, Nat.reduceAdd, Nat.reduceEqDiff, Nat.reduceLT, Nat.reduceLeDiff, Nat.reduceMul, reduceCtorEq, h9, h10, p0, p1, p2, p7, e3, c0]
        exact hN2 (q - 1).toNat _ _ (by omega) ⟨q - 1, rest + v1, rfl, by simp (disch := omega) only [wu64, wu32, wu8, fdiv_nn, EO, ↓EP, EQ, EM, ↓reduceIte, Int.reduceAdd, Int.reduceEq, Int.reduceLE, Int.reduceLT, Int.reduceMul, Int.reduceNeg, Int.reducePow, Int.reduceSub, Int.reduceToNat, Nat.reduceAdd, Nat.reduceEqDiff, Nat.reduceLT, Nat.reduceLeDiff, Nat.reduceMul, reduceCtorEq], by simp (disch := omega) only [wu64, wu32, wu8, fdiv_nn, EO, ↓EP, EQ, EM, ↓reduceIte, Int.reduceAdd, Int.reduceEq, Int.reduceLE, Int.reduceLT, Int.reduceMul, Int.reduceNeg, Int.reducePow, Int.reduceSub, Int.reduceToNat, Nat.reduceAdd, Nat.reduceEqDiff, Nat.reduceLT, Nat.reduceLeDiff, Nat.reduceMul, reduceCtorEq], rfl, by omega, by omega, by omega, by omega, by grind, s3⟩
    · have hmb := mul_bd (a := q) (b := v2) ⟨hq0, by omega⟩ h2
      by_cases hgt : rest * 4294967296 + u0 < q * v2
      · obtain ⟨s1, s2⟩ := step (.inr hgt)
        have s3 := down (.inr hgt)
        by_cases hbr : 4294967296 ≤ rest + v1
        · obtain ⟨s4, s5⟩ := s2 hbr
          simp (disch := omega) only [wu64, wu32, wu8, fdiv_nn, EO, ↓EP, EQ, EM, ↓reduceIte, Int.reduceAdd, Int.reduceEq, Int.reduceLE, Int.reduceLT, Int.reduceMul, Int.reduceNeg, Int.reducePow, Int.reduceSub, Int.reduceToNat, Nat.reduceAdd, Nat.reduceEqDiff, Nat.reduceLT, Nat.reduceLeDiff, Nat.reduceMul, reduceCtorEq, h9, h10, p0, p1, p2, p7, e3, c0, eo2]
          exact hN _ _ ⟨q - 1, m1, rfl, by simp (disch := omega) only [wu64, wu32, wu8, fdiv_nn, EO, ↓EP, EQ, EM, ↓reduceIte, Int.reduceAdd, Int.reduceEq, Int.reduceLE, Int.reduceLT, Int.reduceMul, Int.reduceNeg, Int.reducePow, Int.reduceSub, Int.reduceToNat, Nat.reduceAdd, Nat.reduceEqDiff, Nat.reduceLT, Nat.reduceLeDiff, Nat.reduceMul, reduceCtorEq], by omega, s4, s5, s3⟩
        · simp (disch := omega) only [wu64, wu32, wu8, fdiv_nn, EO, ↓EP, EQ, EM, ↓reduceIte, Int.reduceAdd, Int.reduceEq, Int.reduceLE, Int.reduceLT, Int.reduceMul, Int.reduceNeg, Int.reducePow, Int.reduceSub, Int.reduceToNat, Nat.reduceAdd, Nat.reduceEqDiff, Nat.reduceLT, Nat.reduceLeDiff, Nat.reduceMul, reduceCtorEq, h9, h10, p0, p1, p2, p7, e3, c0, eo2]
          exact hN2 (q - 1).toNat _ _ (by omega) ⟨q - 1, rest + v1, rfl, by simp (disch := omega) only [wu64, wu32, wu8, fdiv_nn, EO, ↓EP, EQ, EM, ↓reduceIte, Int.reduceAdd, Int.reduceEq, Int.reduceLE, Int.reduceLT, Int.reduceMul, Int.reduceNeg, Int.reducePow, Int.reduceSub, Int.reduceToNat, Nat.reduceAdd, Nat.reduceEqDiff, Nat.reduceLT, Nat.reduceLeDiff, Nat.reduceMul, reduceCtorEq], by simp (disch := omega) only [wu64, wu32, wu8, fdiv_nn, EO, ↓EP, EQ, EM, ↓reduceIte, Int.reduceAdd, Int.reduceEq, Int.reduceLE, Int.reduceLT, Int.reduceMul, Int.reduceNeg, Int.reducePow, Int.reduceSub, Int.reduceToNat, Nat.reduceAdd, Nat.reduceEqDiff, Nat.reduceLT, Nat.reduceLeDiff, Nat.reduceMul, reduceCtorEq], rfl, by omega, by omega, by omega, by omega, by grind, s3⟩
      · simp (disch := omega) only [wu64, wu32, wu8, fdiv_nn, EO, ↓EP, EQ, EM, ↓reduceIte, Int.reduceAdd, Int.reduceEq, Int.reduceLE, Int.reduceLT, Int.reduceMul, Int.reduceNeg, Int.reducePow, Int.reduceSub, Int.reduceToNat, Nat.reduceAdd, Nat.reduceEqDiff, Nat.reduceLT, Nat.reduceLeDiff, Nat.reduceMul, reduceCtorEq, h9, h10, p0, p1, p2, p7, e3, c0, eo2]
        refine hN _ _ ⟨q, m1, rfl, by simp (disch := omega) only [wu64, wu32, wu8, fdiv_nn, EO, ↓EP, EQ, EM, ↓reduceIte, Int.reduceAdd, Int.reduceEq, Int.reduceLE, Int.reduceLT, Int.reduceMul, Int.reduceNeg, Int.reducePow, Int.reduceSub, Int.reduceToNat, Nat.reduceAdd, Nat.reduceEqDiff, Nat.reduceLT, Nat.reduceLeDiff, Nat.reduceMul, reduceCtorEq, h9], by omega, by omega, ?_, hall⟩
        have e : q * (v1 * 4294967296 + v2) = (q * v1) * 4294967296 + q * v2 := by grind
        have e2 : q * v1 = top - rest := by omega
        rw [e, e2]
        omega
  · rintro ρ' w' hf ⟨q, n, rfl, h9, hq0, hq1, hle, hall⟩
    simp (disch := omega) only [wu64, wu32, wu8, fdiv_nn, EO, ↓EP, EQ, EM, ↓reduceIte, Int.reduceAdd, Int.reduceEq, Int.reduceLE, Int.reduceLT, Int.reduceMul, Int.reduceNeg, Int.reducePow, Int.reduceSub, Int.reduceToNat, Nat.reduceAdd, Nat.reduceEqDiff, Nat.reduceLT, Nat.reduceLeDiff, Nat.reduceMul, reduceCtorEq, h9]
    exact hK q n hq0 hq1 hle hall
end Go.Proofs.Ytbgfebhhejlakaa.Spec
