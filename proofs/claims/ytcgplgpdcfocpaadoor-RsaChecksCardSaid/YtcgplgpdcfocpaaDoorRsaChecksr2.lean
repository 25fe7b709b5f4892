/- RsaChecks: the row and the tied card: whatever the key, the program's Check and Size answer as the document's, and the key stays; no condition. -/
import Derived.Test.YtcgplgpdcfocpaaDoorCards
import Derived.Test.YtcgplgpdcfocpaaDoorTie
import Derived.SevenTiedAt
import Derived.Test.YtcgplgpdcfocpaaDoorRsaChecksr1
set_option linter.unusedVariables false
set_option linter.unusedSimpArgs false
section
set_option linter.unusedVariables false
set_option linter.unusedSimpArgs false
namespace Go.Proofs.YtcgplgpdcfocpaaDoor.Spec
open Go Go.RowKit Go.Proofs Go.Proofs.YtcgplgpdcfocpaaDoor.Eng Go.Proofs.YtcgplgpdcfocpaaDoor.Code Go.Proofs.YtcgplgpdcfocpaaDoor.Big
set_option maxRecDepth 100000
attribute [local irreducible] callK S.W opsW scrW
theorem fr_drewN' (w : World) (n : Nat) : Fr w (w.drewN n) nob := ⟨below_drewN' (Below.refl _ _) n, fun b hb _ => rfl⟩
theorem odd_and {a b : Int} (ha : 0 ≤ a ∧ a < 4294967296) (hb : 0 ≤ b ∧ b < 4294967296) : bits .and .u32 (bits .and .u32 a b) 1 = a % 2 * (b % 2) := by
  have e1 := u32_and a b (by omega) (by omega) (by omega) (by omega)
  rw [e1]
  have hlt : a.toNat &&& b.toNat < 4294967296 := Nat.lt_of_le_of_lt Nat.and_le_left (by omega)
  rw [u32_and _ _ (by omega) (by omega) (by omega) (by omega)]
  rw [show (1 : Int).toNat = 1 from rfl, Int.toNat_natCast, Nat.and_one_is_mod]
  have h2 := Nat.and_mod_two_pow (a := a.toNat) (b := b.toNat) (n := 1)
  rw [show 2 ^ 1 = 2 from rfl] at h2
  rw [h2]
  have ca : a.toNat % 2 = 0 ∨ a.toNat % 2 = 1 := by omega
  have cb : b.toNat % 2 = 0 ∨ b.toNat % 2 = 1 := by omega
  have ea : a % 2 = ((a.toNat % 2 : Nat) : Int) := by omega
  have eb : b % 2 = ((b.toNat % 2 : Nat) : Int) := by omega
  rw [ea, eb]
  rcases ca with h | h <;> rcases cb with h' | h' <;> rw [h, h'] <;> decide
theorem lim_at0 {l : List Int} (h : Lim l) (h0 : 0 < l.length) : 0 ≤ at' l 0 ∧ at' l 0 < 4294967296 := by
  cases l with
  | nil => simp at h0
  | cons a l => exact h a (by simp)
def checkR (N E : List Int) : Int := if 256 < N.length ∨ 256 < E.length ∨ bl (val N) < 512 ∨ bl (val E) < 2 ∨ 64 < bl (val E) ∨ at' N 0 % 2 = 0 ∨ at' E 0 % 2 = 0 then 80 else 0
theorem pos_cellsN {k : IntKind} {w : World} {A : Option Addr} {l : List Int} (hr : Rd w A (nums k l)) (h0 : 0 < l.length) : ∃ ad, A = some ad ∧ ∀ i : Nat, i < l.length → w.cell? (ad.add i) = some (.int k (at' l (i : Int))) := by
  obtain ⟨ad, e, _, hcl⟩ := hr.get (by rw [nums_length]; omega)
  exact ⟨ad, e, fun i hi => hcl.numN hi⟩
theorem bl_pos {l : List Int} (h : 0 < bl (val l)) : 0 < l.length := by
  cases l with
  | nil => exact absurd h (by decide)
  | cons a l => simp
set_option maxHeartbeats 4000000 in
theorem check_k {w : World} {vN vE : Value} {N E : List Int} (hN : Vw .u32 w vN N) (hE : Vw .u32 w vE E) (lN : Lim N) (lE : Lim E) (nN : N.length ≤ 4194304) (nE : E.length ≤ 4194304) {K : Value → World → Prop}
    (hK : ∀ w', Fr w w' nob → K (.int .i64 (checkR N E)) w') : callK Tryd.prog 9 [.agg #[vN, vE]] w K := by
  refine call_of Tryd.func9 Code.h9 (by simp [Code.c9]) ?_
  obtain ⟨A, c, rfl, hc, hr⟩ := hN
  obtain ⟨B, d, rfl, hd, hs⟩ := hE
  simp (disch := omega) only [wu64, wu32, wu8, fdiv_nn, EO, ↓EP, EQ, EM, ↓reduceIte, Int.reduceAdd, Int.reduceEq, Int.reduceLE, Int.reduceLT, Int.reduceMul, Int.reduceNeg, Int.reducePow, Int.reduceSub, Int.reduceToNat, Nat.reduceAdd, Nat.reduceEqDiff, Nat.reduceLT, Nat.reduceLeDiff, Nat.reduceMul, reduceCtorEq, Code.c9]
  refine al_k [.slice A N.length c, .slice B E.length d] rfl fun w1 n1 => ?_
  have f1 := n1.fr nob
  have c0 : w1.cell? ⟨w.heap.size, 0, none⟩ = some (.slice A N.length c) := n1.blk.has 0 _ rfl
  have c1 : w1.cell? ⟨w.heap.size, 1, none⟩ = some (.slice B E.length d) := n1.blk.has 1 _ rfl
  simp (disch := omega) only [wu64, wu32, wu8, fdiv_nn, EO, ↓EP, EQ, EM, ↓reduceIte, Int.reduceAdd, Int.reduceEq, Int.reduceLE, Int.reduceLT, Int.reduceMul, Int.reduceNeg, Int.reducePow, Int.reduceSub, Int.reduceToNat, Nat.reduceAdd, Nat.reduceEqDiff, Nat.reduceLT, Nat.reduceLeDiff, Nat.reduceMul, reduceCtorEq, c0, c1]
  intro m
  have g1 := fr_drewN' w1 (1 + m)
  refine bits_vw ⟨A, c, rfl, hc, (hr.nb f1).nb g1⟩ lN (by omega) _ ?_
  simp (disch := omega) only [wu64, wu32, wu8, fdiv_nn, EO, ↓EP, EQ, EM, ↓reduceIte, Int.reduceAdd, Int.reduceEq, Int.reduceLE, Int.reduceLT, Int.reduceMul, Int.reduceNeg, Int.reducePow, Int.reduceSub, Int.reduceToNat, Nat.reduceAdd, Nat.reduceEqDiff, Nat.reduceLT, Nat.reduceLeDiff, Nat.reduceMul, reduceCtorEq, c0, c1]
  intro m2
  have g2 := fr_drewN' w1 (1 + m + m2)
  refine bits_vw ⟨B, d, rfl, hd, (hs.nb f1).nb g2⟩ lE (by omega) _ ?_
  have bad : ∀ w', Fr w1 w' nob → (256 < N.length ∨ 256 < E.length ∨ bl (val N) < 512 ∨ bl (val E) < 2 ∨ 64 < bl (val E) ∨ at' N 0 % 2 = 0 ∨ at' E 0 % 2 = 0) → K (.int .i64 80) w' := fun w' f h => by
    have e : checkR N E = 80 := if_pos h
    rw [e] at hK
    exact hK w' (f1.nb f)
  simp (disch := omega) only [wu64, wu32, wu8, fdiv_nn, EO, ↓EP, EQ, EM, ↓reduceIte, Int.reduceAdd, Int.reduceEq, Int.reduceLE, Int.reduceLT, Int.reduceMul, Int.reduceNeg, Int.reducePow, Int.reduceSub, Int.reduceToNat, Nat.reduceAdd, Nat.reduceEqDiff, Nat.reduceLT, Nat.reduceLeDiff, Nat.reduceMul, reduceCtorEq, W_join, c0, c1]
  intro m3
  have g3 := fr_drewN' w1 (1 + m + m2 + m3)
  by_cases h1 : (256 : Int) < (N.length : Int)
  · simp (disch := omega) only [wu64, wu32, wu8, fdiv_nn, EO, ↓EP, EQ, EM, ↓reduceIte, Int.reduceAdd, Int.reduceEq, Int.reduceLE, Int.reduceLT, Int.reduceMul, Int.reduceNeg, Int.reducePow, Int.reduceSub, Int.reduceToNat, Nat.reduceAdd, Nat.reduceEqDiff, Nat.reduceLT, Nat.reduceLeDiff, Nat.reduceMul, reduceCtorEq, W_join, c0, c1, h1]
    exact bad _ g3 (.inl (by omega))
  by_cases h2 : (256 : Int) < (E.length : Int)
  · simp (disch := omega) only [wu64, wu32, wu8, fdiv_nn, EO, ↓EP, EQ, EM, ↓reduceIte, Int.reduceAdd, Int.reduceEq, Int.reduceLE, Int.reduceLT, Int.reduceMul, Int.reduceNeg, Int.reducePow, Int.reduceSub, Int.reduceToNat, Nat.reduceAdd, Nat.reduceEqDiff, Nat.reduceLT, Nat.reduceLeDiff, Nat.reduceMul, reduceCtorEq, W_join, c0, c1, h1, h2]
    exact bad _ g3 (.inr (.inl (by omega)))
  by_cases h3 : (bl (val N) : Int) < 512
  · simp (disch := omega) only [wu64, wu32, wu8, fdiv_nn, EO, ↓EP, EQ, EM, ↓reduceIte, Int.reduceAdd, Int.reduceEq, Int.reduceLE, Int.reduceLT, Int.reduceMul, Int.reduceNeg, Int.reducePow, Int.reduceSub, Int.reduceToNat, Nat.reduceAdd, Nat.reduceEqDiff, Nat.reduceLT, Nat.reduceLeDiff, Nat.reduceMul, reduceCtorEq, W_join, c0, c1, h1, h2, h3]
    exact bad _ g3 (.inr (.inr (.inl (by omega))))
  by_cases h4 : (bl (val E) : Int) < 2
  · simp (disch := omega) only [wu64, wu32, wu8, fdiv_nn, EO, ↓EP, EQ, EM, ↓reduceIte, Int.reduceAdd, Int.reduceEq, Int.reduceLE, Int.reduceLT, Int.reduceMul, Int.reduceNeg, Int.reducePow, Int.reduceSub, Int.reduceToNat, Nat.reduceAdd, Nat.reduceEqDiff, Nat.reduceLT, Nat.reduceLeDiff, Nat.reduceMul, reduceCtorEq, W_join, c0, c1, h1, h2, h3, h4]
    exact bad _ g3 (.inr (.inr (.inr (.inl (by omega)))))
  by_cases h5 : (64 : Int) < (bl (val E) : Int)
  · simp (disch := omega) only [wu64, wu32, wu8, fdiv_nn, EO, ↓EP, EQ, EM, ↓reduceIte, Int.reduceAdd, Int.reduceEq, Int.reduceLE, Int.reduceLT, Int.reduceMul, Int.reduceNeg, Int.reducePow, Int.reduceSub, Int.reduceToNat, Nat.reduceAdd, Nat.reduceEqDiff, Nat.reduceLT, Nat.reduceLeDiff, Nat.reduceMul, reduceCtorEq, W_join, c0, c1, h1, h2, h3, h4, h5]
    exact bad _ g3 (.inr (.inr (.inr (.inr (.inl (by omega))))))
  have pN : 0 < N.length := bl_pos (by omega)
  have pE : 0 < E.length := bl_pos (by omega)
  obtain ⟨pa, rfl, hcN⟩ := pos_cellsN (hr.nb f1) pN
  obtain ⟨pb, rfl, hcE⟩ := pos_cellsN (hs.nb f1) pE
  have z0 := hcN 0 pN
  have z1 := hcE 0 pE
  have y0 := lim_at0 lN pN
  have y1 := lim_at0 lE pE
  simp (disch := omega) only [wu64, wu32, wu8, fdiv_nn, EO, ↓EP, EQ, EM, ↓reduceIte, Int.reduceAdd, Int.reduceEq, Int.reduceLE, Int.reduceLT, Int.reduceMul, Int.reduceNeg, Int.reducePow, Int.reduceSub, Int.reduceToNat, Nat.reduceAdd, Nat.reduceEqDiff, Nat.reduceLT, Nat.reduceLeDiff, Nat.reduceMul, reduceCtorEq, W_join, c0, c1, h1, h2, h3, h4, h5, z0, z1]
  intro m4
  have g4 := fr_drewN' w1 (1 + m + m2 + m3 + m4)
  rw [odd_and y0 y1]
  by_cases h6 : at' N 0 % 2 = 0
  · rw [h6, Int.zero_mul, if_pos rfl]
    exact bad _ g4 (.inr (.inr (.inr (.inr (.inr (.inl h6))))))
  by_cases h7 : at' E 0 % 2 = 0
  · rw [h7, Int.mul_zero, if_pos rfl]
    exact bad _ g4 (.inr (.inr (.inr (.inr (.inr (.inr h7))))))
  rw [if_neg (by rw [show at' N 0 % 2 = 1 by omega, show at' E 0 % 2 = 1 by omega]; decide)]
  have e : checkR N E = 0 := if_neg (by omega)
  rw [e] at hK
  exact hK _ (f1.nb g4)
set_option maxHeartbeats 4000000 in
theorem rcheck_k {w : World} {vN vE : Value} {N E : List Int} (hN : Vw .u32 w vN N) (hE : Vw .u32 w vE E) (lN : Lim N) (lE : Lim E) (nN : N.length ≤ 4194304) (nE : E.length ≤ 4194304) {K : Value → World → Prop}
    (hK : ∀ w', Fr w w' nob → K (.int .i64 (checkR N E)) w') : callK Tryd.prog 10 [.agg #[vN, vE]] w K := by
  refine call_of Tryd.func10 Code.h10 (by simp [Code.c10]) ?_
  obtain ⟨A, c, rfl, hc, hr⟩ := hN
  obtain ⟨B, d, rfl, hd, hs⟩ := hE
  simp (disch := omega) only [wu64, wu32, wu8, fdiv_nn, EO, ↓EP, EQ, EM, ↓reduceIte, Int.reduceAdd, Int.reduceEq, Int.reduceLE, Int.reduceLT, Int.reduceMul, Int.reduceNeg, Int.reducePow, Int.reduceSub, Int.reduceToNat, Nat.reduceAdd, Nat.reduceEqDiff, Nat.reduceLT, Nat.reduceLeDiff, Nat.reduceMul, reduceCtorEq, Code.c10]
  refine al_k [.slice A N.length c, .slice B E.length d] rfl fun w1 n1 => ?_
  have f1 := n1.fr nob
  have k0 : ∀ w', Fr w1 w' nob → w'.cell? ⟨w.heap.size, 0, none⟩ = some (.slice A N.length c) := fun w' f => (n1.blk.nb f).has 0 _ rfl
  have k1 : ∀ w', Fr w1 w' nob → w'.cell? ⟨w.heap.size, 1, none⟩ = some (.slice B E.length d) := fun w' f => (n1.blk.nb f).has 1 _ rfl
  have c0 := k0 w1 (Fr.refl _ _)
  have c1 := k1 w1 (Fr.refl _ _)
  have bad : ∀ w', Fr w1 w' nob → (256 < N.length ∨ 256 < E.length ∨ bl (val N) < 512 ∨ bl (val E) < 2 ∨ 64 < bl (val E) ∨ at' N 0 % 2 = 0 ∨ at' E 0 % 2 = 0) → K (.int .i64 80) w' := fun w' f h => by
    have e : checkR N E = 80 := if_pos h
    rw [e] at hK
    exact hK w' (f1.nb f)
  by_cases h1 : (256 : Int) < (N.length : Int)
  · simp (disch := omega) only [wu64, wu32, wu8, fdiv_nn, EO, ↓EP, EQ, EM, ↓reduceIte, Int.reduceAdd, Int.reduceEq, Int.reduceLE, Int.reduceLT, Int.reduceMul, Int.reduceNeg, Int.reducePow, Int.reduceSub, Int.reduceToNat, Nat.reduceAdd, Nat.reduceEqDiff, Nat.reduceLT, Nat.reduceLeDiff, Nat.reduceMul, reduceCtorEq, c0, c1, h1]
    exact bad _ (Fr.refl _ _) (.inl (by omega))
  by_cases h2 : (256 : Int) < (E.length : Int)
  · simp (disch := omega) only [wu64, wu32, wu8, fdiv_nn, EO, ↓EP, EQ, EM, ↓reduceIte, Int.reduceAdd, Int.reduceEq, Int.reduceLE, Int.reduceLT, Int.reduceMul, Int.reduceNeg, Int.reducePow, Int.reduceSub, Int.reduceToNat, Nat.reduceAdd, Nat.reduceEqDiff, Nat.reduceLT, Nat.reduceLeDiff, Nat.reduceMul, reduceCtorEq, c0, c1, h1, h2]
    exact bad _ (Fr.refl _ _) (.inr (.inl (by omega)))
  simp (disch := omega) only [wu64, wu32, wu8, fdiv_nn, EO, ↓EP, EQ, EM, ↓reduceIte, Int.reduceAdd, Int.reduceEq, Int.reduceLE, Int.reduceLT, Int.reduceMul, Int.reduceNeg, Int.reducePow, Int.reduceSub, Int.reduceToNat, Nat.reduceAdd, Nat.reduceEqDiff, Nat.reduceLT, Nat.reduceLeDiff, Nat.reduceMul, reduceCtorEq, c0, c1, h1, h2]
  refine rbits_vw ⟨A, c, rfl, hc, hr.nb f1⟩ lN nN _ fun w2 f2 => ?_
  have c0 := k0 w2 f2
  have c1 := k1 w2 f2
  by_cases h3 : (bl (val N) : Int) < 512
  · simp (disch := omega) only [wu64, wu32, wu8, fdiv_nn, EO, ↓EP, EQ, EM, ↓reduceIte, Int.reduceAdd, Int.reduceEq, Int.reduceLE, Int.reduceLT, Int.reduceMul, Int.reduceNeg, Int.reducePow, Int.reduceSub, Int.reduceToNat, Nat.reduceAdd, Nat.reduceEqDiff, Nat.reduceLT, Nat.reduceLeDiff, Nat.reduceMul, reduceCtorEq, c0, c1, h3]
    exact bad _ f2 (.inr (.inr (.inl (by omega))))
  simp (disch := omega) only [wu64, wu32, wu8, fdiv_nn, EO, ↓EP, EQ, EM, ↓reduceIte, Int.reduceAdd, Int.reduceEq, Int.reduceLE, Int.reduceLT, Int.reduceMul, Int.reduceNeg, Int.reducePow, Int.reduceSub, Int.reduceToNat, Nat.reduceAdd, Nat.reduceEqDiff, Nat.reduceLT, Nat.reduceLeDiff, Nat.reduceMul, reduceCtorEq, c0, c1, h3]
  refine rbits_vw ⟨B, d, rfl, hd, (hs.nb f1).nb f2⟩ lE nE _ fun w3 f3 => ?_
  have f23 := f2.nb f3
  have c0 := k0 w3 f23
  have c1 := k1 w3 f23
  by_cases h4 : (bl (val E) : Int) < 2
  · simp (disch := omega) only [wu64, wu32, wu8, fdiv_nn, EO, ↓EP, EQ, EM, ↓reduceIte, Int.reduceAdd, Int.reduceEq, Int.reduceLE, Int.reduceLT, Int.reduceMul, Int.reduceNeg, Int.reducePow, Int.reduceSub, Int.reduceToNat, Nat.reduceAdd, Nat.reduceEqDiff, Nat.reduceLT, Nat.reduceLeDiff, Nat.reduceMul, reduceCtorEq, c0, c1, h4]
    exact bad _ f23 (.inr (.inr (.inr (.inl (by omega)))))
  simp (disch := omega) only [wu64, wu32, wu8, fdiv_nn, EO, ↓EP, EQ, EM, ↓reduceIte, Int.reduceAdd, Int.reduceEq, Int.reduceLE, Int.reduceLT, Int.reduceMul, Int.reduceNeg, Int.reducePow, Int.reduceSub, Int.reduceToNat, Nat.reduceAdd, Nat.reduceEqDiff, Nat.reduceLT, Nat.reduceLeDiff, Nat.reduceMul, reduceCtorEq, c0, c1, h4]
  refine rbits_vw ⟨B, d, rfl, hd, (hs.nb f1).nb f23⟩ lE nE _ fun w4 f4 => ?_
  have f24 := f23.nb f4
  have c0 := k0 w4 f24
  have c1 := k1 w4 f24
  by_cases h5 : (64 : Int) < (bl (val E) : Int)
  · simp (disch := omega) only [wu64, wu32, wu8, fdiv_nn, EO, ↓EP, EQ, EM, ↓reduceIte, Int.reduceAdd, Int.reduceEq, Int.reduceLE, Int.reduceLT, Int.reduceMul, Int.reduceNeg, Int.reducePow, Int.reduceSub, Int.reduceToNat, Nat.reduceAdd, Nat.reduceEqDiff, Nat.reduceLT, Nat.reduceLeDiff, Nat.reduceMul, reduceCtorEq, c0, c1, h5]
    exact bad _ f24 (.inr (.inr (.inr (.inr (.inl (by omega))))))
  have pN : 0 < N.length := bl_pos (by omega)
  have pE : 0 < E.length := bl_pos (by omega)
  obtain ⟨pa, rfl, hcN⟩ := pos_cellsN (((hr.nb f1).nb f24)) pN
  obtain ⟨pb, rfl, hcE⟩ := pos_cellsN (((hs.nb f1).nb f24)) pE
  have z0 := hcN 0 pN
  have z1 := hcE 0 pE
  have y0 := lim_at0 lN pN
  have y1 := lim_at0 lE pE
  have t0 : (at' N 0).tmod 2 = at' N 0 % 2 := Int.tmod_eq_emod_of_nonneg y0.1
  have t1 : (at' E 0).tmod 2 = at' E 0 % 2 := Int.tmod_eq_emod_of_nonneg y1.1
  by_cases h6 : at' N 0 % 2 = 0
  · simp (disch := omega) only [wu64, wu32, wu8, fdiv_nn, EO, ↓EP, EQ, EM, ↓reduceIte, Int.reduceAdd, Int.reduceEq, Int.reduceLE, Int.reduceLT, Int.reduceMul, Int.reduceNeg, Int.reducePow, Int.reduceSub, Int.reduceToNat, Nat.reduceAdd, Nat.reduceEqDiff, Nat.reduceLT, Nat.reduceLeDiff, Nat.reduceMul, reduceCtorEq, c0, c1, h5, z0, z1, t0, t1, h6]
    exact bad _ f24 (.inr (.inr (.inr (.inr (.inr (.inl h6))))))
  by_cases h7 : at' E 0 % 2 = 0
  · simp (disch := omega) only [wu64, wu32, wu8, fdiv_nn, EO, ↓EP, EQ, EM, ↓reduceIte, Int.reduceAdd, Int.reduceEq, Int.reduceLE, Int.reduceLT, Int.reduceMul, Int.reduceNeg, Int.reducePow, Int.reduceSub, Int.reduceToNat, Nat.reduceAdd, Nat.reduceEqDiff, Nat.reduceLT, Nat.reduceLeDiff, Nat.reduceMul, reduceCtorEq, c0, c1, h5, z0, z1, t0, t1, h6, h7]
    exact bad _ f24 (.inr (.inr (.inr (.inr (.inr (.inr h7))))))
  simp (disch := omega) only [wu64, wu32, wu8, fdiv_nn, EO, ↓EP, EQ, EM, ↓reduceIte, Int.reduceAdd, Int.reduceEq, Int.reduceLE, Int.reduceLT, Int.reduceMul, Int.reduceNeg, Int.reducePow, Int.reduceSub, Int.reduceToNat, Nat.reduceAdd, Nat.reduceEqDiff, Nat.reduceLT, Nat.reduceLeDiff, Nat.reduceMul, reduceCtorEq, c0, c1, h5, z0, z1, t0, t1, h6, h7]
  have e : checkR N E = 0 := if_neg (by omega)
  rw [e] at hK
  exact hK _ (f1.nb f24)
end Go.Proofs.YtcgplgpdcfocpaaDoor.Spec
end
section
namespace Go.Proofs.YtcgplgpdcfocpaaDoor.Der
open Go Go.Proofs.YtcgplgpdcfocpaaDoor.Spec Go.Proofs.YtcgplgpdcfocpaaDoor.Big
def kN0 : List Int := [1295419795, 3173228247, 2137395180, 1548933856, 3106420408, 3948765562, 1049120400, 779370009, 4082781268, 1057109357, 1184194943, 1393408190, 1811714008, 4142931574, 3115507167, 2773311948]
def kD0 : List Int := [4047561943, 3660979146, 4003215933, 1116455983, 1700758801, 463339884, 276911730, 3273242993, 4259602957, 2323668540, 3060677354, 1663890463, 3165263865, 2837972243, 519251194, 462218658]
theorem dig_foo : dig 1 [102, 111, 111, 0, 0, 0, 0] = [26, 201, 7, 92, 212, 39, 188, 144, 180, 138, 153, 102, 130, 140, 171, 74, 4, 194, 63, 223] := by decide +kernel
theorem info_zero : infoR 1 (List.replicate 20 0) = [48, 33, 48, 9, 6, 5, 43, 14, 3, 2, 26, 5, 0, 4, 20] ++ List.replicate 20 0 := by decide +kernel
theorem check_small : checkR [15] [3] = 80 := by decide +kernel
theorem check_key0 : checkR kN0 [3] = 0 := by decide +kernel
theorem bits_key0 : bl (val kN0) = 512 := by decide +kernel
theorem lim_key0 : Lim kN0 := by
  have h : kN0.all (fun x => decide (0 ≤ x ∧ x < 4294967296)) = true := by decide +kernel
  intro x hx
  simpa using List.all_eq_true.1 h x hx
end Go.Proofs.YtcgplgpdcfocpaaDoor.Der
end
section
set_option linter.unusedVariables false
set_option linter.unusedSimpArgs false
namespace Go.Proofs.YtcgplgpdcfocpaaDoor.Der
open Go Go.RowKit Go.Proofs Go.Proofs.YtcgplgpdcfocpaaDoor.Eng Go.Proofs.YtcgplgpdcfocpaaDoor.Code
set_option maxRecDepth 100000
attribute [local irreducible] callK S.W opsW scrW scrT
open Go.Proofs.YtcgplgpdcfocpaaDoor.Spec Go.Proofs.YtcgplgpdcfocpaaDoor.Big
attribute [local irreducible] putR putOidR infoR dig checkR kN0 kD0
theorem bl_lim {N : List Int} (h : Lim N) : bl (val N) ≤ 32 * N.length := by
  have hb := val_bd h
  rw [bl_le hb.1]
  have h2 := hb.2
  unfold pw at h2
  rw [Int.pow_mul, show (2 : Int) ^ 32 = 4294967296 from rfl]
  exact h2
def sizeK (N E : List Int) : Int := if checkR N E ≠ 0 then 0 else ((bl (val N) + 7) / 8 : Nat)
set_option maxHeartbeats 4000000 in
theorem sizek_k {w : World} {vN vE : Value} {N E : List Int} (hN : Vw .u32 w vN N) (hE : Vw .u32 w vE E) (lN : Lim N) (lE : Lim E) (nN : N.length ≤ 4194304) (nE : E.length ≤ 4194304) {K : Value → World → Prop}
    (hK : ∀ w', Fr w w' nob → K (.int .i64 (sizeK N E)) w') : callK Tryd.prog 11 [.agg #[vN, vE]] w K := by
  refine call_of Tryd.func11 Code.h11 (by simp [Code.c11]) ?_
  have hN0 := hN
  have hE0 := hE
  obtain ⟨A, c, rfl, hc, hr⟩ := hN0
  obtain ⟨B, d, rfl, hd, hs⟩ := hE0
  simp (disch := omega) only [wu64, wu32, wu8, fdiv_nn, EO, ↓EP, EQ, EM, ↓reduceIte, Int.reduceAdd, Int.reduceEq, Int.reduceLE, Int.reduceLT, Int.reduceMul, Int.reduceNeg, Int.reducePow, Int.reduceSub, Int.reduceToNat, Nat.reduceAdd, Nat.reduceEqDiff, Nat.reduceLT, Nat.reduceLeDiff, Nat.reduceMul, reduceCtorEq, Code.c11]
  refine al_k [.slice A N.length c, .slice B E.length d] rfl fun w1 n1 => ?_
  have f1 := n1.fr nob
  simp (disch := omega) only [wu64, wu32, wu8, fdiv_nn, EO, ↓EP, EQ, EM, ↓reduceIte, Int.reduceAdd, Int.reduceEq, Int.reduceLE, Int.reduceLT, Int.reduceMul, Int.reduceNeg, Int.reducePow, Int.reduceSub, Int.reduceToNat, Nat.reduceAdd, Nat.reduceEqDiff, Nat.reduceLT, Nat.reduceLeDiff, Nat.reduceMul, reduceCtorEq]
  refine n1.blk.ldAgg rfl ?_
  simp (disch := omega) only [wu64, wu32, wu8, fdiv_nn, EO, ↓EP, EQ, EM, ↓reduceIte, Int.reduceAdd, Int.reduceEq, Int.reduceLE, Int.reduceLT, Int.reduceMul, Int.reduceNeg, Int.reducePow, Int.reduceSub, Int.reduceToNat, Nat.reduceAdd, Nat.reduceEqDiff, Nat.reduceLT, Nat.reduceLeDiff, Nat.reduceMul, reduceCtorEq]
  refine check_k (hN.nb f1) (hE.nb f1) lN lE nN nE fun w2 f2 => ?_
  have f12 := f1.nb f2
  have c0 : w2.cell? ⟨w.heap.size, 0, none⟩ = some (.slice A N.length c) := (n1.blk.nb f2).has 0 _ rfl
  by_cases h : checkR N E = 0
  · have e : sizeK N E = ((bl (val N) + 7) / 8 : Nat) := if_neg (by simpa using h)
    rw [e] at hK
    have hbl : bl (val N) ≤ 134217728 := by have := bl_lim lN; omega
    simp (disch := omega) only [wu64, wu32, wu8, fdiv_nn, EO, ↓EP, EQ, EM, ↓reduceIte, Int.reduceAdd, Int.reduceEq, Int.reduceLE, Int.reduceLT, Int.reduceMul, Int.reduceNeg, Int.reducePow, Int.reduceSub, Int.reduceToNat, Nat.reduceAdd, Nat.reduceEqDiff, Nat.reduceLT, Nat.reduceLeDiff, Nat.reduceMul, reduceCtorEq, h, c0]
    refine bits_vw (hN.nb f12) lN (by omega) _ ?_
    simp (disch := omega) only [wu64, wu32, wu8, fdiv_nn, EO, ↓EP, EQ, EM, ↓reduceIte, Int.reduceAdd, Int.reduceEq, Int.reduceLE, Int.reduceLT, Int.reduceMul, Int.reduceNeg, Int.reducePow, Int.reduceSub, Int.reduceToNat, Nat.reduceAdd, Nat.reduceEqDiff, Nat.reduceLT, Nat.reduceLeDiff, Nat.reduceMul, reduceCtorEq]
    exact hK _ f12
  · have e : sizeK N E = 0 := if_pos h
    rw [e] at hK
    simp (disch := omega) only [wu64, wu32, wu8, fdiv_nn, EO, ↓EP, EQ, EM, ↓reduceIte, Int.reduceAdd, Int.reduceEq, Int.reduceLE, Int.reduceLT, Int.reduceMul, Int.reduceNeg, Int.reducePow, Int.reduceSub, Int.reduceToNat, Nat.reduceAdd, Nat.reduceEqDiff, Nat.reduceLT, Nat.reduceLeDiff, Nat.reduceMul, reduceCtorEq, h]
    exact hK _ f12
set_option maxHeartbeats 4000000 in
theorem rsizek_k {w : World} {vN vE : Value} {N E : List Int} (hN : Vw .u32 w vN N) (hE : Vw .u32 w vE E) (lN : Lim N) (lE : Lim E) (nN : N.length ≤ 4194304) (nE : E.length ≤ 4194304) {K : Value → World → Prop}
    (hK : ∀ w', Fr w w' nob → K (.int .i64 (sizeK N E)) w') : callK Tryd.prog 12 [.agg #[vN, vE]] w K := by
  refine call_of Tryd.func12 Code.h12 (by simp [Code.c12]) ?_
  have hN0 := hN
  have hE0 := hE
  obtain ⟨A, c, rfl, hc, hr⟩ := hN0
  obtain ⟨B, d, rfl, hd, hs⟩ := hE0
  simp (disch := omega) only [wu64, wu32, wu8, fdiv_nn, EO, ↓EP, EQ, EM, ↓reduceIte, Int.reduceAdd, Int.reduceEq, Int.reduceLE, Int.reduceLT, Int.reduceMul, Int.reduceNeg, Int.reducePow, Int.reduceSub, Int.reduceToNat, Nat.reduceAdd, Nat.reduceEqDiff, Nat.reduceLT, Nat.reduceLeDiff, Nat.reduceMul, reduceCtorEq, Code.c12]
  refine al_k [.slice A N.length c, .slice B E.length d] rfl fun w1 n1 => ?_
  have f1 := n1.fr nob
  simp (disch := omega) only [wu64, wu32, wu8, fdiv_nn, EO, ↓EP, EQ, EM, ↓reduceIte, Int.reduceAdd, Int.reduceEq, Int.reduceLE, Int.reduceLT, Int.reduceMul, Int.reduceNeg, Int.reducePow, Int.reduceSub, Int.reduceToNat, Nat.reduceAdd, Nat.reduceEqDiff, Nat.reduceLT, Nat.reduceLeDiff, Nat.reduceMul, reduceCtorEq]
  refine n1.blk.ldAgg rfl ?_
  simp (disch := omega) only [wu64, wu32, wu8, fdiv_nn, EO, ↓EP, EQ, EM, ↓reduceIte, Int.reduceAdd, Int.reduceEq, Int.reduceLE, Int.reduceLT, Int.reduceMul, Int.reduceNeg, Int.reducePow, Int.reduceSub, Int.reduceToNat, Nat.reduceAdd, Nat.reduceEqDiff, Nat.reduceLT, Nat.reduceLeDiff, Nat.reduceMul, reduceCtorEq]
  refine rcheck_k (hN.nb f1) (hE.nb f1) lN lE nN nE fun w2 f2 => ?_
  have f12 := f1.nb f2
  have c0 : w2.cell? ⟨w.heap.size, 0, none⟩ = some (.slice A N.length c) := (n1.blk.nb f2).has 0 _ rfl
  by_cases h : checkR N E = 0
  · have e : sizeK N E = ((bl (val N) + 7) / 8 : Nat) := if_neg (by simpa using h)
    rw [e] at hK
    have hbl : bl (val N) ≤ 134217728 := by have := bl_lim lN; omega
    simp (disch := omega) only [wu64, wu32, wu8, fdiv_nn, EO, ↓EP, EQ, EM, ↓reduceIte, Int.reduceAdd, Int.reduceEq, Int.reduceLE, Int.reduceLT, Int.reduceMul, Int.reduceNeg, Int.reducePow, Int.reduceSub, Int.reduceToNat, Nat.reduceAdd, Nat.reduceEqDiff, Nat.reduceLT, Nat.reduceLeDiff, Nat.reduceMul, reduceCtorEq, h, c0]
    refine rbits_vw (hN.nb f12) lN nN _ fun w3 f3 => ?_
    simp (disch := omega) only [wu64, wu32, wu8, fdiv_nn, EO, ↓EP, EQ, EM, ↓reduceIte, Int.reduceAdd, Int.reduceEq, Int.reduceLE, Int.reduceLT, Int.reduceMul, Int.reduceNeg, Int.reducePow, Int.reduceSub, Int.reduceToNat, Nat.reduceAdd, Nat.reduceEqDiff, Nat.reduceLT, Nat.reduceLeDiff, Nat.reduceMul, reduceCtorEq]
    exact hK _ (f12.nb f3)
  · have e : sizeK N E = 0 := if_pos h
    rw [e] at hK
    simp (disch := omega) only [wu64, wu32, wu8, fdiv_nn, EO, ↓EP, EQ, EM, ↓reduceIte, Int.reduceAdd, Int.reduceEq, Int.reduceLE, Int.reduceLT, Int.reduceMul, Int.reduceNeg, Int.reducePow, Int.reduceSub, Int.reduceToNat, Nat.reduceAdd, Nat.reduceEqDiff, Nat.reduceLT, Nat.reduceLeDiff, Nat.reduceMul, reduceCtorEq, h]
    exact hK _ f12
theorem bslV {e n : Nat} {k : IntKind} {w : World} {parts : List (Nat × Value)} {l : List Int} {K : Value → World → Prop} (h : fillS 1 ((Array.range (n * 1)).map (#[Value.int k 0][· % #[Value.int k 0].size]!)) parts = some (nums k l).toArray)
    (hK : ∀ w', New w w' (nums k l) → K (.slice (some ⟨w.heap.size, 0, none⟩) n n) w') : bslT e 1 n #[.int k 0] parts w K .mk := ⟨_, h, hK _ (new_of rfl (by simp))⟩
theorem fillK2 (A B : Option Addr) (a b c d : Nat) : fillL [(0, 1), (1, 1)] #[(.slice none 0 0), (.slice none 0 0)] [(0, .slice A a b), (1, .slice B c d)] = some [Value.slice A a b, .slice B c d].toArray := by kernel_rfl
theorem len_kN0 : kN0.length = 16 := by unfold kN0; rfl
theorem known0_k {w : World} {K : Value → World → Prop}
    (hK : ∀ A B v w', Rd w' A (nums .u32 kN0) → Rd w' B (nums .u32 [3]) → Fr w w' nob → K (.tuple #[.agg #[.slice A 16 16, .slice B 1 1], v]) w') : callK Tryd.prog 24 [.int .i64 0] w K := by
  refine call_of Tryd.func24 Code.h24 (by simp [Code.c24]) ?_
  simp (disch := omega) only [wu64, wu32, wu8, fdiv_nn, EO, ↓EP, EQ, EM, ↓reduceIte, Int.reduceAdd, Int.reduceEq, Int.reduceLE, Int.reduceLT, Int.reduceMul, Int.reduceNeg, Int.reducePow, Int.reduceSub, Int.reduceToNat, Nat.reduceAdd, Nat.reduceEqDiff, Nat.reduceLT, Nat.reduceLeDiff, Nat.reduceMul, reduceCtorEq, Code.c24]
  refine al_k [.slice none 0 0, .slice none 0 0] rfl fun w1 n1 => ?_
  simp (disch := omega) only [wu64, wu32, wu8, fdiv_nn, EO, ↓EP, EQ, EM, ↓reduceIte, Int.reduceAdd, Int.reduceEq, Int.reduceLE, Int.reduceLT, Int.reduceMul, Int.reduceNeg, Int.reducePow, Int.reduceSub, Int.reduceToNat, Nat.reduceAdd, Nat.reduceEqDiff, Nat.reduceLT, Nat.reduceLeDiff, Nat.reduceMul, reduceCtorEq]
  refine bslV (l := kN0) (by unfold kN0; kernel_rfl) fun w2 n2 => ?_
  simp (disch := omega) only [wu64, wu32, wu8, fdiv_nn, EO, ↓EP, EQ, EM, ↓reduceIte, Int.reduceAdd, Int.reduceEq, Int.reduceLE, Int.reduceLT, Int.reduceMul, Int.reduceNeg, Int.reducePow, Int.reduceSub, Int.reduceToNat, Nat.reduceAdd, Nat.reduceEqDiff, Nat.reduceLT, Nat.reduceLeDiff, Nat.reduceMul, reduceCtorEq]
  refine bslV (l := [3]) (by kernel_rfl) fun w3 n3 => ?_
  simp (disch := omega) only [wu64, wu32, wu8, fdiv_nn, EO, ↓EP, EQ, EM, ↓reduceIte, Int.reduceAdd, Int.reduceEq, Int.reduceLE, Int.reduceLT, Int.reduceMul, Int.reduceNeg, Int.reducePow, Int.reduceSub, Int.reduceToNat, Nat.reduceAdd, Nat.reduceEqDiff, Nat.reduceLT, Nat.reduceLeDiff, Nat.reduceMul, reduceCtorEq]
  refine ⟨_, fillK2 _ _ _ _ _ _, ?_⟩
  simp (disch := omega) only [wu64, wu32, wu8, fdiv_nn, EO, ↓EP, EQ, EM, ↓reduceIte, Int.reduceAdd, Int.reduceEq, Int.reduceLE, Int.reduceLT, Int.reduceMul, Int.reduceNeg, Int.reducePow, Int.reduceSub, Int.reduceToNat, Nat.reduceAdd, Nat.reduceEqDiff, Nat.reduceLT, Nat.reduceLeDiff, Nat.reduceMul, reduceCtorEq]
  refine bslV (l := kD0) (by unfold kD0; kernel_rfl) fun w4 n4 => ?_
  simp (disch := omega) only [wu64, wu32, wu8, fdiv_nn, EO, ↓EP, EQ, EM, ↓reduceIte, Int.reduceAdd, Int.reduceEq, Int.reduceLE, Int.reduceLT, Int.reduceMul, Int.reduceNeg, Int.reducePow, Int.reduceSub, Int.reduceToNat, Nat.reduceAdd, Nat.reduceEqDiff, Nat.reduceLT, Nat.reduceLeDiff, Nat.reduceMul, reduceCtorEq]
  have hB := (((n1.blk.nb (n2.fr nob)).nb (n3.fr nob)).nb (n4.fr nob))
  refine st_whole (cs := [.slice (some ⟨w1.heap.size, 0, none⟩) 16 16, .slice (some ⟨w2.heap.size, 0, none⟩) 1 1]) hB rfl rfl (by simp; exact ⟨rfl, rfl⟩) fun w5 p5 => ?_
  simp (disch := omega) only [wu64, wu32, wu8, fdiv_nn, EO, ↓EP, EQ, EM, ↓reduceIte, Int.reduceAdd, Int.reduceEq, Int.reduceLE, Int.reduceLT, Int.reduceMul, Int.reduceNeg, Int.reducePow, Int.reduceSub, Int.reduceToNat, Nat.reduceAdd, Nat.reduceEqDiff, Nat.reduceLT, Nat.reduceLeDiff, Nat.reduceMul, reduceCtorEq]
  refine p5.blk.ldAgg rfl ?_
  have hz1 := n1.size
  have hz2 := n2.size
  have hz3 := n3.size
  have hz4 := n4.size
  have f2 : Fr w w4 nob := (((n1.fr nob).nb (n2.fr nob)).nb (n3.fr nob)).nb (n4.fr nob)
  refine hK _ _ _ w5 ?_ ?_ (f2.trans p5.fr fun x hx e => by omega)
  · have h := (n2.rdv.nb (n3.fr nob)).nb (n4.fr nob)
    exact h.fr p5.fr (.inr fun p e x => by cases e; simp only at x; omega)
  · have h := n3.rdv.nb (n4.fr nob)
    exact h.fr p5.fr (.inr fun p e x => by cases e; simp only at x; omega)
end Go.Proofs.YtcgplgpdcfocpaaDoor.Der
end
section
set_option linter.unusedVariables false
set_option linter.unusedSimpArgs false
namespace Go.Proofs.YtcgplgpdcfocpaaDoor.Der
open Go Go.RowKit Go.Proofs Go.Proofs.YtcgplgpdcfocpaaDoor.Eng Go.Proofs.YtcgplgpdcfocpaaDoor.Code
set_option maxRecDepth 100000
attribute [local irreducible] callK S.W opsW scrW scrT
open Go.Proofs.YtcgplgpdcfocpaaDoor.Spec Go.Proofs.YtcgplgpdcfocpaaDoor.Big
attribute [local irreducible] putR putOidR infoR dig checkR kN0 kD0
theorem num8_k {e : Int} {w : World} {K : Value → World → Prop} (hK : K (.int .i64 e) w) : callK Tryd.prog 8 [.int .i64 e] w K := by
  refine call_of Tryd.func8 Code.h8 (by simp [Code.c8]) ?_
  simp (disch := omega) only [wu64, wu32, wu8, fdiv_nn, EO, ↓EP, EQ, EM, ↓reduceIte, Int.reduceAdd, Int.reduceEq, Int.reduceLE, Int.reduceLT, Int.reduceMul, Int.reduceNeg, Int.reducePow, Int.reduceSub, Int.reduceToNat, Nat.reduceAdd, Nat.reduceEqDiff, Nat.reduceLT, Nat.reduceLeDiff, Nat.reduceMul, reduceCtorEq, Code.c8]
  exact hK
theorem mask_foo : maskR 1 [102, 111, 111] 3 = ([26, 201, 7], 0) := by
  have h : maskR 1 [102, 111, 111] 3 = ((maskL 1 [102, 111, 111] 3).take 3, 0) := if_neg (by decide)
  have h1 : maskL 1 [102, 111, 111] 1 = dig 1 [102, 111, 111, 0, 0, 0, 0] := by
    rw [maskL_succ, maskL_zero, List.nil_append]
    rfl
  rw [h, ← maskL_take (i := 1) (by decide) (by decide) _ (by rw [h1, dig_foo]; decide), h1, dig_foo]
  rfl
theorem str_foo : ((strOfNums [26, 201, 7]).toList == (⟨#[26, 201, 7]⟩ : ByteArray).toList) = true := by decide +kernel
theorem info_len0 : (infoR 1 (List.replicate 20 0)).length = 35 := by rw [info_zero]; rfl
theorem pad_zero : padR 1 (List.replicate 20 0) 46 = ([0, 1, 255, 255, 255, 255, 255, 255, 255, 255, 0, 48, 33, 48, 9, 6, 5, 43, 14, 3, 2, 26, 5, 0, 4, 20] ++ List.replicate 20 0, 0) := by
  have h : padR 1 (List.replicate 20 0) 46 = if (46 : Int) < (infoR 1 (List.replicate 20 0)).length + 11 then ([], 2) else ([0, 1] ++ List.replicate ((46 : Int).toNat - (infoR 1 (List.replicate 20 0)).length - 3) 255 ++ [0] ++ infoR 1 (List.replicate 20 0), 0) := if_neg (by decide)
  rw [h, info_len0, if_neg (by decide), info_zero]
  rfl
theorem check_s {w : World} {A B : Option Addr} (hN : Rd w A (nums .u32 [15])) (hE : Rd w B (nums .u32 [3])) {K : Value → World → Prop} (hK : ∀ w', Fr w w' nob → K (.int .i64 80) w') : callK Tryd.prog 9 [.agg #[.slice A 1 1, .slice B 1 1]] w K :=
  check_k (N := [15]) (E := [3]) (Vw.of rfl (by decide) hN) (Vw.of rfl (by decide) hE) (fun x h => by simp at h; omega) (fun x h => by simp at h; omega) (by decide) (by decide) fun w' f => by rw [check_small]; exact hK w' f
theorem size_k0 : sizeK kN0 [3] = 64 := by
  unfold sizeK
  rw [check_key0, bits_key0]
  rfl
theorem size_s {w : World} {A B : Option Addr} (hN : Rd w A (nums .u32 kN0)) (hE : Rd w B (nums .u32 [3])) {K : Value → World → Prop} (hK : ∀ w', Fr w w' nob → K (.int .i64 64) w') : callK Tryd.prog 11 [.agg #[.slice A 16 16, .slice B 1 1]] w K :=
  sizek_k (N := kN0) (E := [3]) (Vw.of len_kN0 (by decide) hN) (Vw.of rfl (by decide) hE) lim_key0 (fun x h => by simp at h; omega) (by rw [len_kN0]; decide) (by decide) fun w' f => by rw [size_k0]; exact hK w' f
set_option maxHeartbeats 8000000 in
theorem live8_k {w : World} (hT : Tb w) {K : Value → World → Prop} (hK : ∀ w', Fr w w' nob → K (.bool true) w') : callK Tryd.prog 7 [] w K := by
  refine call_of Tryd.func7 Code.h7 (by simp [Code.c7]) ?_
  simp (disch := omega) only [wu64, wu32, wu8, fdiv_nn, EO, ↓EP, EQ, EM, ↓reduceIte, Int.reduceAdd, Int.reduceEq, Int.reduceLE, Int.reduceLT, Int.reduceMul, Int.reduceNeg, Int.reducePow, Int.reduceSub, Int.reduceToNat, Nat.reduceAdd, Nat.reduceEqDiff, Nat.reduceLT, Nat.reduceLeDiff, Nat.reduceMul, reduceCtorEq, Code.c7]
  refine bsl3 fun w1 n1 => ?_
  simp (disch := omega) only [wu64, wu32, wu8, fdiv_nn, EO, ↓EP, EQ, EM, ↓reduceIte, Int.reduceAdd, Int.reduceEq, Int.reduceLE, Int.reduceLT, Int.reduceMul, Int.reduceNeg, Int.reducePow, Int.reduceSub, Int.reduceToNat, Nat.reduceAdd, Nat.reduceEqDiff, Nat.reduceLT, Nat.reduceLeDiff, Nat.reduceMul, reduceCtorEq, ↓i_cvidT, ↓i_cvbsJ]
  refine cvid_k n1.rdl fun w2 f2 r2 => ?_
  have f02 : Fr w w2 nob := (n1.fr nob).trans f2 fun x hx e => by omega
  simp (disch := omega) only [wu64, wu32, wu8, fdiv_nn, EO, ↓EP, EQ, EM, ↓reduceIte, Int.reduceAdd, Int.reduceEq, Int.reduceLE, Int.reduceLT, Int.reduceMul, Int.reduceNeg, Int.reducePow, Int.reduceSub, Int.reduceToNat, Nat.reduceAdd, Nat.reduceEqDiff, Nat.reduceLT, Nat.reduceLeDiff, Nat.reduceMul, reduceCtorEq]
  refine mask_k (seed := [102, 111, 111]) (hT.fr f02 (fun x => x) (fun x => x)) (Nat.le_refl _) r2 (by decide) fun v3 w3 h3 u3 f3 => ?_
  rw [mask_foo] at h3 ⊢
  obtain ⟨A3, c3, rfl, hc3, hr3⟩ := h3
  have f03 := f02.nb f3
  simp (disch := omega) only [wu64, wu32, wu8, fdiv_nn, EO, ↓EP, EQ, EM, ↓reduceIte, Int.reduceAdd, Int.reduceEq, Int.reduceLE, Int.reduceLT, Int.reduceMul, Int.reduceNeg, Int.reducePow, Int.reduceSub, Int.reduceToNat, Nat.reduceAdd, Nat.reduceEqDiff, Nat.reduceLT, Nat.reduceLeDiff, Nat.reduceMul, reduceCtorEq]
  refine al_k (nums .u8 (List.replicate 20 0)) (by kernel_rfl) fun w4 n4 => ?_
  have f04 := f03.nb (n4.fr nob)
  have hv4 : Vw .u8 w4 (.slice (some ⟨w3.heap.size, 0, none⟩) 20 20) (List.replicate 20 0) := n4.sl.vw
  simp (disch := omega) only [wu64, wu32, wu8, fdiv_nn, EO, ↓EP, EQ, EM, ↓reduceIte, Int.reduceAdd, Int.reduceEq, Int.reduceLE, Int.reduceLT, Int.reduceMul, Int.reduceNeg, Int.reducePow, Int.reduceSub, Int.reduceToNat, Nat.reduceAdd, Nat.reduceEqDiff, Nat.reduceLT, Nat.reduceLeDiff, Nat.reduceMul, reduceCtorEq]
  refine pad_k (by decide) hv4 (by decide) fun v5 w5 g5 => ?_
  rw [pad_zero] at g5 ⊢
  have f05 := f04.nb g5.fr
  obtain ⟨A5, c5, rfl, hc5, hr5, _⟩ := g5.sl.read
  simp (disch := omega) only [wu64, wu32, wu8, fdiv_nn, EO, ↓EP, EQ, EM, ↓reduceIte, Int.reduceAdd, Int.reduceEq, Int.reduceLE, Int.reduceLT, Int.reduceMul, Int.reduceNeg, Int.reducePow, Int.reduceSub, Int.reduceToNat, Nat.reduceAdd, Nat.reduceEqDiff, Nat.reduceLT, Nat.reduceLeDiff, Nat.reduceMul, reduceCtorEq, pr2]
  refine known0_k fun A6 B6 v6 w6 r6 q6 f6 => ?_
  have f06 := f05.nb f6
  simp (disch := omega) only [wu64, wu32, wu8, fdiv_nn, EO, ↓EP, EQ, EM, ↓reduceIte, Int.reduceAdd, Int.reduceEq, Int.reduceLE, Int.reduceLT, Int.reduceMul, Int.reduceNeg, Int.reducePow, Int.reduceSub, Int.reduceToNat, Nat.reduceAdd, Nat.reduceEqDiff, Nat.reduceLT, Nat.reduceLeDiff, Nat.reduceMul, reduceCtorEq]
  refine al_k [.slice none 0 0, .slice none 0 0] rfl fun w7 n7 => ?_
  simp (disch := omega) only [wu64, wu32, wu8, fdiv_nn, EO, ↓EP, EQ, EM, ↓reduceIte, Int.reduceAdd, Int.reduceEq, Int.reduceLE, Int.reduceLT, Int.reduceMul, Int.reduceNeg, Int.reducePow, Int.reduceSub, Int.reduceToNat, Nat.reduceAdd, Nat.reduceEqDiff, Nat.reduceLT, Nat.reduceLeDiff, Nat.reduceMul, reduceCtorEq]
  refine st_whole (cs := [.slice A6 16 16, .slice B6 1 1]) n7.blk rfl rfl (by simp; exact ⟨rfl, rfl⟩) fun w8 p8 => ?_
  have hz7 := n7.size
  have f07 := f06.nb (n7.fr nob)
  have f68 : Fr w6 w8 nob := (n7.fr nob).trans p8.fr fun x hx e => by omega
  have f08 := f06.nb f68
  have f38 : Fr w3 w8 nob := (((n4.fr nob).nb g5.fr).nb f6).nb f68
  have f58 : Fr w5 w8 nob := f6.nb f68
  simp (disch := omega) only [wu64, wu32, wu8, fdiv_nn, EO, ↓EP, EQ, EM, ↓reduceIte, Int.reduceAdd, Int.reduceEq, Int.reduceLE, Int.reduceLT, Int.reduceMul, Int.reduceNeg, Int.reducePow, Int.reduceSub, Int.reduceToNat, Nat.reduceAdd, Nat.reduceEqDiff, Nat.reduceLT, Nat.reduceLeDiff, Nat.reduceMul, reduceCtorEq]
  refine num8_k ?_
  simp (disch := omega) only [wu64, wu32, wu8, fdiv_nn, EO, ↓EP, EQ, EM, ↓reduceIte, Int.reduceAdd, Int.reduceEq, Int.reduceLE, Int.reduceLT, Int.reduceMul, Int.reduceNeg, Int.reducePow, Int.reduceSub, Int.reduceToNat, Nat.reduceAdd, Nat.reduceEqDiff, Nat.reduceLT, Nat.reduceLeDiff, Nat.reduceMul, reduceCtorEq]
  refine num8_k ?_
  simp (disch := omega) only [wu64, wu32, wu8, fdiv_nn, EO, ↓EP, EQ, EM, ↓reduceIte, Int.reduceAdd, Int.reduceEq, Int.reduceLE, Int.reduceLT, Int.reduceMul, Int.reduceNeg, Int.reducePow, Int.reduceSub, Int.reduceToNat, Nat.reduceAdd, Nat.reduceEqDiff, Nat.reduceLT, Nat.reduceLeDiff, Nat.reduceMul, reduceCtorEq, ↓i_cvidT, ↓i_cvbsJ]
  refine cvbs_k (l := [26, 201, 7]) (hr3.nb f38) rfl ?_
  simp (disch := omega) only [wu64, wu32, wu8, fdiv_nn, EO, ↓EP, EQ, EM, ↓reduceIte, Int.reduceAdd, Int.reduceEq, Int.reduceLE, Int.reduceLT, Int.reduceMul, Int.reduceNeg, Int.reducePow, Int.reduceSub, Int.reduceToNat, Nat.reduceAdd, Nat.reduceEqDiff, Nat.reduceLT, Nat.reduceLeDiff, Nat.reduceMul, reduceCtorEq]
  refine eql_k str_foo ?_
  have hlen : ([0, 1, 255, 255, 255, 255, 255, 255, 255, 255, 0, 48, 33, 48, 9, 6, 5, 43, 14, 3, 2, 26, 5, 0, 4, 20] ++ List.replicate 20 (0 : Int)).length = 46 := by decide
  obtain ⟨pa, hpa, _, hcl⟩ := (hr5.nb f58).get (by rw [nums_length, hlen]; decide)
  subst hpa
  have z1 : w8.cell? (pa.add 1) = some (.int .u8 1) := hcl.numN (j := 1) (by rw [hlen]; decide)
  have z10 : w8.cell? (pa.add 10) = some (.int .u8 0) := hcl.numN (j := 10) (by rw [hlen]; decide)
  have z11 : w8.cell? (pa.add 11) = some (.int .u8 48) := hcl.numN (j := 11) (by rw [hlen]; decide)
  simp (disch := omega) only [wu64, wu32, wu8, fdiv_nn, EO, ↓EP, EQ, EM, ↓reduceIte, Int.reduceAdd, Int.reduceEq, Int.reduceLE, Int.reduceLT, Int.reduceMul, Int.reduceNeg, Int.reducePow, Int.reduceSub, Int.reduceToNat, Nat.reduceAdd, Nat.reduceEqDiff, Nat.reduceLT, Nat.reduceLeDiff, Nat.reduceMul, reduceCtorEq, hlen, z1, z10, z11]
  refine bslV (l := [15]) (by kernel_rfl) fun w9 n9 => ?_
  have f9 := n9.fr nob
  simp (disch := omega) only [wu64, wu32, wu8, fdiv_nn, EO, ↓EP, EQ, EM, ↓reduceIte, Int.reduceAdd, Int.reduceEq, Int.reduceLE, Int.reduceLT, Int.reduceMul, Int.reduceNeg, Int.reducePow, Int.reduceSub, Int.reduceToNat, Nat.reduceAdd, Nat.reduceEqDiff, Nat.reduceLT, Nat.reduceLeDiff, Nat.reduceMul, reduceCtorEq]
  refine bslV (l := [3]) (by kernel_rfl) fun w10 n10 => ?_
  have f10 := n10.fr nob
  simp (disch := omega) only [wu64, wu32, wu8, fdiv_nn, EO, ↓EP, EQ, EM, ↓reduceIte, Int.reduceAdd, Int.reduceEq, Int.reduceLE, Int.reduceLT, Int.reduceMul, Int.reduceNeg, Int.reducePow, Int.reduceSub, Int.reduceToNat, Nat.reduceAdd, Nat.reduceEqDiff, Nat.reduceLT, Nat.reduceLeDiff, Nat.reduceMul, reduceCtorEq]
  refine ⟨_, fillK2 _ _ _ _ _ _, ?_⟩
  simp (disch := omega) only [wu64, wu32, wu8, fdiv_nn, EO, ↓EP, EQ, EM, ↓reduceIte, Int.reduceAdd, Int.reduceEq, Int.reduceLE, Int.reduceLT, Int.reduceMul, Int.reduceNeg, Int.reducePow, Int.reduceSub, Int.reduceToNat, Nat.reduceAdd, Nat.reduceEqDiff, Nat.reduceLT, Nat.reduceLeDiff, Nat.reduceMul, reduceCtorEq]
  refine check_s (n9.rdl.nb f10) n10.rdl fun w11 f11 => ?_
  have f8b : Fr w8 w11 nob := (f9.nb f10).nb f11
  simp (disch := omega) only [wu64, wu32, wu8, fdiv_nn, EO, ↓EP, EQ, EM, ↓reduceIte, Int.reduceAdd, Int.reduceEq, Int.reduceLE, Int.reduceLT, Int.reduceMul, Int.reduceNeg, Int.reducePow, Int.reduceSub, Int.reduceToNat, Nat.reduceAdd, Nat.reduceEqDiff, Nat.reduceLT, Nat.reduceLeDiff, Nat.reduceMul, reduceCtorEq]
  refine num8_k ?_
  simp (disch := omega) only [wu64, wu32, wu8, fdiv_nn, EO, ↓EP, EQ, EM, ↓reduceIte, Int.reduceAdd, Int.reduceEq, Int.reduceLE, Int.reduceLT, Int.reduceMul, Int.reduceNeg, Int.reducePow, Int.reduceSub, Int.reduceToNat, Nat.reduceAdd, Nat.reduceEqDiff, Nat.reduceLT, Nat.reduceLeDiff, Nat.reduceMul, reduceCtorEq]
  refine (p8.blk.nb f8b).ldAgg rfl ?_
  simp (disch := omega) only [wu64, wu32, wu8, fdiv_nn, EO, ↓EP, EQ, EM, ↓reduceIte, Int.reduceAdd, Int.reduceEq, Int.reduceLE, Int.reduceLT, Int.reduceMul, Int.reduceNeg, Int.reducePow, Int.reduceSub, Int.reduceToNat, Nat.reduceAdd, Nat.reduceEqDiff, Nat.reduceLT, Nat.reduceLeDiff, Nat.reduceMul, reduceCtorEq]
  refine size_s ((r6.nb f68).nb f8b) ((q6.nb f68).nb f8b) fun w12 f12 => ?_
  simp (disch := omega) only [wu64, wu32, wu8, fdiv_nn, EO, ↓EP, EQ, EM, ↓reduceIte, Int.reduceAdd, Int.reduceEq, Int.reduceLE, Int.reduceLT, Int.reduceMul, Int.reduceNeg, Int.reducePow, Int.reduceSub, Int.reduceToNat, Nat.reduceAdd, Nat.reduceEqDiff, Nat.reduceLT, Nat.reduceLeDiff, Nat.reduceMul, reduceCtorEq]
  exact hK _ ((f08.nb f8b).nb f12)
end Go.Proofs.YtcgplgpdcfocpaaDoor.Der
end
section
set_option linter.unusedVariables false
set_option linter.unusedSimpArgs false
namespace Go.Proofs.YtcgplgpdcfocpaaDoor.Der
open Go Go.RowKit Go.Proofs Go.Proofs.YtcgplgpdcfocpaaDoor.Eng Go.Proofs.YtcgplgpdcfocpaaDoor.Code
set_option maxRecDepth 100000
attribute [local irreducible] callK S.W opsW scrW scrT
open Go.Proofs.YtcgplgpdcfocpaaDoor.Spec Go.Proofs.YtcgplgpdcfocpaaDoor.Big
attribute [local irreducible] checkR sizeK
theorem scrX_pg (P : Program) (l : List O) (d : Nat) (g) (i : I) (r cs) (K) (ρ : Env) (w : World) : scrX P l 0 (some ⟨some d, some g, i⟩) r cs K ρ w = gB (ρ g.1) g.2 (rW i ρ w fun v => scrT P l r cs K (upd ρ d v) w) (scrT P l r cs K (upd ρ d undef) w) .mk .mk := (rfl)
theorem scrX_qg (P : Program) (l : List O) (d : Nat) (g) (i : I) (r cs) (K) (ρ : Env) (w : World) : scrX P l 1 (some ⟨some d, some g, i⟩) r cs K ρ w = gB (ρ g.1) g.2 (qW P i ρ w fun v => scrT P l r cs K (upd ρ d v) w) (scrT P l r cs K (upd ρ d undef) w) .mk .mk := (rfl)
theorem scrX_lg (P : Program) (l : List O) (d : Nat) (g) (i : I) (r cs) (K) (ρ : Env) (w : World) : scrX P l 2 (some ⟨some d, some g, i⟩) r cs K ρ w = ∀ m, gB (ρ g.1) g.2 (iW P i ρ (w.drewN m) fun v w' => allC cs w' ∧ scrT P l r cs K (upd ρ d v) w') (allC cs (w.drewN m) ∧ scrT P l r cs K (upd ρ d undef) (w.drewN m)) .mk .mk := (rfl)
theorem scrX_fg (P : Program) (l : List O) (d : Nat) (g) (k : TyK) (a : Operand) (r cs) (K) (ρ : Env) (w : World) : scrX P l 3 (some ⟨some d, some g, .ld k a⟩) r cs K ρ w = gB (ρ g.1) g.2 (ptrK (ev ρ a) fun p => ldK w k p fun v => scrT P l r ((k, p, v) :: cs) K (upd ρ d v) w) (scrT P l r cs K (upd ρ d undef) w) .mk .mk := (rfl)
set_option maxHeartbeats 8000000 in
theorem checks_k {w : World} (hT : Tb w) {vN vE : Value} {N E : List Int} (hN : Vw .u32 w vN N) (hE : Vw .u32 w vE E) (lN : Lim N) (lE : Lim E) (nN : N.length ≤ 9223372036854775807) (nE : E.length ≤ 9223372036854775807) {K : Value → World → Prop} (hK : ∀ w', Fr w w' nob → K (.bool true) w') : callK Tryd.prog 3 [.agg #[vN, vE]] w K := by
  refine call_of Tryd.func3 Code.h3 (by simp [Code.c3]) ?_
  have hN0 := hN
  have hE0 := hE
  obtain ⟨A, c, rfl, hc, hr⟩ := hN0
  obtain ⟨B, d, rfl, hd, hs⟩ := hE0
  simp (disch := omega) only [wu64, wu32, wu8, fdiv_nn, EO, ↓EP, EQ, EM, ↓reduceIte, Int.reduceAdd, Int.reduceEq, Int.reduceLE, Int.reduceLT, Int.reduceMul, Int.reduceNeg, Int.reducePow, Int.reduceSub, Int.reduceToNat, Nat.reduceAdd, Nat.reduceEqDiff, Nat.reduceLT, Nat.reduceLeDiff, Nat.reduceMul, reduceCtorEq, Code.c3]
  refine al_k [.slice A N.length c, .slice B E.length d] rfl fun w1 n1 => ?_
  have f1 := n1.fr nob
  have c0 : w1.cell? ⟨w.heap.size, 0, none⟩ = some (.slice A N.length c) := n1.blk.has 0 _ rfl
  have c1 : w1.cell? ⟨w.heap.size, 1, none⟩ = some (.slice B E.length d) := n1.blk.has 1 _ rfl
  by_cases h1 : (600 : Int) < (N.length : Int)
  · simp (disch := omega) only [wu64, wu32, wu8, fdiv_nn, EO, ↓EP, EQ, EM, ↓reduceIte, Int.reduceAdd, Int.reduceEq, Int.reduceLE, Int.reduceLT, Int.reduceMul, Int.reduceNeg, Int.reducePow, Int.reduceSub, Int.reduceToNat, Nat.reduceAdd, Nat.reduceEqDiff, Nat.reduceLT, Nat.reduceLeDiff, Nat.reduceMul, reduceCtorEq, c0, c1, h1]
    refine live8_k (hT.fr f1 (fun x => x) (fun x => x)) fun w2 f2 => ?_
    simp (disch := omega) only [wu64, wu32, wu8, fdiv_nn, EO, ↓EP, EQ, EM, ↓reduceIte, Int.reduceAdd, Int.reduceEq, Int.reduceLE, Int.reduceLT, Int.reduceMul, Int.reduceNeg, Int.reducePow, Int.reduceSub, Int.reduceToNat, Nat.reduceAdd, Nat.reduceEqDiff, Nat.reduceLT, Nat.reduceLeDiff, Nat.reduceMul, reduceCtorEq]
    exact hK _ (f1.nb f2)
  by_cases h2 : (600 : Int) < (E.length : Int)
  · simp (disch := omega) only [wu64, wu32, wu8, fdiv_nn, EO, ↓EP, EQ, EM, ↓reduceIte, Int.reduceAdd, Int.reduceEq, Int.reduceLE, Int.reduceLT, Int.reduceMul, Int.reduceNeg, Int.reducePow, Int.reduceSub, Int.reduceToNat, Nat.reduceAdd, Nat.reduceEqDiff, Nat.reduceLT, Nat.reduceLeDiff, Nat.reduceMul, reduceCtorEq, c0, c1, h1, h2]
    refine live8_k (hT.fr f1 (fun x => x) (fun x => x)) fun w2 f2 => ?_
    simp (disch := omega) only [wu64, wu32, wu8, fdiv_nn, EO, ↓EP, EQ, EM, ↓reduceIte, Int.reduceAdd, Int.reduceEq, Int.reduceLE, Int.reduceLT, Int.reduceMul, Int.reduceNeg, Int.reducePow, Int.reduceSub, Int.reduceToNat, Nat.reduceAdd, Nat.reduceEqDiff, Nat.reduceLT, Nat.reduceLeDiff, Nat.reduceMul, reduceCtorEq]
    exact hK _ (f1.nb f2)
  simp (disch := omega) only [wu64, wu32, wu8, fdiv_nn, EO, ↓EP, EQ, EM, ↓reduceIte, Int.reduceAdd, Int.reduceEq, Int.reduceLE, Int.reduceLT, Int.reduceMul, Int.reduceNeg, Int.reducePow, Int.reduceSub, Int.reduceToNat, Nat.reduceAdd, Nat.reduceEqDiff, Nat.reduceLT, Nat.reduceLeDiff, Nat.reduceMul, reduceCtorEq, c0, c1, h1, h2]
  refine (n1.blk.nb (fr_drewN' w1 _)).ldAgg rfl ?_
  simp (disch := omega) only [wu64, wu32, wu8, fdiv_nn, EO, ↓EP, EQ, EM, ↓reduceIte, Int.reduceAdd, Int.reduceEq, Int.reduceLE, Int.reduceLT, Int.reduceMul, Int.reduceNeg, Int.reducePow, Int.reduceSub, Int.reduceToNat, Nat.reduceAdd, Nat.reduceEqDiff, Nat.reduceLT, Nat.reduceLeDiff, Nat.reduceMul, reduceCtorEq]
  refine (n1.blk.nb (fr_drewN' w1 _)).ldAgg rfl ?_
  simp (disch := omega) only [wu64, wu32, wu8, fdiv_nn, EO, ↓EP, EQ, EM, ↓reduceIte, Int.reduceAdd, Int.reduceEq, Int.reduceLE, Int.reduceLT, Int.reduceMul, Int.reduceNeg, Int.reducePow, Int.reduceSub, Int.reduceToNat, Nat.reduceAdd, Nat.reduceEqDiff, Nat.reduceLT, Nat.reduceLeDiff, Nat.reduceMul, reduceCtorEq]
  intro m1
  have g1 := fr_drewN' w1 (1 + m1)
  have alls : ∀ w', Fr w1 w' nob → allC [(TyK.agg 2, ⟨w.heap.size, 0, none⟩, Value.agg #[Value.slice A N.length c, Value.slice B E.length d])] w' := fun w' f => ⟨⟨_, rfl, (n1.blk.nb f).cellsAt0, rfl⟩, trivial⟩
  refine check_k ((hN.nb f1).nb g1) ((hE.nb f1).nb g1) lN lE (by omega) (by omega) fun w2 f2 => ?_
  have f12 := g1.nb f2
  refine ⟨alls w2 f12, ?_⟩
  simp (disch := omega) only [wu64, wu32, wu8, fdiv_nn, EO, ↓EP, EQ, EM, ↓reduceIte, Int.reduceAdd, Int.reduceEq, Int.reduceLE, Int.reduceLT, Int.reduceMul, Int.reduceNeg, Int.reducePow, Int.reduceSub, Int.reduceToNat, Nat.reduceAdd, Nat.reduceEqDiff, Nat.reduceLT, Nat.reduceLeDiff, Nat.reduceMul, reduceCtorEq]
  intro m2
  have g2 := f12.nb (fr_drewN' w2 m2)
  refine num8_k ⟨alls _ g2, ?_⟩
  simp (disch := omega) only [wu64, wu32, wu8, fdiv_nn, EO, ↓EP, EQ, EM, ↓reduceIte, Int.reduceAdd, Int.reduceEq, Int.reduceLE, Int.reduceLT, Int.reduceMul, Int.reduceNeg, Int.reducePow, Int.reduceSub, Int.reduceToNat, Nat.reduceAdd, Nat.reduceEqDiff, Nat.reduceLT, Nat.reduceLeDiff, Nat.reduceMul, reduceCtorEq]
  intro m3
  have g3 := f12.nb (fr_drewN' w2 (m2 + m3))
  refine rcheck_k ((hN.nb f1).nb g3) ((hE.nb f1).nb g3) lN lE (by omega) (by omega) fun w3 f3 => ?_
  have f13 := g3.nb f3
  refine ⟨alls w3 f13, ?_⟩
  have hd : decide (checkR N E = checkR N E) = true := decide_eq_true rfl
  simp (disch := omega) only [wu64, wu32, wu8, fdiv_nn, EO, ↓EP, EQ, EM, ↓reduceIte, Int.reduceAdd, Int.reduceEq, Int.reduceLE, Int.reduceLT, Int.reduceMul, Int.reduceNeg, Int.reducePow, Int.reduceSub, Int.reduceToNat, Nat.reduceAdd, Nat.reduceEqDiff, Nat.reduceLT, Nat.reduceLeDiff, Nat.reduceMul, reduceCtorEq, hd, scrX_pg, scrX_qg, scrX_lg, scrX_fg]
  refine (n1.blk.nb f13).ldAgg rfl ?_
  simp (disch := omega) only [wu64, wu32, wu8, fdiv_nn, EO, ↓EP, EQ, EM, ↓reduceIte, Int.reduceAdd, Int.reduceEq, Int.reduceLE, Int.reduceLT, Int.reduceMul, Int.reduceNeg, Int.reducePow, Int.reduceSub, Int.reduceToNat, Nat.reduceAdd, Nat.reduceEqDiff, Nat.reduceLT, Nat.reduceLeDiff, Nat.reduceMul, reduceCtorEq, hd, scrX_pg, scrX_qg, scrX_lg, scrX_fg]
  refine (n1.blk.nb f13).ldAgg rfl ?_
  have alls2 : ∀ w', Fr w1 w' nob → allC [(TyK.agg 2, ⟨w.heap.size, 0, none⟩, Value.agg #[Value.slice A N.length c, Value.slice B E.length d]), (TyK.agg 2, ⟨w.heap.size, 0, none⟩, Value.agg #[Value.slice A N.length c, Value.slice B E.length d])] w' := fun w' f => ⟨⟨_, rfl, (n1.blk.nb f).cellsAt0, rfl⟩, ⟨_, rfl, (n1.blk.nb f).cellsAt0, rfl⟩, trivial⟩
  simp (disch := omega) only [wu64, wu32, wu8, fdiv_nn, EO, ↓EP, EQ, EM, ↓reduceIte, Int.reduceAdd, Int.reduceEq, Int.reduceLE, Int.reduceLT, Int.reduceMul, Int.reduceNeg, Int.reducePow, Int.reduceSub, Int.reduceToNat, Nat.reduceAdd, Nat.reduceEqDiff, Nat.reduceLT, Nat.reduceLeDiff, Nat.reduceMul, reduceCtorEq, hd, scrX_pg, scrX_qg, scrX_lg, scrX_fg]
  intro m4
  have g4 := f13.nb (fr_drewN' w3 m4)
  refine sizek_k ((hN.nb f1).nb g4) ((hE.nb f1).nb g4) lN lE (by omega) (by omega) fun w4 f4 => ?_
  have f14 := g4.nb f4
  refine ⟨alls2 w4 f14, ?_⟩
  simp (disch := omega) only [wu64, wu32, wu8, fdiv_nn, EO, ↓EP, EQ, EM, ↓reduceIte, Int.reduceAdd, Int.reduceEq, Int.reduceLE, Int.reduceLT, Int.reduceMul, Int.reduceNeg, Int.reducePow, Int.reduceSub, Int.reduceToNat, Nat.reduceAdd, Nat.reduceEqDiff, Nat.reduceLT, Nat.reduceLeDiff, Nat.reduceMul, reduceCtorEq, hd, scrX_pg, scrX_qg, scrX_lg, scrX_fg]
  intro m5
  have g5 := f14.nb (fr_drewN' w4 m5)
  refine rsizek_k ((hN.nb f1).nb g5) ((hE.nb f1).nb g5) lN lE (by omega) (by omega) fun w5 f5 => ?_
  have f15 := g5.nb f5
  refine ⟨alls2 w5 f15, ?_⟩
  have hd : decide (sizeK N E = sizeK N E) = true := decide_eq_true rfl
  simp (disch := omega) only [wu64, wu32, wu8, fdiv_nn, EO, ↓EP, EQ, EM, ↓reduceIte, Int.reduceAdd, Int.reduceEq, Int.reduceLE, Int.reduceLT, Int.reduceMul, Int.reduceNeg, Int.reducePow, Int.reduceSub, Int.reduceToNat, Nat.reduceAdd, Nat.reduceEqDiff, Nat.reduceLT, Nat.reduceLeDiff, Nat.reduceMul, reduceCtorEq, hd, scrX_pg, scrX_qg, scrX_lg, scrX_fg]
  intro m6
  have g6 := f15.nb (fr_drewN' w5 m6)
  refine live8_k (hT.fr (f1.nb g6) (fun x => x) (fun x => x)) fun w6 f6 => ?_
  have f16 := g6.nb f6
  refine ⟨alls2 w6 f16, ?_⟩
  simp (disch := omega) only [wu64, wu32, wu8, fdiv_nn, EO, ↓EP, EQ, EM, ↓reduceIte, Int.reduceAdd, Int.reduceEq, Int.reduceLE, Int.reduceLT, Int.reduceMul, Int.reduceNeg, Int.reducePow, Int.reduceSub, Int.reduceToNat, Nat.reduceAdd, Nat.reduceEqDiff, Nat.reduceLT, Nat.reduceLeDiff, Nat.reduceMul, reduceCtorEq, hd, scrX_pg, scrX_qg, scrX_lg, scrX_fg]
  intro m7
  exact hK _ (f1.nb (f16.nb (fr_drewN' w6 m7)))
end Go.Proofs.YtcgplgpdcfocpaaDoor.Der
end
section
namespace Go.Proofs.YtcgplgpdcfocpaaDoor
open Go
set_option maxRecDepth 100000
theorem stand_of {P : Program} {fn : Func} (h : (fn.params.toList.all fun t => !P.wantsStandIn t) = true) : ∀ (j : Nat) t, fn.params[j]? = some t → P.wantsStandIn t = false := by
  intro j t hj
  have := List.all_eq_true.1 h t (by rw [Array.mem_toList_iff]; exact Array.mem_of_getElem? hj)
  simpa using this
open Go Go.ChangeShapes Go.WideShapes Go.ChangeAt Go.WideMaps Go.WideElems Go.RowKit Go.Proofs.YtcgplgpdcfocpaaDoor.Eng Go.Proofs.YtcgplgpdcfocpaaDoor.Der
theorem open_rec2p {H : Type} {enc : TypeId × Value → H} {P : Program} {W : World} {base : Nat} {t : TypeId} {f0 f1 : Field} {v : Value} {d : DataW H} {p : List MemPlace} (ht : P.underlying t = some (.struct #[f0, f1])) (hc : P.cellsOf t = 2)
    (o0 : f0.offset = 0) (o1 : f1.offset = 1) (c0 : P.cellsOf f0.type = 1) (c1 : P.cellsOf f1.type = 1) (hval : Value.okWide P W .any base t v) (h : DataW.Trod enc P W 0 (fun _ => true) true t v d p) :
    ∃ (v0 v1 : Value) (n : Nat) (y0 y1 : DataW H × List MemPlace), v = .agg #[v0, v1] ∧ DataW.trod enc P W 0 (fun _ => true) true n f0.type [v0] = some y0 ∧ DataW.trod enc P W 0 (fun _ => true) true n f1.type [v1] = some y1 := by
  obtain ⟨cs, rfl, hs⟩ := okWide_struct ht hval
  obtain ⟨fuel, hf⟩ := h
  obtain ⟨xs, n, _, hx, hcl, hlen, hf⟩ := DataW.trod_struct ht hf
  obtain ⟨cl⟩ := cs
  rw [hc] at hs
  match cl, hs, xs, hlen with
  | [v0, v1], _, [y0, y1], _ =>
    have g0 := hf 0 f0 rfl
    have g1 := hf 1 f1 rfl
    rw [o0, c0] at g0
    rw [o1, c1] at g1
    exact ⟨v0, v1, n, y0, y1, rfl, g0, g1⟩
theorem rsaChecks_walk {H : Type} {enc : TypeId × Value → H} (W : World) (base : Nat) (args : Array Value) (ds : List (DataW H)) (p : List MemPlace) (hA0 : DataW.TrodAll enc Tryd.prog W 0 (fun _ => true) true Tryd.f3.params.toList args.toList ds p)
    (hval : ∀ (j : Nat) t v, Tryd.f3.params[j]? = some t → args[j]? = some v → Value.okWide Tryd.prog W .any base t v) (hz : (DataW.weightsEach Tryd.prog Tryd.f3.params.toList ds).all (· ≤ reachBytes) = true) (hL : laidMetH Tryd.prog laid2 W) :
    callK Tryd.prog 3 args.toList W fun v w' => v = .bool true ∧ Fr W w' nob := by
  have hA : DataW.TrodAll enc Tryd.prog W 0 (fun _ => true) true Tryd.f3.params.toList args.toList ds p := hA0
  rw [Tryd.params3] at hA hval
  obtain ⟨v0, d0, rfl, rfl, h0⟩ := trodAll_one hA
  obtain ⟨vN, vE, n, y0, y1, rfl, g0, g1⟩ := open_rec2p Tryd.underlying24 (by kernel_rfl) rfl rfl (by kernel_rfl) (by kernel_rfl) (hval 0 24 v0 rfl rfl) h0
  obtain ⟨A, c, N, rfl, hc, hr, wN, mN⟩ := Row.cell_slv Tryd.underlying22 Tryd.underlying46 cells_u32 g0
  obtain ⟨B, d, E, rfl, hd, hs, wE, mE⟩ := Row.cell_slv Tryd.underlying22 Tryd.underlying46 cells_u32 g1
  exact checks_k (of_laid hL) ⟨A, c, rfl, hc, hr⟩ ⟨B, d, rfl, hd, hs⟩ (fun x h => Row.wf_u32 (wN x h)) (fun x h => Row.wf_u32 (wE x h)) (by unfold maxLen at mN; omega) (by unfold maxLen at mE; omega) fun w' f => ⟨rfl, f⟩
theorem rsaChecks_lifted (os : Os) (started : os.Started) (H : Type) (enc : TypeId × Value → H) :
    ReturnsInHanded {} Tryd.checked os 3 .any (fun w args => (Rows.rsaChecksSpec.pre enc Tryd.prog Tryd.f3 [] false w args ∧ laidMetH Tryd.prog laid2 w) ∧ sizedMet enc Tryd.prog Tryd.f3 (OpenSpec.ofChange Rows.rsaChecksSpec) false w args)
      (Rows.rsaChecksSpec.post enc Tryd.prog Tryd.f3 false true false false) :=
  Row.lifted_of (C := Tryd.checked) (X := fun w _ => laidMetH Tryd.prog laid2 w) (fun _ _ _ hh h => h.of_heap hh) own started (by kernel_rfl) Tryd.func3
    (ChangeSpec.witness_shaped (enc := enc) (C := Tryd.checked) (os := os) (X := fun w _ => laidMetH Tryd.prog laid2 w) false (World.laidAll Tryd.prog os laid2) #[.agg #[.slice none 0 0, .slice none 0 0]] 8 (World.laidAll_os _ _ _) (lay_shaped os) (by kernel_rfl) (by kernel_rfl) (by kernel_rfl) (door_met os _))
    laidOut (tb := 4) (by kernel_rfl) Tryd.underlying4 rfl (of_decide_eq_true (by kernel_rfl)) (fun ds h => by rw [show Tryd.f3.params.size = 1 by kernel_rfl] at h; obtain ⟨a, rfl⟩ := Row.len1 h; exact ⟨rfl, rfl, rfl⟩)
    (fun W base args ds p hA hval hz hL => rsaChecks_walk (enc := enc) W base args ds p hA hval hz hL)
theorem rsaChecks_holds : Rows.RsaChecksSaid :=
  OpenClaim.holds_of_wide 3 Tryd.f3 rfl rfl rfl rfl rfl rfl rfl ⟨rfl, rfl, rfl, rfl, rfl⟩ rfl rfl rfl rfl rfl (by kernel_rfl) Tryd.func3 (by kernel_rfl)
    (of_decide_eq_true (by kernel_rfl)) (by unfold Func.isWrapper; first | (rw [if_pos (by decide +kernel)]; kernel_rfl) | (rw [if_neg (by decide +kernel)]; exact ⟨rfl, rfl⟩))
    (fun os started H enc _ => rsaChecks_lifted os started H enc)
theorem rsaChecks_card : Rows.RsaChecksCardSaid :=
  Claim7.holds_tied_plain_at .later [] [.data, .data, .data, .pinned] true (true, "4b9797bfd06e9fa53421857f70d4a36c777c49a37cacd77b9ca3a459656b2d16") false
    rsaChecks_holds (fun _ h => by cases h) (by kernel_rfl) (fun _ h => by cases h) rsaChecks_row_tie rfl ⟨rfl, rfl⟩ (by kernel_rfl) rfl
    (fun f fn hf hfn => by
      obtain rfl : f = 3 := Option.some.inj ((show Tryd.prog.funcNamed "chirograph/chirographlaw08.RsaChecks" = some 3 by kernel_rfl).symm.trans hf) |>.symm
      obtain rfl : fn = Tryd.f3 := (Option.some.inj (Tryd.func3.symm.trans hfn)).symm
      exact ⟨by kernel_rfl, stand_of (by kernel_rfl)⟩)
    (by kernel_rfl)
end Go.Proofs.YtcgplgpdcfocpaaDoor
end
