/- Object identifiers: numbers in bytes of seven bits, walked. -/
import Derived.Test.YtcflokckfjkdpaaDoorDt7
set_option linter.unusedVariables false
set_option linter.unusedSimpArgs false
namespace Go.Proofs.YtcflokckfjkdpaaDoor.Der
open Go Go.RowKit Go.Proofs Go.Proofs.YtcflokckfjkdpaaDoor.Eng Go.Proofs.YtcflokckfjkdpaaDoor.Code
set_option maxRecDepth 100000
attribute [local irreducible] callK S.W opsW scrW scrT

theorem u64_and127 {a : Int} (h : 0 ≤ a) (h' : a < 18446744073709551616) : bits .and .u64 a 127 = a % 128 := by
  obtain ⟨a, rfl⟩ := Int.eq_ofNat_of_zero_le h
  have ea : (BitVec.ofInt 64 (a : Int)).toNat = a := by simp; omega
  have eb : (BitVec.ofInt 64 (127 : Int)).toNat = 127 := by decide
  show IntKind.u64.wrap ((BitVec.ofInt 64 (a : Int) &&& BitVec.ofInt 64 (127 : Int)).toNat : Int) = _
  rw [BitVec.toNat_and, ea, eb, show (127 : Nat) = 2 ^ 7 - 1 by rfl, Nat.and_two_pow_sub_one_eq_mod]
  rw [wu64 (by omega) (by omega)]
  omega
theorem sevenHi_z : ∀ f, sevenHi f 0 = []
  | 0 => rfl
  | f + 1 => by rw [sevenHi, if_pos rfl]
theorem sevenHi_len : ∀ f v, (sevenHi f v).length ≤ f
  | 0, v => by simp [sevenHi]
  | f + 1, v => by
    rw [sevenHi]
    split
    · simp
    · have := sevenHi_len f (v / 128)
      simp; omega
theorem seven_len (v : Nat) : (sevenR v).length ≤ 11 := by
  have := sevenHi_len 10 (v / 128)
  simp [sevenR]; omega
theorem seven_byte (v : Nat) : ∀ x ∈ sevenR v, 0 ≤ x ∧ x < 256 := by
  have h : ∀ f v, ∀ x ∈ sevenHi f v, 0 ≤ x ∧ x < 256 := by
    intro f
    induction f with
    | zero => intro v x hx; simp [sevenHi] at hx
    | succ f ih =>
      intro v x hx
      rw [sevenHi] at hx
      split at hx
      · simp at hx
      · rw [List.mem_append] at hx
        rcases hx with hx | hx
        · exact ih _ x hx
        · simp at hx; omega
  intro x hx
  unfold sevenR at hx
  rw [List.mem_append] at hx
  rcases hx with hx | hx
  · exact h _ _ x hx
  · simp at hx; omega
theorem seven_vw {w : World} {v : Nat} (hv : v < 9223372036854775808) (K : Value → World → Prop)
    (hK : ∀ v' w', Gw .u8 w w' v' (sevenR v) → K v' w') : callK Tryd.prog 50 [.int .u64 v] w K := by
  refine call_of Tryd.func50 Code.h50 (by simp [Code.c50]) ?_
  have e0 := u64_and127 (a := (v : Int)) (by omega) (by omega)
  have e1 : IntKind.u8.wrap ((v : Int) % 128) = (v : Int) % 128 := wu8 (by omega) (by omega)
  simp (disch := omega) only [wu64, wu32, wu8, fdiv_nn, EO, ↓EP, EQ, EM, ↓reduceIte, Int.reduceAdd, Int.reduceEq, Int.reduceLE, Int.reduceLT, Int.reduceMul, Int.reduceNeg, Int.reducePow, Int.reduceSub, Int.reduceToNat, Nat.reduceAdd, Nat.reduceEqDiff, Nat.reduceLT, Nat.reduceLeDiff, Nat.reduceMul, reduceCtorEq, Code.c50, e0, e1]
  refine bsl1 fun w1 n1 => ?_
  have g1 : Gw .u8 w w1 (.slice (some ⟨w.heap.size, 0, none⟩) 1 1) [(v : Int) % 128] := ⟨n1.sl, fun b e => by cases e; exact Nat.le_refl _, n1.fr nob⟩
  simp (disch := omega) only [wu64, wu32, wu8, fdiv_nn, EO, ↓EP, EQ, EM, ↓reduceIte, Int.reduceAdd, Int.reduceEq, Int.reduceLE, Int.reduceLT, Int.reduceMul, Int.reduceNeg, Int.reducePow, Int.reduceSub, Int.reduceToNat, Nat.reduceAdd, Nat.reduceEqDiff, Nat.reduceLT, Nat.reduceLeDiff, Nat.reduceMul, reduceCtorEq]
  refine loop_inv (fun t ρ w' => ∃ (x f : Nat) (B : Value) (l : List Int), ρ 0 = .int .u64 x ∧ ρ 3 = B ∧ Gw .u8 w w' B l ∧ t = x ∧ x < 128 ^ f ∧ f ≤ 10 ∧ l.length + f ≤ 11 ∧ x < 9223372036854775808 ∧ sevenHi f x ++ l = sevenR v) _ ⟨v / 128, 10, _, _, by simp (disch := omega) only [wu64, wu32, wu8, fdiv_nn, EO, ↓EP, EQ, EM, ↓reduceIte, Int.reduceAdd, Int.reduceEq, Int.reduceLE, Int.reduceLT, Int.reduceMul, Int.reduceNeg, Int.reducePow, Int.reduceSub, Int.reduceToNat, Nat.reduceAdd, Nat.reduceEqDiff, Nat.reduceLT, Nat.reduceLeDiff, Nat.reduceMul, reduceCtorEq, Int.natCast_ediv], by simp (disch := omega) only [wu64, wu32, wu8, fdiv_nn, EO, ↓EP, EQ, EM, ↓reduceIte, Int.reduceAdd, Int.reduceEq, Int.reduceLE, Int.reduceLT, Int.reduceMul, Int.reduceNeg, Int.reducePow, Int.reduceSub, Int.reduceToNat, Nat.reduceAdd, Nat.reduceEqDiff, Nat.reduceLT, Nat.reduceLeDiff, Nat.reduceMul, reduceCtorEq], g1, rfl, by omega, by omega, by simp, by omega, by simp [sevenR]⟩ ?_
  rintro t ρ w2 hf ⟨x, f, B, l, h0, h3, g, ht, hx, hf10, hl, hx63, hs⟩ N hN
  clear hf
  obtain ⟨BA, bc, rfl, hbc, hBr⟩ := readn g.sl rfl
  by_cases hx0 : x = 0
  · rw [hx0] at h0 hs
    rw [sevenHi_z, List.nil_append] at hs
    subst hs
    simp (disch := omega) only [wu64, wu32, wu8, fdiv_nn, EO, ↓EP, EQ, EM, ↓reduceIte, Int.reduceAdd, Int.reduceEq, Int.reduceLE, Int.reduceLT, Int.reduceMul, Int.reduceNeg, Int.reducePow, Int.reduceSub, Int.reduceToNat, Nat.reduceAdd, Nat.reduceEqDiff, Nat.reduceLT, Nat.reduceLeDiff, Nat.reduceMul, reduceCtorEq, h0, h3, Int.natCast_zero]
    exact hK _ w2 g
  · obtain ⟨f, rfl⟩ : ∃ g, f = g + 1 := by
      cases f with
      | zero => simp at hx; omega
      | succ f => exact ⟨f, rfl⟩
    have ewb : IntKind.u8.wrap (x : Int) = ((x % 256 : Nat) : Int) := by rw [wu8_mod]; omega
    have eor : bits .or .u8 ((x % 256 : Nat) : Int) 128 = ((x % 128 + 128 : Nat) : Int) := by
      rw [d8_or128 ⟨by omega, by omega⟩]; omega
    rw [Nat.pow_succ] at hx
    rw [sevenHi, if_neg hx0] at hs
    simp (disch := omega) only [wu64, wu32, wu8, fdiv_nn, EO, ↓EP, EQ, EM, ↓reduceIte, Int.reduceAdd, Int.reduceEq, Int.reduceLE, Int.reduceLT, Int.reduceMul, Int.reduceNeg, Int.reducePow, Int.reduceSub, Int.reduceToNat, Nat.reduceAdd, Nat.reduceEqDiff, Nat.reduceLT, Nat.reduceLeDiff, Nat.reduceMul, reduceCtorEq, h0, h3, ewb, eor]
    refine bsl1 fun w3 n3 => ?_
    simp (disch := omega) only [wu64, wu32, wu8, fdiv_nn, EO, ↓EP, EQ, EM, ↓reduceIte, Int.reduceAdd, Int.reduceEq, Int.reduceLE, Int.reduceLT, Int.reduceMul, Int.reduceNeg, Int.reducePow, Int.reduceSub, Int.reduceToNat, Nat.reduceAdd, Nat.reduceEqDiff, Nat.reduceLT, Nat.reduceLeDiff, Nat.reduceMul, reduceCtorEq, h3]
    refine app_num n3.sl rfl (hBr.nb (n3.fr nob)) (by simp; omega) (by omega) fun v4 w4 a4 => ?_
    have g4 : Gw .u8 w w4 v4 (((x % 128 + 128 : Nat) : Int) :: l) := by
      have := (⟨n3.sl, fun b e => by cases e; exact Nat.le_refl _, n3.fr nob⟩ : Gw .u8 w2 w3 (.slice (some ⟨w2.heap.size, 0, none⟩) 1 1) [((x % 128 + 128 : Nat) : Int)]).apd a4
      exact this.from g.fr
    simp (disch := omega) only [wu64, wu32, wu8, fdiv_nn, EO, ↓EP, EQ, EM, ↓reduceIte, Int.reduceAdd, Int.reduceEq, Int.reduceLE, Int.reduceLT, Int.reduceMul, Int.reduceNeg, Int.reducePow, Int.reduceSub, Int.reduceToNat, Nat.reduceAdd, Nat.reduceEqDiff, Nat.reduceLT, Nat.reduceLeDiff, Nat.reduceMul, reduceCtorEq, h0]
    exact hN (x / 128) _ _ (by omega) ⟨x / 128, f, v4, _, by simp (disch := omega) only [wu64, wu32, wu8, fdiv_nn, EO, ↓EP, EQ, EM, ↓reduceIte, Int.reduceAdd, Int.reduceEq, Int.reduceLE, Int.reduceLT, Int.reduceMul, Int.reduceNeg, Int.reducePow, Int.reduceSub, Int.reduceToNat, Nat.reduceAdd, Nat.reduceEqDiff, Nat.reduceLT, Nat.reduceLeDiff, Nat.reduceMul, reduceCtorEq, h0, Int.natCast_ediv], by simp (disch := omega) only [wu64, wu32, wu8, fdiv_nn, EO, ↓EP, EQ, EM, ↓reduceIte, Int.reduceAdd, Int.reduceEq, Int.reduceLE, Int.reduceLT, Int.reduceMul, Int.reduceNeg, Int.reducePow, Int.reduceSub, Int.reduceToNat, Nat.reduceAdd, Nat.reduceEqDiff, Nat.reduceLT, Nat.reduceLeDiff, Nat.reduceMul, reduceCtorEq], g4, rfl, by omega, by omega, by simp at hl ⊢; omega, by omega, by rw [← hs]; simp⟩
end Go.Proofs.YtcflokckfjkdpaaDoor.Der
