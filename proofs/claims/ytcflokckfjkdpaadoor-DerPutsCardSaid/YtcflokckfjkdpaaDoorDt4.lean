/- Rows of elements: numbers and bits, walked. -/
import Derived.Test.YtcflokckfjkdpaaDoorDt3
set_option linter.unusedVariables false
set_option linter.unusedSimpArgs false
namespace Go.Proofs.YtcflokckfjkdpaaDoor.Der
open Go Go.RowKit Go.Proofs Go.Proofs.YtcflokckfjkdpaaDoor.Eng Go.Proofs.YtcflokckfjkdpaaDoor.Code
set_option maxRecDepth 100000
attribute [local irreducible] callK S.W opsW scrW scrT

theorem pos_cells {w : World} {A : Option Addr} {l : List Int} (hr : Rd w A (nums .u8 l)) (h0 : 0 < l.length) : ∃ ad, A = some ad ∧ ∀ i : Nat, i < l.length → w.cell? (ad.add i) = some (.int .u8 (at' l (i : Int))) := by
  obtain ⟨ad, e, _, hcl⟩ := hr.get (by rw [nums_length]; omega)
  exact ⟨ad, e, fun i hi => hcl.numN hi⟩
theorem whole_vw {w : World} {v : Value} {d : List Int} (hv : Vw .u8 w v d) (hb : ByteL d) (K : Value → World → Prop) (hK : K (.bool (whole d)) w) : callK Tryd.prog 58 [v] w K := by
  obtain ⟨A, c, rfl, hc, hr⟩ := hv
  refine call_of Tryd.func58 Code.h58 (by simp [Code.c58]) ?_
  unfold whole at hK
  by_cases h2 : (d.length : Int) < 2
  · have hl : ¬ 1 < d.length := by omega
    rw [decide_eq_false hl, Bool.false_and, Bool.false_and, Bool.or_false] at hK
    have he : decide (d.length = 1) = decide ((d.length : Int) = 1) := decide_eq_decide.2 (by omega)
    rw [he] at hK
    simp (disch := omega) only [wu64, wu32, wu8, fdiv_nn, EO, ↓EP, EQ, EM, ↓reduceIte, Int.reduceAdd, Int.reduceEq, Int.reduceLE, Int.reduceLT, Int.reduceMul, Int.reduceNeg, Int.reducePow, Int.reduceSub, Int.reduceToNat, Nat.reduceAdd, Nat.reduceEqDiff, Nat.reduceLT, Nat.reduceLeDiff, Nat.reduceMul, reduceCtorEq, Code.c58]
    exact hK
  · obtain ⟨ad, rfl, cell⟩ := pos_cells hr (by omega)
    have c0 := cell 0 (by omega)
    have c1 := cell 1 (by omega)
    rw [show ((0 : Nat) : Int) = 0 by rfl] at c0
    rw [show ((1 : Nat) : Int) = 1 by rfl] at c1
    have b0 := hb 0
    have b1 := hb 1
    rw [show ((0 : Nat) : Int) = 0 by rfl] at b0
    rw [show ((1 : Nat) : Int) = 1 by rfl] at b1
    rw [decide_eq_false (show ¬ d.length = 1 by omega), decide_eq_true (show 1 < d.length by omega)] at hK
    have e1 := d8_and128 b1
    by_cases hz : at' d 0 = 0
    · by_cases h1 : at' d 1 < 128
      · rw [decide_eq_true ⟨hz, h1⟩] at hK
        have e1' : bits .and .u8 (at' d 1) 128 = 0 := by rw [e1]; omega
        simp (disch := omega) only [wu64, wu32, wu8, fdiv_nn, EO, ↓EP, EQ, EM, ↓reduceIte, Int.reduceAdd, Int.reduceEq, Int.reduceLE, Int.reduceLT, Int.reduceMul, Int.reduceNeg, Int.reducePow, Int.reduceSub, Int.reduceToNat, Nat.reduceAdd, Nat.reduceEqDiff, Nat.reduceLT, Nat.reduceLeDiff, Nat.reduceMul, reduceCtorEq, Code.c58, c0, c1, e1', hz]
        exact hK
      · rw [decide_eq_false (fun h => h1 h.2), decide_eq_false (fun h => by omega)] at hK
        have e1' : bits .and .u8 (at' d 1) 128 = 128 := by rw [e1]; omega
        simp (disch := omega) only [wu64, wu32, wu8, fdiv_nn, EO, ↓EP, EQ, EM, ↓reduceIte, Int.reduceAdd, Int.reduceEq, Int.reduceLE, Int.reduceLT, Int.reduceMul, Int.reduceNeg, Int.reducePow, Int.reduceSub, Int.reduceToNat, Nat.reduceAdd, Nat.reduceEqDiff, Nat.reduceLT, Nat.reduceLeDiff, Nat.reduceMul, reduceCtorEq, Code.c58, c0, c1, e1', hz]
        exact hK
    · rw [decide_eq_false (fun h => hz h.1)] at hK
      by_cases h255 : at' d 0 = 255
      · by_cases h1 : at' d 1 < 128
        · rw [decide_eq_false (fun h => by omega)] at hK
          have e1' : bits .and .u8 (at' d 1) 128 = 0 := by rw [e1]; omega
          simp (disch := omega) only [wu64, wu32, wu8, fdiv_nn, EO, ↓EP, EQ, EM, ↓reduceIte, Int.reduceAdd, Int.reduceEq, Int.reduceLE, Int.reduceLT, Int.reduceMul, Int.reduceNeg, Int.reducePow, Int.reduceSub, Int.reduceToNat, Nat.reduceAdd, Nat.reduceEqDiff, Nat.reduceLT, Nat.reduceLeDiff, Nat.reduceMul, reduceCtorEq, Code.c58, c0, c1, e1', hz, h255, Bool.not_true, Bool.not_false]
          exact hK
        · rw [decide_eq_true ⟨h255, by omega⟩] at hK
          have e1' : bits .and .u8 (at' d 1) 128 = 128 := by rw [e1]; omega
          simp (disch := omega) only [wu64, wu32, wu8, fdiv_nn, EO, ↓EP, EQ, EM, ↓reduceIte, Int.reduceAdd, Int.reduceEq, Int.reduceLE, Int.reduceLT, Int.reduceMul, Int.reduceNeg, Int.reducePow, Int.reduceSub, Int.reduceToNat, Nat.reduceAdd, Nat.reduceEqDiff, Nat.reduceLT, Nat.reduceLeDiff, Nat.reduceMul, reduceCtorEq, Code.c58, c0, c1, e1', hz, h255, Bool.not_true, Bool.not_false]
          exact hK
      · rw [decide_eq_false (fun h => h255 h.1)] at hK
        simp (disch := omega) only [wu64, wu32, wu8, fdiv_nn, EO, ↓EP, EQ, EM, ↓reduceIte, Int.reduceAdd, Int.reduceEq, Int.reduceLE, Int.reduceLT, Int.reduceMul, Int.reduceNeg, Int.reducePow, Int.reduceSub, Int.reduceToNat, Nat.reduceAdd, Nat.reduceEqDiff, Nat.reduceLT, Nat.reduceLeDiff, Nat.reduceMul, reduceCtorEq, Code.c58, c0, c1, hz, h255]
        exact hK
theorem wrap_mul256 (x c : Int) : IntKind.i64.wrap (IntKind.i64.wrap x * 256 + c) = IntKind.i64.wrap (x * 256 + c) := by
  unfold IntKind.wrap IntKind.bits IntKind.signed
  simp only [Bool.true_and, decide_eq_true_eq]
  split <;> split <;> omega
theorem be_snoc (l : List Int) (c : Int) : beVal (l ++ [c]) = beVal l * 256 + c := by simp [beVal]
/-- The signed number so far. -/
def sgn (d : List Int) (j : Nat) : Int := beVal (d.take j) - (if 128 ≤ at' d 0 then 256 ^ j else 0)
theorem sgn_succ {d : List Int} {j : Nat} (h : j < d.length) : sgn d (j + 1) = sgn d j * 256 + at' d (j : Int) := by
  unfold sgn
  rw [take_snoc h, be_snoc]
  split
  · rw [Int.pow_succ]; omega
  · omega
theorem sgn_one {d : List Int} (h : 0 < d.length) (hb : ByteL d) : IntKind.i64.wrap (IntKind.i8.wrap (at' d 0)) = IntKind.i64.wrap (sgn d 1) := by
  have b0 := hb 0
  rw [show ((0 : Nat) : Int) = 0 by rfl] at b0
  have e : d.take 1 = [at' d 0] := by
    have := take_snoc h
    simpa using this
  have e2 : sgn d 1 = IntKind.i8.wrap (at' d 0) := by
    unfold sgn
    rw [e]
    show (0 * 256 + at' d 0) - _ = _
    unfold IntKind.wrap IntKind.bits IntKind.signed
    simp only [Bool.true_and, decide_eq_true_eq]
    split <;> split <;> omega
  rw [e2]
def pr2 (a : Value) (e : Int) : Value := .tuple #[a, .int .i64 e]
set_option maxHeartbeats 1000000 in
theorem int_vw {w : World} {v : Value} {d : List Int} (hv : Vw .u8 w v d) (hb : ByteL d) (h63 : d.length ≤ 9223372036854775807) (K : Value → World → Prop) (hK : K (pr2 (.int .i64 (intR d).1) (intR d).2) w) : callK Tryd.prog 33 [v] w K := by
  have hv0 := hv
  obtain ⟨A, c, rfl, hc, hr⟩ := hv
  refine call_of Tryd.func33 Code.h33 (by simp [Code.c33]) ?_
  unfold intR at hK
  simp (disch := omega) only [wu64, wu32, wu8, fdiv_nn, EO, ↓EP, EQ, EM, ↓reduceIte, Int.reduceAdd, Int.reduceEq, Int.reduceLE, Int.reduceLT, Int.reduceMul, Int.reduceNeg, Int.reducePow, Int.reduceSub, Int.reduceToNat, Nat.reduceAdd, Nat.reduceEqDiff, Nat.reduceLT, Nat.reduceLeDiff, Nat.reduceMul, reduceCtorEq, Code.c33]
  refine whole_vw hv0 hb _ ?_
  by_cases hw : whole d = false
  · rw [if_pos hw] at hK
    simp (disch := omega) only [wu64, wu32, wu8, fdiv_nn, EO, ↓EP, EQ, EM, ↓reduceIte, Int.reduceAdd, Int.reduceEq, Int.reduceLE, Int.reduceLT, Int.reduceMul, Int.reduceNeg, Int.reducePow, Int.reduceSub, Int.reduceToNat, Nat.reduceAdd, Nat.reduceEqDiff, Nat.reduceLT, Nat.reduceLeDiff, Nat.reduceMul, reduceCtorEq, hw, Bool.not_false]
    exact hK
  rw [if_neg hw] at hK
  have hw' : whole d = true := by simpa using hw
  by_cases h8 : (8 : Int) < (d.length : Int)
  · rw [if_pos (by omega)] at hK
    simp (disch := omega) only [wu64, wu32, wu8, fdiv_nn, EO, ↓EP, EQ, EM, ↓reduceIte, Int.reduceAdd, Int.reduceEq, Int.reduceLE, Int.reduceLT, Int.reduceMul, Int.reduceNeg, Int.reducePow, Int.reduceSub, Int.reduceToNat, Nat.reduceAdd, Nat.reduceEqDiff, Nat.reduceLT, Nat.reduceLeDiff, Nat.reduceMul, reduceCtorEq, hw', Bool.not_true]
    exact hK
  rw [if_neg (by omega)] at hK
  have h0 : 0 < d.length := by
    apply Nat.pos_of_ne_zero
    intro h
    unfold whole at hw'
    rw [h] at hw'
    simp at hw'
  obtain ⟨ad, rfl, cell⟩ := pos_cells hr h0
  have c0 := cell 0 h0
  rw [show ((0 : Nat) : Int) = 0 by rfl] at c0
  have e1 := sgn_one h0 hb
  by_cases h1 : d.length = 1
  · have hbe : sgn d 1 = beVal d - (if 128 ≤ at' d 0 then 256 ^ d.length else 0) := by
      unfold sgn; rw [List.take_of_length_le (by omega), h1]
    rw [← hbe] at hK
    simp (disch := omega) only [wu64, wu32, wu8, fdiv_nn, EO, ↓EP, EQ, EM, ↓reduceIte, Int.reduceAdd, Int.reduceEq, Int.reduceLE, Int.reduceLT, Int.reduceMul, Int.reduceNeg, Int.reducePow, Int.reduceSub, Int.reduceToNat, Nat.reduceAdd, Nat.reduceEqDiff, Nat.reduceLT, Nat.reduceLeDiff, Nat.reduceMul, reduceCtorEq, hw', Bool.not_true, c0, e1]
    refine loop_inv (fun t ρ w' => w' = w ∧ ρ 23 = .int .i64 0 ∧ ρ 4 = .int .i64 (IntKind.i64.wrap (sgn d 1))) 1 ⟨rfl, by simp (disch := omega) only [wu64, wu32, wu8, fdiv_nn, EO, ↓EP, EQ, EM, ↓reduceIte, Int.reduceAdd, Int.reduceEq, Int.reduceLE, Int.reduceLT, Int.reduceMul, Int.reduceNeg, Int.reducePow, Int.reduceSub, Int.reduceToNat, Nat.reduceAdd, Nat.reduceEqDiff, Nat.reduceLT, Nat.reduceLeDiff, Nat.reduceMul, reduceCtorEq], by simp (disch := omega) only [wu64, wu32, wu8, fdiv_nn, EO, ↓EP, EQ, EM, ↓reduceIte, Int.reduceAdd, Int.reduceEq, Int.reduceLE, Int.reduceLT, Int.reduceMul, Int.reduceNeg, Int.reducePow, Int.reduceSub, Int.reduceToNat, Nat.reduceAdd, Nat.reduceEqDiff, Nat.reduceLT, Nat.reduceLeDiff, Nat.reduceMul, reduceCtorEq, e1]⟩ ?_
    rintro t ρ w' hf ⟨rfl, h23, r4⟩ N hN
    have r22 : ρ 22 = .int .i64 0 := by rw [hf 22 rfl]; simp (disch := omega) only [wu64, wu32, wu8, fdiv_nn, EO, ↓EP, EQ, EM, ↓reduceIte, Int.reduceAdd, Int.reduceEq, Int.reduceLE, Int.reduceLT, Int.reduceMul, Int.reduceNeg, Int.reducePow, Int.reduceSub, Int.reduceToNat, Nat.reduceAdd, Nat.reduceEqDiff, Nat.reduceLT, Nat.reduceLeDiff, Nat.reduceMul, reduceCtorEq, h1]; rfl
    clear hf
    simp (disch := omega) only [wu64, wu32, wu8, fdiv_nn, EO, ↓EP, EQ, EM, ↓reduceIte, Int.reduceAdd, Int.reduceEq, Int.reduceLE, Int.reduceLT, Int.reduceMul, Int.reduceNeg, Int.reducePow, Int.reduceSub, Int.reduceToNat, Nat.reduceAdd, Nat.reduceEqDiff, Nat.reduceLT, Nat.reduceLeDiff, Nat.reduceMul, reduceCtorEq, h23, r22, r4]
    exact hK
  obtain ⟨ad2, e2, cell2⟩ := sub_cells hr hc (lo := 1) (by omega)
  simp (disch := omega) only [wu64, wu32, wu8, fdiv_nn, EO, ↓EP, EQ, EM, ↓reduceIte, Int.reduceAdd, Int.reduceEq, Int.reduceLE, Int.reduceLT, Int.reduceMul, Int.reduceNeg, Int.reducePow, Int.reduceSub, Int.reduceToNat, Nat.reduceAdd, Nat.reduceEqDiff, Nat.reduceLT, Nat.reduceLeDiff, Nat.reduceMul, reduceCtorEq, hw', Bool.not_true, c0, e1, e2]
  refine loop_inv (fun t ρ w' => w' = w ∧ ∃ j : Nat, ρ 23 = .int .i64 j ∧ j + 1 ≤ d.length ∧ t = d.length - (j + 1) ∧ ρ 4 = .int .i64 (IntKind.i64.wrap (sgn d (j + 1)))) (d.length - 1) ⟨rfl, 0, by simp (disch := omega) only [wu64, wu32, wu8, fdiv_nn, EO, ↓EP, EQ, EM, ↓reduceIte, Int.reduceAdd, Int.reduceEq, Int.reduceLE, Int.reduceLT, Int.reduceMul, Int.reduceNeg, Int.reducePow, Int.reduceSub, Int.reduceToNat, Nat.reduceAdd, Nat.reduceEqDiff, Nat.reduceLT, Nat.reduceLeDiff, Nat.reduceMul, reduceCtorEq], by omega, by omega, by simp (disch := omega) only [wu64, wu32, wu8, fdiv_nn, EO, ↓EP, EQ, EM, ↓reduceIte, Int.reduceAdd, Int.reduceEq, Int.reduceLE, Int.reduceLT, Int.reduceMul, Int.reduceNeg, Int.reducePow, Int.reduceSub, Int.reduceToNat, Nat.reduceAdd, Nat.reduceEqDiff, Nat.reduceLT, Nat.reduceLeDiff, Nat.reduceMul, reduceCtorEq, e1]⟩ ?_
  rintro t ρ w' hf ⟨rfl, j, h23, hj, rfl, h4⟩ N hN
  have r21 : ρ 21 = .slice (some ad2) (d.length - 1) (c - 1) := by rw [hf 21 rfl]; simp (disch := omega) only [wu64, wu32, wu8, fdiv_nn, EO, ↓EP, EQ, EM, ↓reduceIte, Int.reduceAdd, Int.reduceEq, Int.reduceLE, Int.reduceLT, Int.reduceMul, Int.reduceNeg, Int.reducePow, Int.reduceSub, Int.reduceToNat, Nat.reduceAdd, Nat.reduceEqDiff, Nat.reduceLT, Nat.reduceLeDiff, Nat.reduceMul, reduceCtorEq, e2]
  have r22 : ρ 22 = .int .i64 ((d.length : Int) - 1) := by rw [hf 22 rfl]; simp (disch := omega) only [wu64, wu32, wu8, fdiv_nn, EO, ↓EP, EQ, EM, ↓reduceIte, Int.reduceAdd, Int.reduceEq, Int.reduceLE, Int.reduceLT, Int.reduceMul, Int.reduceNeg, Int.reducePow, Int.reduceSub, Int.reduceToNat, Nat.reduceAdd, Nat.reduceEqDiff, Nat.reduceLT, Nat.reduceLeDiff, Nat.reduceMul, reduceCtorEq]; congr 1; omega
  clear hf
  by_cases hjl : (j : Int) < (d.length : Int) - 1
  · have cj := cell2 j (by omega)
    rw [Nat.add_comm 1 j] at cj
    have bj := hb (j + 1)
    have hor : bits .or .i64 (IntKind.i64.wrap (IntKind.i64.wrap (sgn d (j + 1)) * 256)) (at' d ((j + 1 : Nat) : Int)) = IntKind.i64.wrap (sgn d (j + 1 + 1)) := by
      rw [i64_or8 bj.1 bj.2, wrap_mul256, sgn_succ (d := d) (j := j + 1) (by omega)]
    simp (disch := omega) only [wu64, wu32, wu8, fdiv_nn, EO, ↓EP, EQ, EM, ↓reduceIte, Int.reduceAdd, Int.reduceEq, Int.reduceLE, Int.reduceLT, Int.reduceMul, Int.reduceNeg, Int.reducePow, Int.reduceSub, Int.reduceToNat, Nat.reduceAdd, Nat.reduceEqDiff, Nat.reduceLT, Nat.reduceLeDiff, Nat.reduceMul, reduceCtorEq, h23, h4, r21, r22, cj]
    rw [hor]
    exact hN (d.length - (j + 1 + 1)) _ _ (by omega) ⟨rfl, j + 1, by simp (disch := omega) only [wu64, wu32, wu8, fdiv_nn, EO, ↓EP, EQ, EM, ↓reduceIte, Int.reduceAdd, Int.reduceEq, Int.reduceLE, Int.reduceLT, Int.reduceMul, Int.reduceNeg, Int.reducePow, Int.reduceSub, Int.reduceToNat, Nat.reduceAdd, Nat.reduceEqDiff, Nat.reduceLT, Nat.reduceLeDiff, Nat.reduceMul, reduceCtorEq, h23, Int.natCast_add], by omega, rfl, by simp (disch := omega) only [wu64, wu32, wu8, fdiv_nn, EO, ↓EP, EQ, EM, ↓reduceIte, Int.reduceAdd, Int.reduceEq, Int.reduceLE, Int.reduceLT, Int.reduceMul, Int.reduceNeg, Int.reducePow, Int.reduceSub, Int.reduceToNat, Nat.reduceAdd, Nat.reduceEqDiff, Nat.reduceLT, Nat.reduceLeDiff, Nat.reduceMul, reduceCtorEq]⟩
  · have hje : j + 1 = d.length := by omega
    have hbe : sgn d (j + 1) = beVal d - (if 128 ≤ at' d 0 then 256 ^ d.length else 0) := by
      unfold sgn; rw [List.take_of_length_le (by omega), hje]
    rw [← hbe] at hK
    simp (disch := omega) only [wu64, wu32, wu8, fdiv_nn, EO, ↓EP, EQ, EM, ↓reduceIte, Int.reduceAdd, Int.reduceEq, Int.reduceLE, Int.reduceLT, Int.reduceMul, Int.reduceNeg, Int.reducePow, Int.reduceSub, Int.reduceToNat, Nat.reduceAdd, Nat.reduceEqDiff, Nat.reduceLT, Nat.reduceLeDiff, Nat.reduceMul, reduceCtorEq, h23, h4, r21, r22]
    exact hK
/-! ### Bits -/
theorem and_u8_1 : ∀ a : Nat, a < 256 → bits .and .u8 (a : Int) 1 = (a : Int) % 2 := by decide +kernel
theorem d8_and1 {a : Int} (h : 0 ≤ a ∧ a < 256) : bits .and .u8 a 1 = a % 2 := by
  obtain ⟨a, rfl⟩ := Int.eq_ofNat_of_zero_le h.1; exact and_u8_1 a (by omega)
theorem shl_low : ∀ k : Nat, k < 8 → 0 < k → ∀ a : Nat, a < 256 → (IntKind.u8.wrap ((a : Int) * 2 ^ (8 - k)) = 0) = ((a : Int) % 2 ^ k = 0) := by
  intro k hk h0 a ha
  have : k = 1 ∨ k = 2 ∨ k = 3 ∨ k = 4 ∨ k = 5 ∨ k = 6 ∨ k = 7 := by omega
  rw [wu8_mod]
  rcases this with rfl | rfl | rfl | rfl | rfl | rfl | rfl <;> exact propext ⟨fun h => by simp at h ⊢; omega, fun h => by simp at h ⊢; omega⟩
def pr3 (a : Value) (n e : Int) : Value := .tuple #[a, .int .i64 n, .int .i64 e]
set_option maxHeartbeats 1000000 in
theorem bits_vw {w : World} {v : Value} {d : List Int} (hv : Vw .u8 w v d) (hb : ByteL d) (hm : d.length ≤ 1073741824) (K : Value → World → Prop)
    (hK : ∀ v' w', Gw .u8 w w' v' (bitsR d).1 → K (pr3 v' (bitsR d).2.1 (bitsR d).2.2) w') : callK Tryd.prog 14 [v] w K := by
  obtain ⟨A, c, rfl, hc, hr⟩ := hv
  refine call_of Tryd.func14 Code.h14 (by simp [Code.c14]) ?_
  unfold bitsR at hK
  by_cases h0 : d.length = 0
  · rw [if_pos (.inl h0)] at hK
    simp (disch := omega) only [wu64, wu32, wu8, fdiv_nn, EO, ↓EP, EQ, EM, ↓reduceIte, Int.reduceAdd, Int.reduceEq, Int.reduceLE, Int.reduceLT, Int.reduceMul, Int.reduceNeg, Int.reducePow, Int.reduceSub, Int.reduceToNat, Nat.reduceAdd, Nat.reduceEqDiff, Nat.reduceLT, Nat.reduceLeDiff, Nat.reduceMul, reduceCtorEq, Code.c14, h0, Int.natCast_zero]
    exact hK _ _ (Gw.nil .u8 w)
  obtain ⟨ad, rfl, cell⟩ := pos_cells hr (by omega)
  have c0 := cell 0 (by omega)
  have b0 := hb 0
  rw [show ((0 : Nat) : Int) = 0 by rfl] at c0 b0
  by_cases h7 : 7 < at' d 0
  · rw [if_pos (.inr (.inl h7))] at hK
    simp (disch := omega) only [wu64, wu32, wu8, fdiv_nn, EO, ↓EP, EQ, EM, ↓reduceIte, Int.reduceAdd, Int.reduceEq, Int.reduceLE, Int.reduceLT, Int.reduceMul, Int.reduceNeg, Int.reducePow, Int.reduceSub, Int.reduceToNat, Nat.reduceAdd, Nat.reduceEqDiff, Nat.reduceLT, Nat.reduceLeDiff, Nat.reduceMul, reduceCtorEq, Code.c14, c0]
    exact hK _ _ (Gw.nil .u8 w)
  by_cases hz : at' d 0 = 0
  · rw [if_neg (fun h => by rcases h with h | h | h; exact h0 h; exact h7 h; exact h.1 hz), hz] at hK
    rw [hz] at c0
    rw [if_neg (by simp)] at hK
    simp (disch := omega) only [wu64, wu32, wu8, fdiv_nn, EO, ↓EP, EQ, EM, ↓reduceIte, Int.reduceAdd, Int.reduceEq, Int.reduceLE, Int.reduceLT, Int.reduceMul, Int.reduceNeg, Int.reducePow, Int.reduceSub, Int.reduceToNat, Nat.reduceAdd, Nat.reduceEqDiff, Nat.reduceLT, Nat.reduceLeDiff, Nat.reduceMul, reduceCtorEq, Code.c14, c0]
    intro m1 m2
    have f1 := Fr.drewN w (m1 + 1 + m2) nob
    refine clone_n (l := d.drop 1) (by simp) (by omega) ((hr.nb f1).subA c 1 hc) (by omega) _ fun A' c' w2 g2 => ?_
    have f2 := f1.nb g2.fr
    have cz : w2.cell? (ad.add 0) = some (.int .u8 0) := by
      obtain ⟨ad', e', _, hcl⟩ := (hr.nb f2).get (by rw [nums_length]; omega)
      cases e'
      rw [hcl.numN (j := 0) (by omega), show ((0 : Nat) : Int) = 0 by rfl, hz]
    simp (disch := omega) only [wu64, wu32, wu8, fdiv_nn, EO, ↓EP, EQ, EM, ↓reduceIte, Int.reduceAdd, Int.reduceEq, Int.reduceLE, Int.reduceLT, Int.reduceMul, Int.reduceNeg, Int.reducePow, Int.reduceSub, Int.reduceToNat, Nat.reduceAdd, Nat.reduceEqDiff, Nat.reduceLT, Nat.reduceLeDiff, Nat.reduceMul, reduceCtorEq, cz]
    intro m3
    exact hK _ _ ((g2.from f1).step (Fr.drewN w2 m3 nob))
  · by_cases h1 : d.length = 1
    · rw [if_pos (.inr (.inr ⟨hz, h1⟩))] at hK
      simp (disch := omega) only [wu64, wu32, wu8, fdiv_nn, EO, ↓EP, EQ, EM, ↓reduceIte, Int.reduceAdd, Int.reduceEq, Int.reduceLE, Int.reduceLT, Int.reduceMul, Int.reduceNeg, Int.reducePow, Int.reduceSub, Int.reduceToNat, Nat.reduceAdd, Nat.reduceEqDiff, Nat.reduceLT, Nat.reduceLeDiff, Nat.reduceMul, reduceCtorEq, Code.c14, c0, h1]
      exact hK _ _ (Gw.nil .u8 w)
    rw [if_neg (fun h => by rcases h with h | h | h; exact h0 h; exact h7 h; exact h1 h.2)] at hK
    obtain ⟨k, hk⟩ : ∃ k : Nat, at' d 0 = (k : Int) := ⟨(at' d 0).toNat, by omega⟩
    have hk8 : k < 8 := by omega
    have hk0 : 0 < k := by omega
    have hl := cell (d.length - 1) (by omega)
    have bl := hb (d.length - 1)
    have el : ((d.length - 1 : Nat) : Int) = (d.length : Int) - 1 := by omega
    rw [el] at hl bl
    rw [hk] at c0
    rw [hk] at hK
    have elt : ((d.length : Int) - 1).toNat = d.length - 1 := by omega
    have e8 : min (8 - (k : Int)).toNat 8 = 8 - k := by omega
    have bl' : ∃ x : Nat, at' d ((d.length : Int) - 1) = (x : Int) := ⟨(at' d ((d.length : Int) - 1)).toNat, by omega⟩
    obtain ⟨x, hx⟩ := bl'
    have hsh := shl_low k hk8 hk0 x (by omega)
    rw [hx, Int.toNat_natCast] at hK
    rw [hx] at hl
    simp (disch := omega) only [wu64, wu32, wu8, fdiv_nn, EO, ↓EP, EQ, EM, ↓reduceIte, Int.reduceAdd, Int.reduceEq, Int.reduceLE, Int.reduceLT, Int.reduceMul, Int.reduceNeg, Int.reducePow, Int.reduceSub, Int.reduceToNat, Nat.reduceAdd, Nat.reduceEqDiff, Nat.reduceLT, Nat.reduceLeDiff, Nat.reduceMul, reduceCtorEq, Code.c14, c0, elt, hl, e8]
    intro m1
    by_cases hmod : (x : Int) % 2 ^ k = 0
    · have hw := hsh.mpr hmod
      rw [if_neg (fun h => h hmod)] at hK
      rw [if_neg (fun h => h hw)]
      intro m2
      have f1 := Fr.drewN w (m1 + 1 + m2) nob
      refine clone_n (l := d.drop 1) (by simp) (by omega) ((hr.nb f1).subA c 1 hc) (by omega) _ fun A' c' w2 g2 => ?_
      have f2 := f1.nb g2.fr
      have cz : w2.cell? (ad.add 0) = some (.int .u8 k) := by
        obtain ⟨ad', e', _, hcl⟩ := (hr.nb f2).get (by rw [nums_length]; omega)
        cases e'
        rw [hcl.numN (j := 0) (by omega), show ((0 : Nat) : Int) = 0 by rfl, hk]
      simp (disch := omega) only [wu64, wu32, wu8, fdiv_nn, EO, ↓EP, EQ, EM, ↓reduceIte, Int.reduceAdd, Int.reduceEq, Int.reduceLE, Int.reduceLT, Int.reduceMul, Int.reduceNeg, Int.reducePow, Int.reduceSub, Int.reduceToNat, Nat.reduceAdd, Nat.reduceEqDiff, Nat.reduceLT, Nat.reduceLeDiff, Nat.reduceMul, reduceCtorEq, cz]
      intro m3
      exact hK _ _ ((g2.from f1).step (Fr.drewN w2 m3 nob))
    · have hw : ¬ IntKind.u8.wrap ((x : Int) * 2 ^ (8 - k)) = 0 := fun h => hmod (hsh.mp h)
      rw [if_pos hmod] at hK
      rw [if_pos hw]
      exact hK _ _ ((Gw.nil .u8 w).step (Fr.drewN w m1 nob))
theorem flagSum_bd (b : List Int) : ∀ k, 0 ≤ flagSum b k ∧ flagSum b k < 2 ^ k
  | 0 => by simp [flagSum]
  | k + 1 => by
    have := flagSum_bd b k
    have hb : bitAt b k = 0 ∨ bitAt b k = 1 := by unfold bitAt; omega
    rw [flagSum, Int.pow_succ]
    rcases hb with h | h <;> rw [h] <;> omega
theorem pow2_le {i k : Nat} (h : i ≤ k) : (2 : Int) ^ i ≤ 2 ^ k := by
  have := Nat.pow_le_pow_right (n := 2) (by omega) h
  exact_mod_cast this
set_option maxHeartbeats 1000000 in
theorem flags_vw {w : World} {v : Value} {d : List Int} (hv : Vw .u8 w v d) (hb : ByteL d) (hm : d.length ≤ 1073741824) (K : Value → World → Prop)
    (hK : ∀ w', Fr w w' nob → K (pr2 (.int .u32 (flagsR d).1) (flagsR d).2) w') : callK Tryd.prog 16 [v] w K := by
  obtain ⟨A, c, rfl, hc, hr⟩ := hv
  refine call_of Tryd.func16 Code.h16 (by simp [Code.c16]) ?_
  unfold flagsR at hK
  simp (disch := omega) only [wu64, wu32, wu8, fdiv_nn, EO, ↓EP, EQ, EM, ↓reduceIte, Int.reduceAdd, Int.reduceEq, Int.reduceLE, Int.reduceLT, Int.reduceMul, Int.reduceNeg, Int.reducePow, Int.reduceSub, Int.reduceToNat, Nat.reduceAdd, Nat.reduceEqDiff, Nat.reduceLT, Nat.reduceLeDiff, Nat.reduceMul, reduceCtorEq, Code.c16]
  refine bits_vw (Vw.of rfl hc hr) hb hm _ fun v1 w1 g1 => ?_
  simp only [pr3]
  have hbb : ByteL (bitsR d).1 := by
    unfold bitsR
    split
    · exact ByteL.of (by simp)
    · split
      · exact ByteL.of (by simp)
      · exact ByteL.of fun x hx => byteL_mem hb x (List.mem_of_mem_drop hx)
  generalize bitsR d = br at g1 hK hbb ⊢
  obtain ⟨bl, bn, be⟩ := br
  simp only at g1 hK hbb ⊢
  by_cases he : be = 0
  rotate_left
  · rw [if_pos (by simpa using he)] at hK
    have he' : (be = 0) = False := eq_false he
    simp (disch := omega) only [wu64, wu32, wu8, fdiv_nn, EO, ↓EP, EQ, EM, ↓reduceIte, Int.reduceAdd, Int.reduceEq, Int.reduceLE, Int.reduceLT, Int.reduceMul, Int.reduceNeg, Int.reducePow, Int.reduceSub, Int.reduceToNat, Nat.reduceAdd, Nat.reduceEqDiff, Nat.reduceLT, Nat.reduceLeDiff, Nat.reduceMul, reduceCtorEq, he']
    exact hK w1 g1.fr
  rw [if_neg (by simpa using he)] at hK
  obtain ⟨A1, c1, rfl, hc1, hR1⟩ := readn g1.sl rfl
  by_cases h4 : (4 : Int) < (bl.length : Int)
  · rw [if_pos (by omega)] at hK
    simp (disch := omega) only [wu64, wu32, wu8, fdiv_nn, EO, ↓EP, EQ, EM, ↓reduceIte, Int.reduceAdd, Int.reduceEq, Int.reduceLE, Int.reduceLT, Int.reduceMul, Int.reduceNeg, Int.reducePow, Int.reduceSub, Int.reduceToNat, Nat.reduceAdd, Nat.reduceEqDiff, Nat.reduceLT, Nat.reduceLeDiff, Nat.reduceMul, reduceCtorEq, he]
    exact hK w1 g1.fr
  rw [if_neg (by omega)] at hK
  simp (disch := omega) only [wu64, wu32, wu8, fdiv_nn, EO, ↓EP, EQ, EM, ↓reduceIte, Int.reduceAdd, Int.reduceEq, Int.reduceLE, Int.reduceLT, Int.reduceMul, Int.reduceNeg, Int.reducePow, Int.reduceSub, Int.reduceToNat, Nat.reduceAdd, Nat.reduceEqDiff, Nat.reduceLT, Nat.reduceLeDiff, Nat.reduceMul, reduceCtorEq, he]
  refine loop_inv (fun t ρ w' => w' = w1 ∧ ∃ k : Nat, ρ 26 = .int .i64 k ∧ k ≤ 8 * bl.length ∧ t = 8 * bl.length - k ∧ ρ 7 = .int .u32 (flagSum bl k)) (8 * bl.length) ⟨rfl, 0, by simp (disch := omega) only [wu64, wu32, wu8, fdiv_nn, EO, ↓EP, EQ, EM, ↓reduceIte, Int.reduceAdd, Int.reduceEq, Int.reduceLE, Int.reduceLT, Int.reduceMul, Int.reduceNeg, Int.reducePow, Int.reduceSub, Int.reduceToNat, Nat.reduceAdd, Nat.reduceEqDiff, Nat.reduceLT, Nat.reduceLeDiff, Nat.reduceMul, reduceCtorEq], by omega, by omega, by simp (disch := omega) only [wu64, wu32, wu8, fdiv_nn, EO, ↓EP, EQ, EM, ↓reduceIte, Int.reduceAdd, Int.reduceEq, Int.reduceLE, Int.reduceLT, Int.reduceMul, Int.reduceNeg, Int.reducePow, Int.reduceSub, Int.reduceToNat, Nat.reduceAdd, Nat.reduceEqDiff, Nat.reduceLT, Nat.reduceLeDiff, Nat.reduceMul, reduceCtorEq]; rfl⟩ ?_
  rintro t ρ w' hf ⟨rfl, k, h26, hk, rfl, h7⟩ N hN
  have r4 : ρ 4 = .slice A1 bl.length c1 := by rw [hf 4 rfl]; simp (disch := omega) only [wu64, wu32, wu8, fdiv_nn, EO, ↓EP, EQ, EM, ↓reduceIte, Int.reduceAdd, Int.reduceEq, Int.reduceLE, Int.reduceLT, Int.reduceMul, Int.reduceNeg, Int.reducePow, Int.reduceSub, Int.reduceToNat, Nat.reduceAdd, Nat.reduceEqDiff, Nat.reduceLT, Nat.reduceLeDiff, Nat.reduceMul, reduceCtorEq]
  have r25 : ρ 25 = .int .i64 (8 * (bl.length : Int)) := by rw [hf 25 rfl]; simp (disch := omega) only [wu64, wu32, wu8, fdiv_nn, EO, ↓EP, EQ, EM, ↓reduceIte, Int.reduceAdd, Int.reduceEq, Int.reduceLE, Int.reduceLT, Int.reduceMul, Int.reduceNeg, Int.reducePow, Int.reduceSub, Int.reduceToNat, Nat.reduceAdd, Nat.reduceEqDiff, Nat.reduceLT, Nat.reduceLeDiff, Nat.reduceMul, reduceCtorEq]
  clear hf
  by_cases hkl : (k : Int) < 8 * (bl.length : Int)
  · obtain ⟨ad, rfl, cell⟩ := pos_cells hR1 (by omega)
    have ck := cell (k / 8) (by omega)
    have bk := hbb (k / 8)
    have ek : ((k : Int) / 8).toNat = k / 8 := by omega
    have e8 : min (7 - (k : Int) % 8).toNat 8 = 7 - k % 8 := by omega
    have e32 : min ((k : Int)).toNat 32 = k := by omega
    have hbit : bits .and .u8 (at' bl ((k / 8 : Nat) : Int) / 2 ^ (7 - k % 8)) 1 = bitAt bl k := by
      have p1 : (1 : Int) ≤ 2 ^ (7 - k % 8) := by
        have := pow2_le (show 0 ≤ 7 - k % 8 by omega)
        simpa using this
      have q1 := Int.ediv_nonneg bk.1 (show (0 : Int) ≤ 2 ^ (7 - k % 8) by omega)
      have q2 := Int.ediv_le_self (2 ^ (7 - k % 8)) bk.1
      rw [d8_and1 ⟨q1, by omega⟩]; rfl
    have hfd : (at' bl ((k / 8 : Nat) : Int)).fdiv (2 ^ (7 - k % 8)) = at' bl ((k / 8 : Nat) : Int) / 2 ^ (7 - k % 8) := Int.fdiv_eq_ediv_of_nonneg _ (by
      have := pow2_le (show 0 ≤ 7 - k % 8 by omega)
      simp at this; omega)
    have hb01 : bitAt bl k = 0 ∨ bitAt bl k = 1 := by unfold bitAt; omega
    have p32 := pow2_le (show k ≤ 31 by omega)
    have p31 : (2 : Int) ^ 31 = 2147483648 := by decide
    have hfs := flagSum_bd bl k
    have hwb : IntKind.u32.wrap (bitAt bl k) = bitAt bl k := wu32 (by omega) (by omega)
    have hw2 : IntKind.u32.wrap (bitAt bl k * 2 ^ k) = bitAt bl k * 2 ^ k := by
      rcases hb01 with h | h <;> rw [h] <;> exact wu32 (by omega) (by omega)
    have hor : bits .or .u32 (flagSum bl k) (bitAt bl k * 2 ^ k) = flagSum bl (k + 1) := by
      rw [or32_add hfs.1 hfs.2 (by omega) (by rcases hb01 with h | h <;> rw [h] <;> omega), flagSum]
      omega
    simp (disch := omega) only [wu64, wu32, wu8, fdiv_nn, EO, ↓EP, EQ, EM, ↓reduceIte, Int.reduceAdd, Int.reduceEq, Int.reduceLE, Int.reduceLT, Int.reduceMul, Int.reduceNeg, Int.reducePow, Int.reduceSub, Int.reduceToNat, Nat.reduceAdd, Nat.reduceEqDiff, Nat.reduceLT, Nat.reduceLeDiff, Nat.reduceMul, reduceCtorEq, h26, h7, r4, r25, ck, ek, e8, e32, hfd, hbit, hwb, hw2, hor]
    exact hN (8 * bl.length - (k + 1)) _ _ (by omega) ⟨rfl, k + 1, by simp (disch := omega) only [wu64, wu32, wu8, fdiv_nn, EO, ↓EP, EQ, EM, ↓reduceIte, Int.reduceAdd, Int.reduceEq, Int.reduceLE, Int.reduceLT, Int.reduceMul, Int.reduceNeg, Int.reducePow, Int.reduceSub, Int.reduceToNat, Nat.reduceAdd, Nat.reduceEqDiff, Nat.reduceLT, Nat.reduceLeDiff, Nat.reduceMul, reduceCtorEq, h26, Int.natCast_add], by omega, rfl, by simp (disch := omega) only [wu64, wu32, wu8, fdiv_nn, EO, ↓EP, EQ, EM, ↓reduceIte, Int.reduceAdd, Int.reduceEq, Int.reduceLE, Int.reduceLT, Int.reduceMul, Int.reduceNeg, Int.reducePow, Int.reduceSub, Int.reduceToNat, Nat.reduceAdd, Nat.reduceEqDiff, Nat.reduceLT, Nat.reduceLeDiff, Nat.reduceMul, reduceCtorEq, hfd, hbit, hwb, hw2, hor]⟩
  · have hke : k = 8 * bl.length := by omega
    subst hke
    simp (disch := omega) only [wu64, wu32, wu8, fdiv_nn, EO, ↓EP, EQ, EM, ↓reduceIte, Int.reduceAdd, Int.reduceEq, Int.reduceLE, Int.reduceLT, Int.reduceMul, Int.reduceNeg, Int.reducePow, Int.reduceSub, Int.reduceToNat, Nat.reduceAdd, Nat.reduceEqDiff, Nat.reduceLT, Nat.reduceLeDiff, Nat.reduceMul, reduceCtorEq, h26, h7, r25]
    exact hK w' g1.fr
end Go.Proofs.YtcflokckfjkdpaaDoor.Der
