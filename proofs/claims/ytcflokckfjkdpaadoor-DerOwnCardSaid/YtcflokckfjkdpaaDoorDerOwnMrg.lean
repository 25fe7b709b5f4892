/- DerOwnMrg: several texts in one. -/
import Derived.Test.YtcflokckfjkdpaaDoorDt3
import Derived.Test.YtcflokckfjkdpaaDoorRefB
import Derived.Test.YtcflokckfjkdpaaDoorDu2
import Derived.Test.YtcflokckfjkdpaaDoorRefL
import Derived.Test.YtcflokckfjkdpaaDoorEngL
import Derived.Test.YtcflokckfjkdpaaDoorDerR
import Derived.Test.YtcflokckfjkdpaaDoorCards
import Derived.Test.YtcflokckfjkdpaaDoorTie
import Derived.SevenTiedAt
/- The document's tags and lengths, walked. -/
set_option linter.unusedVariables false
set_option linter.unusedSimpArgs false
namespace Go.Proofs.YtcflokckfjkdpaaDoor.Der
open Go Go.RowKit Go.Proofs Go.Proofs.YtcflokckfjkdpaaDoor.Eng Go.Proofs.YtcflokckfjkdpaaDoor.Code
set_option maxRecDepth 100000
attribute [local irreducible] callK S.W opsW scrW scrT

set_option maxHeartbeats 1000000 in
theorem rtag_vw {w : World} {v : Value} {b : List Int} {p : Nat} (hv : Vw .u8 w v b) (hb : ByteL b) (hp : p < b.length) (hm : b.length ≤ 16777216) (K : Value → World → Prop)
    (hK : K (tup4 (tagR b p)) w) : callK Tryd.prog 54 [v, .int .i64 p] w K := by
  obtain ⟨A, c, rfl, hc, hr⟩ := hv
  refine call_of Tryd.func54 Code.h54 (by simp [Code.c54]) ?_
  obtain ⟨ad, rfl, _, hcl⟩ := hr.get (by rw [nums_length]; omega)
  have cell : ∀ i : Nat, i < b.length → w.cell? (ad.add i) = some (.int .u8 (at' b (i : Int))) := fun i hi => hcl.numN hi
  have c0 := cell p hp
  have b0 := hb p
  have e31 : True := trivial
  unfold tagR at hK
  by_cases h31 : at' b (p : Int) % 32 = 31
  · rw [if_pos h31] at hK
    simp (disch := omega) only [wu64, wu32, wu8, fdiv_nn, EO, ↓EP, EQ, EM, ↓reduceIte, Int.reduceAdd, Int.reduceEq, Int.reduceLE, Int.reduceLT, Int.reduceMul, Int.reduceNeg, Int.reducePow, Int.reduceSub, Int.reduceToNat, Nat.reduceAdd, Nat.reduceEqDiff, Nat.reduceLT, Nat.reduceLeDiff, Nat.reduceMul, reduceCtorEq, Code.c54, c0, h31]
    refine loop_inv (fun t ρ w' => w' = w ∧ ∃ (i : Nat) (n : Int), ρ 9 = .int .i64 i ∧ ρ 8 = .int .i64 n ∧ p + 1 ≤ i ∧ i ≤ b.length ∧ t = b.length - i ∧ 0 ≤ n ∧ n ≤ 268435455 ∧ (i = p + 1 → n = 0) ∧ tagGo (b.drop i) (decide (i = p + 1)) n i = tagGo (b.drop (p + 1)) true 0 (p + 1)) _ ⟨rfl, p + 1, 0, by simp (disch := omega) only [wu64, wu32, wu8, fdiv_nn, EO, ↓EP, EQ, EM, ↓reduceIte, Int.reduceAdd, Int.reduceEq, Int.reduceLE, Int.reduceLT, Int.reduceMul, Int.reduceNeg, Int.reducePow, Int.reduceSub, Int.reduceToNat, Nat.reduceAdd, Nat.reduceEqDiff, Nat.reduceLT, Nat.reduceLeDiff, Nat.reduceMul, reduceCtorEq, Int.natCast_add], by simp (disch := omega) only [wu64, wu32, wu8, fdiv_nn, EO, ↓EP, EQ, EM, ↓reduceIte, Int.reduceAdd, Int.reduceEq, Int.reduceLE, Int.reduceLT, Int.reduceMul, Int.reduceNeg, Int.reducePow, Int.reduceSub, Int.reduceToNat, Nat.reduceAdd, Nat.reduceEqDiff, Nat.reduceLT, Nat.reduceLeDiff, Nat.reduceMul, reduceCtorEq], by omega, by omega, rfl, by omega, by omega, fun _ => rfl, by rw [decide_eq_true rfl]⟩ ?_
    rintro t ρ w' hf ⟨rfl, i, n, h5, h4, hi, hi', rfl, hn, hn', hz0, hgo⟩ N hN
    have r0 : ρ 0 = .slice (some ad) b.length c := by rw [hf 0 rfl]; simp (disch := omega) only [wu64, wu32, wu8, fdiv_nn, EO, ↓EP, EQ, EM, ↓reduceIte, Int.reduceAdd, Int.reduceEq, Int.reduceLE, Int.reduceLT, Int.reduceMul, Int.reduceNeg, Int.reducePow, Int.reduceSub, Int.reduceToNat, Nat.reduceAdd, Nat.reduceEqDiff, Nat.reduceLT, Nat.reduceLeDiff, Nat.reduceMul, reduceCtorEq]
    have r1 : ρ 1 = .int .i64 p := by rw [hf 1 rfl]; simp (disch := omega) only [wu64, wu32, wu8, fdiv_nn, EO, ↓EP, EQ, EM, ↓reduceIte, Int.reduceAdd, Int.reduceEq, Int.reduceLE, Int.reduceLT, Int.reduceMul, Int.reduceNeg, Int.reducePow, Int.reduceSub, Int.reduceToNat, Nat.reduceAdd, Nat.reduceEqDiff, Nat.reduceLT, Nat.reduceLeDiff, Nat.reduceMul, reduceCtorEq]
    clear hf
    rw [← hgo] at hK
    by_cases hil : (i : Int) < (b.length : Int)
    · have ci := cell i (by omega)
      have bi := hb i
      have e127 : True := trivial
      rw [drop_at (show i < b.length by omega), tagGo] at hK
      have hnx : tagGo (b.drop (i + 1)) (decide (i + 1 = p + 1)) (n * 128 + at' b (i : Int) % 128) (i + 1) = tagGo (b.drop (i + 1)) false (n * 128 + at' b (i : Int) % 128) (i + 1) := by
        rw [decide_eq_false (show ¬ i + 1 = p + 1 by omega)]
      have hgo' : ¬ ((decide (i = p + 1) = true ∧ at' b (i : Int) = 128) ∨ 268435455 < n * 128 + at' b (i : Int) % 128 ∨ (at' b (i : Int) < 128 ∧ n * 128 + at' b (i : Int) % 128 < 31)) → ¬ at' b (i : Int) < 128 → tagGo (b.drop (i + 1)) (decide (i + 1 = p + 1)) (n * 128 + at' b (i : Int) % 128) (i + 1) = tagGo (b.drop (p + 1)) true 0 (p + 1) := fun h1 h2 => by
        rw [hnx, ← hgo, drop_at (show i < b.length by omega), tagGo, if_neg h1, if_neg h2]
      have hor : True := trivial
      have hip : ((i : Int) = (p : Int) + 1) = (i = p + 1) := propext ⟨fun h => by omega, fun h => by omega⟩
      by_cases hA : i = p + 1
      · have hn0 := hz0 hA
        by_cases hB : at' b (i : Int) = 128
        · rw [if_pos (.inl ⟨decide_eq_true hA, hB⟩)] at hK
          simp (disch := omega) only [wu64, wu32, wu8, fdiv_nn, EO, ↓EP, EQ, EM, ↓reduceIte, Int.reduceAdd, Int.reduceEq, Int.reduceLE, Int.reduceLT, Int.reduceMul, Int.reduceNeg, Int.reducePow, Int.reduceSub, Int.reduceToNat, Nat.reduceAdd, Nat.reduceEqDiff, Nat.reduceLT, Nat.reduceLeDiff, Nat.reduceMul, reduceCtorEq, W_join, h4, h5, r0, r1, ci]
          exact hK
        · clear hgo hnx
          by_cases hC : 268435455 < n * 128 + at' b (i : Int) % 128
          · exfalso; omega
          · by_cases hD : at' b (i : Int) < 128
            · by_cases hE : n * 128 + at' b (i : Int) % 128 < 31
              · rw [if_pos (.inr (.inr ⟨hD, hE⟩))] at hK
                simp (disch := omega) only [wu64, wu32, wu8, fdiv_nn, EO, ↓EP, EQ, EM, ↓reduceIte, Int.reduceAdd, Int.reduceEq, Int.reduceLE, Int.reduceLT, Int.reduceMul, Int.reduceNeg, Int.reducePow, Int.reduceSub, Int.reduceToNat, Nat.reduceAdd, Nat.reduceEqDiff, Nat.reduceLT, Nat.reduceLeDiff, Nat.reduceMul, reduceCtorEq, W_join, h4, h5, r0, r1, ci]
                exact hK
              · rw [if_neg (fun h => by rcases h with h | h | h; exact hB h.2; exact hC h; exact hE h.2), if_pos hD] at hK
                simp (disch := omega) only [wu64, wu32, wu8, fdiv_nn, EO, ↓EP, EQ, EM, ↓reduceIte, Int.reduceAdd, Int.reduceEq, Int.reduceLE, Int.reduceLT, Int.reduceMul, Int.reduceNeg, Int.reducePow, Int.reduceSub, Int.reduceToNat, Nat.reduceAdd, Nat.reduceEqDiff, Nat.reduceLT, Nat.reduceLeDiff, Nat.reduceMul, reduceCtorEq, W_join, h4, h5, r0, r1, ci]
                exact hK
            · have hno : ¬ ((decide (i = p + 1) = true ∧ at' b (i : Int) = 128) ∨ 268435455 < n * 128 + at' b (i : Int) % 128 ∨ (at' b (i : Int) < 128 ∧ n * 128 + at' b (i : Int) % 128 < 31)) := fun h => by rcases h with h | h | h; exact hB h.2; exact hC h; exact hD h.1
              simp (disch := omega) only [wu64, wu32, wu8, fdiv_nn, EO, ↓EP, EQ, EM, ↓reduceIte, Int.reduceAdd, Int.reduceEq, Int.reduceLE, Int.reduceLT, Int.reduceMul, Int.reduceNeg, Int.reducePow, Int.reduceSub, Int.reduceToNat, Nat.reduceAdd, Nat.reduceEqDiff, Nat.reduceLT, Nat.reduceLeDiff, Nat.reduceMul, reduceCtorEq, W_join, h4, h5, r0, r1, ci]
              exact hN (b.length - (i + 1)) _ _ (by omega) ⟨rfl, i + 1, n * 128 + at' b (i : Int) % 128, by simp (disch := omega) only [wu64, wu32, wu8, fdiv_nn, EO, ↓EP, EQ, EM, ↓reduceIte, Int.reduceAdd, Int.reduceEq, Int.reduceLE, Int.reduceLT, Int.reduceMul, Int.reduceNeg, Int.reducePow, Int.reduceSub, Int.reduceToNat, Nat.reduceAdd, Nat.reduceEqDiff, Nat.reduceLT, Nat.reduceLeDiff, Nat.reduceMul, reduceCtorEq, h5, Int.natCast_add], by simp (disch := omega) only [wu64, wu32, wu8, fdiv_nn, EO, ↓EP, EQ, EM, ↓reduceIte, Int.reduceAdd, Int.reduceEq, Int.reduceLE, Int.reduceLT, Int.reduceMul, Int.reduceNeg, Int.reducePow, Int.reduceSub, Int.reduceToNat, Nat.reduceAdd, Nat.reduceEqDiff, Nat.reduceLT, Nat.reduceLeDiff, Nat.reduceMul, reduceCtorEq], by omega, by omega, rfl, by omega, by omega, fun h => by omega, hgo' hno hD⟩
      · clear hgo hnx
        by_cases hC : 268435455 < n * 128 + at' b (i : Int) % 128
        · rw [if_pos (.inr (.inl hC))] at hK
          simp (disch := omega) only [wu64, wu32, wu8, fdiv_nn, EO, ↓EP, EQ, EM, ↓reduceIte, Int.reduceAdd, Int.reduceEq, Int.reduceLE, Int.reduceLT, Int.reduceMul, Int.reduceNeg, Int.reducePow, Int.reduceSub, Int.reduceToNat, Nat.reduceAdd, Nat.reduceEqDiff, Nat.reduceLT, Nat.reduceLeDiff, Nat.reduceMul, reduceCtorEq, W_join, h4, h5, r0, r1, ci]
          exact hK
        · by_cases hD : at' b (i : Int) < 128
          · by_cases hE : n * 128 + at' b (i : Int) % 128 < 31
            · rw [if_pos (.inr (.inr ⟨hD, hE⟩))] at hK
              simp (disch := omega) only [wu64, wu32, wu8, fdiv_nn, EO, ↓EP, EQ, EM, ↓reduceIte, Int.reduceAdd, Int.reduceEq, Int.reduceLE, Int.reduceLT, Int.reduceMul, Int.reduceNeg, Int.reducePow, Int.reduceSub, Int.reduceToNat, Nat.reduceAdd, Nat.reduceEqDiff, Nat.reduceLT, Nat.reduceLeDiff, Nat.reduceMul, reduceCtorEq, W_join, h4, h5, r0, r1, ci]
              exact hK
            · rw [if_neg (fun h => by rcases h with h | h | h; exact hA (of_decide_eq_true h.1); exact hC h; exact hE h.2), if_pos hD] at hK
              simp (disch := omega) only [wu64, wu32, wu8, fdiv_nn, EO, ↓EP, EQ, EM, ↓reduceIte, Int.reduceAdd, Int.reduceEq, Int.reduceLE, Int.reduceLT, Int.reduceMul, Int.reduceNeg, Int.reducePow, Int.reduceSub, Int.reduceToNat, Nat.reduceAdd, Nat.reduceEqDiff, Nat.reduceLT, Nat.reduceLeDiff, Nat.reduceMul, reduceCtorEq, W_join, h4, h5, r0, r1, ci]
              exact hK
          · have hno : ¬ ((decide (i = p + 1) = true ∧ at' b (i : Int) = 128) ∨ 268435455 < n * 128 + at' b (i : Int) % 128 ∨ (at' b (i : Int) < 128 ∧ n * 128 + at' b (i : Int) % 128 < 31)) := fun h => by rcases h with h | h | h; exact hA (of_decide_eq_true h.1); exact hC h; exact hD h.1
            simp (disch := omega) only [wu64, wu32, wu8, fdiv_nn, EO, ↓EP, EQ, EM, ↓reduceIte, Int.reduceAdd, Int.reduceEq, Int.reduceLE, Int.reduceLT, Int.reduceMul, Int.reduceNeg, Int.reducePow, Int.reduceSub, Int.reduceToNat, Nat.reduceAdd, Nat.reduceEqDiff, Nat.reduceLT, Nat.reduceLeDiff, Nat.reduceMul, reduceCtorEq, W_join, h4, h5, r0, r1, ci]
            exact hN (b.length - (i + 1)) _ _ (by omega) ⟨rfl, i + 1, n * 128 + at' b (i : Int) % 128, by simp (disch := omega) only [wu64, wu32, wu8, fdiv_nn, EO, ↓EP, EQ, EM, ↓reduceIte, Int.reduceAdd, Int.reduceEq, Int.reduceLE, Int.reduceLT, Int.reduceMul, Int.reduceNeg, Int.reducePow, Int.reduceSub, Int.reduceToNat, Nat.reduceAdd, Nat.reduceEqDiff, Nat.reduceLT, Nat.reduceLeDiff, Nat.reduceMul, reduceCtorEq, h5, Int.natCast_add], by simp (disch := omega) only [wu64, wu32, wu8, fdiv_nn, EO, ↓EP, EQ, EM, ↓reduceIte, Int.reduceAdd, Int.reduceEq, Int.reduceLE, Int.reduceLT, Int.reduceMul, Int.reduceNeg, Int.reducePow, Int.reduceSub, Int.reduceToNat, Nat.reduceAdd, Nat.reduceEqDiff, Nat.reduceLT, Nat.reduceLeDiff, Nat.reduceMul, reduceCtorEq], by omega, by omega, rfl, by omega, by omega, fun h => by omega, hgo' hno hD⟩
    · have hil' : i = b.length := by omega
      subst hil'
      rw [List.drop_length, tagGo] at hK
      simp (disch := omega) only [wu64, wu32, wu8, fdiv_nn, EO, ↓EP, EQ, EM, ↓reduceIte, Int.reduceAdd, Int.reduceEq, Int.reduceLE, Int.reduceLT, Int.reduceMul, Int.reduceNeg, Int.reducePow, Int.reduceSub, Int.reduceToNat, Nat.reduceAdd, Nat.reduceEqDiff, Nat.reduceLT, Nat.reduceLeDiff, Nat.reduceMul, reduceCtorEq, W_join, h4, h5, r0, r1]
      exact hK
  · rw [if_neg h31] at hK
    by_cases h0 : at' b (p : Int) % 32 = 0
    · by_cases h6 : at' b (p : Int) < 64
      · rw [if_pos ⟨h0, h6⟩] at hK
        have e6 : at' b (p : Int) / 64 = 0 := by omega
        simp (disch := omega) only [wu64, wu32, wu8, fdiv_nn, EO, ↓EP, EQ, EM, ↓reduceIte, Int.reduceAdd, Int.reduceEq, Int.reduceLE, Int.reduceLT, Int.reduceMul, Int.reduceNeg, Int.reducePow, Int.reduceSub, Int.reduceToNat, Nat.reduceAdd, Nat.reduceEqDiff, Nat.reduceLT, Nat.reduceLeDiff, Nat.reduceMul, reduceCtorEq, Code.c54, c0, h0]
        exact hK
      · rw [if_neg (fun h => h6 h.2)] at hK
        simp (disch := omega) only [wu64, wu32, wu8, fdiv_nn, EO, ↓EP, EQ, EM, ↓reduceIte, Int.reduceAdd, Int.reduceEq, Int.reduceLE, Int.reduceLT, Int.reduceMul, Int.reduceNeg, Int.reducePow, Int.reduceSub, Int.reduceToNat, Nat.reduceAdd, Nat.reduceEqDiff, Nat.reduceLT, Nat.reduceLeDiff, Nat.reduceMul, reduceCtorEq, Code.c54, c0, h0]
        rw [h0] at hK
        exact hK
    · rw [if_neg (fun h => h0 h.1)] at hK
      simp (disch := omega) only [wu64, wu32, wu8, fdiv_nn, EO, ↓EP, EQ, EM, ↓reduceIte, Int.reduceAdd, Int.reduceEq, Int.reduceLE, Int.reduceLT, Int.reduceMul, Int.reduceNeg, Int.reducePow, Int.reduceSub, Int.reduceToNat, Nat.reduceAdd, Nat.reduceEqDiff, Nat.reduceLT, Nat.reduceLeDiff, Nat.reduceMul, reduceCtorEq, Code.c54, c0]
      exact hK
set_option maxHeartbeats 2000000 in
theorem rlength_vw {w : World} {v : Value} {b : List Int} {i : Nat} (hv : Vw .u8 w v b) (hb : ByteL b) (hi : i ≤ b.length) (hm : b.length ≤ 16777216) (K : Value → World → Prop)
    (hK : K (tup4 (lenR b i)) w) : callK Tryd.prog 55 [v, .int .i64 i] w K := by
  obtain ⟨A, c, rfl, hc, hr⟩ := hv
  refine call_of Tryd.func55 Code.h55 (by simp [Code.c55]) ?_
  unfold lenR at hK
  by_cases hil : (b.length : Int) ≤ (i : Int)
  · rw [if_pos (by omega)] at hK
    simp (disch := omega) only [wu64, wu32, wu8, fdiv_nn, EO, ↓EP, EQ, EM, ↓reduceIte, Int.reduceAdd, Int.reduceEq, Int.reduceLE, Int.reduceLT, Int.reduceMul, Int.reduceNeg, Int.reducePow, Int.reduceSub, Int.reduceToNat, Nat.reduceAdd, Nat.reduceEqDiff, Nat.reduceLT, Nat.reduceLeDiff, Nat.reduceMul, reduceCtorEq, Code.c55]
    exact hK
  rw [if_neg (by omega)] at hK
  obtain ⟨ad, e, _, hcl⟩ := hr.get (by rw [nums_length]; omega)
  subst e
  have cell : ∀ i : Nat, i < b.length → w.cell? (ad.add i) = some (.int .u8 (at' b (i : Int))) := fun i hi => hcl.numN hi
  have ci := cell i (by omega)
  have bi := hb i
  by_cases h128 : at' b (i : Int) < 128
  · rw [if_pos h128] at hK
    have e2 : ((b.length - (i + 1) : Nat) : Int) = (b.length : Int) - ((i : Int) + 1) := by omega
    rw [e2] at hK
    by_cases hn : (b.length : Int) - ((i : Int) + 1) < at' b (i : Int)
    · rw [if_pos hn] at hK
      simp (disch := omega) only [wu64, wu32, wu8, fdiv_nn, EO, ↓EP, EQ, EM, ↓reduceIte, Int.reduceAdd, Int.reduceEq, Int.reduceLE, Int.reduceLT, Int.reduceMul, Int.reduceNeg, Int.reducePow, Int.reduceSub, Int.reduceToNat, Nat.reduceAdd, Nat.reduceEqDiff, Nat.reduceLT, Nat.reduceLeDiff, Nat.reduceMul, reduceCtorEq, Code.c55, W_join, ci]
      exact hK
    · rw [if_neg hn] at hK
      simp (disch := omega) only [wu64, wu32, wu8, fdiv_nn, EO, ↓EP, EQ, EM, ↓reduceIte, Int.reduceAdd, Int.reduceEq, Int.reduceLE, Int.reduceLT, Int.reduceMul, Int.reduceNeg, Int.reducePow, Int.reduceSub, Int.reduceToNat, Nat.reduceAdd, Nat.reduceEqDiff, Nat.reduceLT, Nat.reduceLeDiff, Nat.reduceMul, reduceCtorEq, Code.c55, W_join, ci]
      exact hK
  rw [if_neg h128] at hK
  by_cases hq : at' b (i : Int) = 128 ∨ at' b (i : Int) = 255
  · rw [if_pos hq] at hK
    rcases hq with hq | hq
    · simp (disch := omega) only [wu64, wu32, wu8, fdiv_nn, EO, ↓EP, EQ, EM, ↓reduceIte, Int.reduceAdd, Int.reduceEq, Int.reduceLE, Int.reduceLT, Int.reduceMul, Int.reduceNeg, Int.reducePow, Int.reduceSub, Int.reduceToNat, Nat.reduceAdd, Nat.reduceEqDiff, Nat.reduceLT, Nat.reduceLeDiff, Nat.reduceMul, reduceCtorEq, Code.c55, W_join, ci]
      exact hK
    · simp (disch := omega) only [wu64, wu32, wu8, fdiv_nn, EO, ↓EP, EQ, EM, ↓reduceIte, Int.reduceAdd, Int.reduceEq, Int.reduceLE, Int.reduceLT, Int.reduceMul, Int.reduceNeg, Int.reducePow, Int.reduceSub, Int.reduceToNat, Nat.reduceAdd, Nat.reduceEqDiff, Nat.reduceLT, Nat.reduceLeDiff, Nat.reduceMul, reduceCtorEq, Code.c55, W_join, ci]
      exact hK
  rw [if_neg hq] at hK
  obtain ⟨k, hk⟩ : ∃ k : Nat, at' b (i : Int) = 128 + (k : Int) := ⟨(at' b (i : Int) - 128).toNat, by omega⟩
  have ek' : (at' b (i : Int) - 128).toNat = k := by omega
  rw [ek'] at hK
  have hk1 : 0 < k := by omega
  have hk127 : k < 127 := by omega
  rw [hk] at ci
  by_cases hs : b.length < i + 1 + k
  · rw [if_pos hs] at hK
    simp (disch := omega) only [wu64, wu32, wu8, fdiv_nn, EO, ↓EP, EQ, EM, ↓reduceIte, Int.reduceAdd, Int.reduceEq, Int.reduceLE, Int.reduceLT, Int.reduceMul, Int.reduceNeg, Int.reducePow, Int.reduceSub, Int.reduceToNat, Nat.reduceAdd, Nat.reduceEqDiff, Nat.reduceLT, Nat.reduceLeDiff, Nat.reduceMul, reduceCtorEq, Code.c55, W_join, ci]
    exact hK
  rw [if_neg hs] at hK
  simp (disch := omega) only [wu64, wu32, wu8, fdiv_nn, EO, ↓EP, EQ, EM, ↓reduceIte, Int.reduceAdd, Int.reduceEq, Int.reduceLE, Int.reduceLT, Int.reduceMul, Int.reduceNeg, Int.reducePow, Int.reduceSub, Int.reduceToNat, Nat.reduceAdd, Nat.reduceEqDiff, Nat.reduceLT, Nat.reduceLeDiff, Nat.reduceMul, reduceCtorEq, Code.c55, W_join, ci]
  generalize hq2 : (b.drop (i + 1)).take k = q at hK
  have hqm : ∀ x ∈ q, 0 ≤ x ∧ x < 256 := fun x hx => byteL_mem hb x (by rw [← hq2] at hx; exact List.mem_of_mem_drop (List.mem_of_mem_take hx))
  have hql : q.length = k := by rw [← hq2]; simp; omega
  have qat : ∀ j : Nat, j < k → at' q (j : Int) = at' b ((i + 1 + j : Nat) : Int) := fun j hj => by rw [← hq2, at_take hj, at_drop]
  refine loop_inv (fun t ρ w' => w' = w ∧ ∃ j : Nat, ρ 11 = .int .i64 ((i : Int) + 1 + (j : Int)) ∧ j ≤ k ∧ t = k - j ∧ ρ 8 = .int .i64 (lenFold (q.take j))) k ⟨rfl, 0, by simp (disch := omega) only [wu64, wu32, wu8, fdiv_nn, EO, ↓EP, EQ, EM, ↓reduceIte, Int.reduceAdd, Int.reduceEq, Int.reduceLE, Int.reduceLT, Int.reduceMul, Int.reduceNeg, Int.reducePow, Int.reduceSub, Int.reduceToNat, Nat.reduceAdd, Nat.reduceEqDiff, Nat.reduceLT, Nat.reduceLeDiff, Nat.reduceMul, reduceCtorEq, Int.natCast_zero, Int.add_zero], by omega, by omega, by simp (disch := omega) only [wu64, wu32, wu8, fdiv_nn, EO, ↓EP, EQ, EM, ↓reduceIte, Int.reduceAdd, Int.reduceEq, Int.reduceLE, Int.reduceLT, Int.reduceMul, Int.reduceNeg, Int.reducePow, Int.reduceSub, Int.reduceToNat, Nat.reduceAdd, Nat.reduceEqDiff, Nat.reduceLT, Nat.reduceLeDiff, Nat.reduceMul, reduceCtorEq]; rfl⟩ ?_
  rintro t ρ w' hf ⟨rfl, j, h11, hj, rfl, h8⟩ N hN
  have r0 : ρ 0 = .slice (some ad) b.length c := by rw [hf 0 rfl]; simp (disch := omega) only [wu64, wu32, wu8, fdiv_nn, EO, ↓EP, EQ, EM, ↓reduceIte, Int.reduceAdd, Int.reduceEq, Int.reduceLE, Int.reduceLT, Int.reduceMul, Int.reduceNeg, Int.reducePow, Int.reduceSub, Int.reduceToNat, Nat.reduceAdd, Nat.reduceEqDiff, Nat.reduceLT, Nat.reduceLeDiff, Nat.reduceMul, reduceCtorEq]
  have r1 : ρ 1 = .int .i64 i := by rw [hf 1 rfl]; simp (disch := omega) only [wu64, wu32, wu8, fdiv_nn, EO, ↓EP, EQ, EM, ↓reduceIte, Int.reduceAdd, Int.reduceEq, Int.reduceLE, Int.reduceLT, Int.reduceMul, Int.reduceNeg, Int.reducePow, Int.reduceSub, Int.reduceToNat, Nat.reduceAdd, Nat.reduceEqDiff, Nat.reduceLT, Nat.reduceLeDiff, Nat.reduceMul, reduceCtorEq]
  have r10 : ρ 10 = .int .i64 k := by rw [hf 10 rfl]; simp (disch := omega) only [wu64, wu32, wu8, fdiv_nn, EO, ↓EP, EQ, EM, ↓reduceIte, Int.reduceAdd, Int.reduceEq, Int.reduceLE, Int.reduceLT, Int.reduceMul, Int.reduceNeg, Int.reducePow, Int.reduceSub, Int.reduceToNat, Nat.reduceAdd, Nat.reduceEqDiff, Nat.reduceLT, Nat.reduceLeDiff, Nat.reduceMul, reduceCtorEq]; congr 1; omega
  clear hf
  have hfb := fold_bd (l := q.take j) (fun x hx => hqm x (List.mem_of_mem_take hx))
  by_cases hjk : (j : Int) < (k : Int)
  · have cj := cell (i + 1 + j) (by omega)
    have et : ((i : Int) + 1 + (j : Int)).toNat = i + 1 + j := by omega
    have bj := hb (i + 1 + j)
    rw [← qat j (by omega)] at cj bj
    have hst : lenFold (q.take (j + 1)) = if 16777217 < lenFold (q.take j) * 256 + at' q (j : Int) then 16777217 else lenFold (q.take j) * 256 + at' q (j : Int) := by
      rw [take_snoc (by omega), fold_snoc]; rfl
    by_cases hcap : 16777216 < lenFold (q.take j) * 256 + at' q (j : Int)
    · have hst' : lenFold (q.take (j + 1)) = 16777217 := by rw [hst]; split <;> omega
      simp (disch := omega) only [wu64, wu32, wu8, fdiv_nn, EO, ↓EP, EQ, EM, ↓reduceIte, Int.reduceAdd, Int.reduceEq, Int.reduceLE, Int.reduceLT, Int.reduceMul, Int.reduceNeg, Int.reducePow, Int.reduceSub, Int.reduceToNat, Nat.reduceAdd, Nat.reduceEqDiff, Nat.reduceLT, Nat.reduceLeDiff, Nat.reduceMul, reduceCtorEq, W_join, h11, h8, r0, r1, r10, et, cj]
      exact hN (k - (j + 1)) _ _ (by omega) ⟨rfl, j + 1, by simp (disch := omega) only [wu64, wu32, wu8, fdiv_nn, EO, ↓EP, EQ, EM, ↓reduceIte, Int.reduceAdd, Int.reduceEq, Int.reduceLE, Int.reduceLT, Int.reduceMul, Int.reduceNeg, Int.reducePow, Int.reduceSub, Int.reduceToNat, Nat.reduceAdd, Nat.reduceEqDiff, Nat.reduceLT, Nat.reduceLeDiff, Nat.reduceMul, reduceCtorEq, h11]; congr 1, by omega, rfl, by simp (disch := omega) only [wu64, wu32, wu8, fdiv_nn, EO, ↓EP, EQ, EM, ↓reduceIte, Int.reduceAdd, Int.reduceEq, Int.reduceLE, Int.reduceLT, Int.reduceMul, Int.reduceNeg, Int.reducePow, Int.reduceSub, Int.reduceToNat, Nat.reduceAdd, Nat.reduceEqDiff, Nat.reduceLT, Nat.reduceLeDiff, Nat.reduceMul, reduceCtorEq, hst']⟩
    · have hst' : lenFold (q.take (j + 1)) = lenFold (q.take j) * 256 + at' q (j : Int) := by rw [hst]; split <;> omega
      simp (disch := omega) only [wu64, wu32, wu8, fdiv_nn, EO, ↓EP, EQ, EM, ↓reduceIte, Int.reduceAdd, Int.reduceEq, Int.reduceLE, Int.reduceLT, Int.reduceMul, Int.reduceNeg, Int.reducePow, Int.reduceSub, Int.reduceToNat, Nat.reduceAdd, Nat.reduceEqDiff, Nat.reduceLT, Nat.reduceLeDiff, Nat.reduceMul, reduceCtorEq, W_join, h11, h8, r0, r1, r10, et, cj]
      exact hN (k - (j + 1)) _ _ (by omega) ⟨rfl, j + 1, by simp (disch := omega) only [wu64, wu32, wu8, fdiv_nn, EO, ↓EP, EQ, EM, ↓reduceIte, Int.reduceAdd, Int.reduceEq, Int.reduceLE, Int.reduceLT, Int.reduceMul, Int.reduceNeg, Int.reducePow, Int.reduceSub, Int.reduceToNat, Nat.reduceAdd, Nat.reduceEqDiff, Nat.reduceLT, Nat.reduceLeDiff, Nat.reduceMul, reduceCtorEq, h11]; congr 1, by omega, rfl, by simp (disch := omega) only [wu64, wu32, wu8, fdiv_nn, EO, ↓EP, EQ, EM, ↓reduceIte, Int.reduceAdd, Int.reduceEq, Int.reduceLE, Int.reduceLT, Int.reduceMul, Int.reduceNeg, Int.reducePow, Int.reduceSub, Int.reduceToNat, Nat.reduceAdd, Nat.reduceEqDiff, Nat.reduceLT, Nat.reduceLeDiff, Nat.reduceMul, reduceCtorEq, hst']⟩
  · have hjk' : j = k := by omega
    subst hjk'
    clear hN
    rw [List.take_of_length_le (by omega)] at h8 hfb
    have c1 := cell (i + 1) (by omega)
    have elo : ((i : Int) + 1).toNat = i + 1 := by omega
    have eb : ((b.length - (i + 1 + j) : Nat) : Int) = (b.length : Int) - ((i : Int) + 1 + (j : Int)) := by omega
    rw [eb] at hK
    by_cases hz : at' b ((i + 1 : Nat) : Int) = 0
    · rw [if_pos (.inr hz)] at hK
      rw [hz] at c1
      by_cases hf128 : lenFold q < 128
      · simp (disch := omega) only [wu64, wu32, wu8, fdiv_nn, EO, ↓EP, EQ, EM, ↓reduceIte, Int.reduceAdd, Int.reduceEq, Int.reduceLE, Int.reduceLT, Int.reduceMul, Int.reduceNeg, Int.reducePow, Int.reduceSub, Int.reduceToNat, Nat.reduceAdd, Nat.reduceEqDiff, Nat.reduceLT, Nat.reduceLeDiff, Nat.reduceMul, reduceCtorEq, W_join, h11, h8, r0, r1, r10, elo, c1]
        exact hK
      · simp (disch := omega) only [wu64, wu32, wu8, fdiv_nn, EO, ↓EP, EQ, EM, ↓reduceIte, Int.reduceAdd, Int.reduceEq, Int.reduceLE, Int.reduceLT, Int.reduceMul, Int.reduceNeg, Int.reducePow, Int.reduceSub, Int.reduceToNat, Nat.reduceAdd, Nat.reduceEqDiff, Nat.reduceLT, Nat.reduceLeDiff, Nat.reduceMul, reduceCtorEq, W_join, h11, h8, r0, r1, r10, elo, c1]
        exact hK
    have hzf : (at' b ((i + 1 : Nat) : Int) = 0) = False := eq_false hz
    by_cases hf128 : lenFold q < 128
    · rw [if_pos (.inl hf128)] at hK
      simp (disch := omega) only [wu64, wu32, wu8, fdiv_nn, EO, ↓EP, EQ, EM, ↓reduceIte, Int.reduceAdd, Int.reduceEq, Int.reduceLE, Int.reduceLT, Int.reduceMul, Int.reduceNeg, Int.reducePow, Int.reduceSub, Int.reduceToNat, Nat.reduceAdd, Nat.reduceEqDiff, Nat.reduceLT, Nat.reduceLeDiff, Nat.reduceMul, reduceCtorEq, W_join, h11, h8, r0, r1, r10, elo, c1, hzf]
      exact hK
    rw [if_neg (fun h => by rcases h with h | h; exact hf128 h; exact hz h)] at hK
    by_cases hlast : (b.length : Int) - ((i : Int) + 1 + (j : Int)) < lenFold q
    · rw [if_pos hlast] at hK
      simp (disch := omega) only [wu64, wu32, wu8, fdiv_nn, EO, ↓EP, EQ, EM, ↓reduceIte, Int.reduceAdd, Int.reduceEq, Int.reduceLE, Int.reduceLT, Int.reduceMul, Int.reduceNeg, Int.reducePow, Int.reduceSub, Int.reduceToNat, Nat.reduceAdd, Nat.reduceEqDiff, Nat.reduceLT, Nat.reduceLeDiff, Nat.reduceMul, reduceCtorEq, W_join, h11, h8, r0, r1, r10, elo, c1, hzf]
      exact hK
    · rw [if_neg hlast] at hK
      simp (disch := omega) only [wu64, wu32, wu8, fdiv_nn, EO, ↓EP, EQ, EM, ↓reduceIte, Int.reduceAdd, Int.reduceEq, Int.reduceLE, Int.reduceLT, Int.reduceMul, Int.reduceNeg, Int.reducePow, Int.reduceSub, Int.reduceToNat, Nat.reduceAdd, Nat.reduceEqDiff, Nat.reduceLT, Nat.reduceLeDiff, Nat.reduceMul, reduceCtorEq, W_join, h11, h8, r0, r1, r10, elo, c1, hzf]
      exact hK
end Go.Proofs.YtcflokckfjkdpaaDoor.Der

/- The document's rows of elements, walked. -/
set_option linter.unusedVariables false
set_option linter.unusedSimpArgs false
namespace Go.Proofs.YtcflokckfjkdpaaDoor.Der
open Go Go.RowKit Go.Proofs Go.Proofs.YtcflokckfjkdpaaDoor.Eng Go.Proofs.YtcflokckfjkdpaaDoor.Code
set_option maxRecDepth 100000
attribute [local irreducible] callK S.W opsW scrW scrT

theorem app_ns {k : IntKind} {e bytes : Nat} {w : World} {x : Value} {B : Option Addr} {m d N : Nat} {l l' : List Int} {K : Value → World → Prop} (hx : Sl k w x l) (hm : l'.length = m) (hy : Rd w B (nums k l'))
    (hs : (l.length + l'.length) * bytes ≤ 140737488355328) (hb : 0 < bytes) (hN : (l ++ l').length = N) (hK : ∀ A c w', Apd k w x (l ++ l') (.slice A N c) w' → K (.slice A N c) w') : appK e 1 bytes #[.int k 0] x (.slice B m d) w K := by
  refine app_num hx hm hy hs hb fun v w' a => ?_
  obtain ⟨A, c, e, _, _⟩ := readn a.sl hN
  subst e
  exact hK _ _ _ a
theorem new_gw {k : IntKind} {w w' : World} (n : New w w' (nums k [])) : Gw k w w' (.slice (some ⟨w.heap.size, 0, none⟩) 0 0) [] := ⟨n.sl, fun b e => by cases e; exact Nat.le_refl _, n.fr nob⟩
/-- Two rows under way, apart from one another. -/
structure Two (W w : World) (D : Value) (ld : List Int) (R : Value) (lr : List Int) : Prop where
  gd : Gw .u8 W w D ld
  gr : Gw .u8 W w R lr
  ap : ∀ b, blkOf D = some b → blkOf R ≠ some b
theorem Two.swap {W w : World} {D R : Value} {ld lr : List Int} (t : Two W w D ld R lr) : Two W w R lr D ld := ⟨t.gr, t.gd, fun b h e => t.ap b e h⟩
theorem Two.step {W w w' : World} {D R : Value} {ld lr : List Int} (t : Two W w D ld R lr) (f : Fr w w' nob) : Two W w' D ld R lr := ⟨t.gd.step f, t.gr.step f, t.ap⟩
theorem Two.newR {W w w' : World} {D : Value} {ld : List Int} (g : Gw .u8 W w D ld) (n : New w w' (nums .u8 [])) : Two W w' D ld (.slice (some ⟨w.heap.size, 0, none⟩) 0 0) [] :=
  ⟨g.new n, (new_gw n).from g.fr, fun b h e => by
    have h1 := g.sl.lt h
    have h2 : w.heap.size = b := Option.some.inj e
    omega⟩
theorem Two.newD {W w w' : World} {R : Value} {lr : List Int} (g : Gw .u8 W w R lr) (n : New w w' (nums .u8 [])) : Two W w' (.slice (some ⟨w.heap.size, 0, none⟩) 0 0) [] R lr := (Two.newR g n).swap
theorem Two.appD {W w w' : World} {D D' R : Value} {ld ld' lr : List Int} (t : Two W w D ld R lr) (a : Apd .u8 w D ld' D' w') : Two W w' D' ld' R lr :=
  ⟨t.gd.apd a, t.gr.other a.fr (fun b h e => t.ap b e h) (fun b hb e => by have := t.gd.up b e; omega), fun b h e => by
    rcases a.where_ with hw | hw
    · exact t.ap b (hw ▸ h) e
    · have h1 := hw b h
      have h2 := t.gr.sl.lt e
      omega⟩
theorem Two.appR {W w w' : World} {D R R' : Value} {ld lr lr' : List Int} (t : Two W w D ld R lr) (a : Apd .u8 w R lr' R' w') : Two W w' D ld R' lr' := (t.swap.appD a).swap
/-- Two new ones, made behind the others. -/
theorem Rws.add2 {w0 w w' : World} {X d r : Value} {vs : List Value} {ls : List (List Int)} {ld lr : List Int} (h : Rws w0 w X vs ls) (hX : ∀ b, blkOf X = some b → b < w.heap.size) (f0 : Fr w0 w nob) (t : Two w w' d ld r lr) : Rws w0 w' X (vs ++ [d, r]) (ls ++ [ld, lr]) := by
  have h' := h.nb t.gd.fr
  have old : ∀ (i : Nat) (u : Value) (b : Nat), vs[i]? = some u → blkOf u = some b → b < w.heap.size := fun i u b h1 h2 => (h.up i u b h1 h2).2.1
  have spl : ∀ {i : Nat} {u : Value}, (vs ++ [d, r])[i]? = some u → (i < vs.length ∧ vs[i]? = some u) ∨ (i = vs.length ∧ u = d) ∨ (i = vs.length + 1 ∧ u = r) := by
    intro i u hi
    by_cases hlt : i < vs.length
    · rw [List.getElem?_append_left hlt] at hi; exact .inl ⟨hlt, hi⟩
    · have hi' := (List.getElem?_eq_some_iff.1 hi).1
      simp at hi'
      rw [List.getElem?_append_right (by omega)] at hi
      by_cases e : i = vs.length
      · subst e; simp at hi; exact .inr (.inl ⟨rfl, hi.symm⟩)
      · have e2 : i = vs.length + 1 := by omega
        subst e2; simp at hi; exact .inr (.inr ⟨rfl, hi.symm⟩)
  have z := f0.size
  have upd : ∀ u b, u = d ∨ u = r → blkOf u = some b → w.heap.size ≤ b ∧ b < w'.heap.size := by
    intro u b hu hb
    rcases hu with rfl | rfl
    · exact ⟨t.gd.up b hb, t.gd.sl.lt hb⟩
    · exact ⟨t.gr.up b hb, t.gr.sl.lt hb⟩
  refine ⟨by simp [h.len], fun i u l' h1 h2 => ?_, fun i u b h1 h2 => ?_, fun i j u u' b hne h1 h2 hb => ?_⟩
  · rcases spl h1 with ⟨hlt, h1⟩ | ⟨rfl, rfl⟩ | ⟨rfl, rfl⟩
    · rw [List.getElem?_append_left (by rw [← h.len]; exact hlt)] at h2
      exact h'.each i u l' h1 h2
    · rw [h.len] at h2
      simp at h2
      subst h2
      exact t.gd.sl
    · rw [h.len, List.getElem?_append_right (by omega)] at h2
      simp at h2
      subst h2
      exact t.gr.sl
  · rcases spl h1 with ⟨hlt, h1⟩ | ⟨_, e⟩ | ⟨_, e⟩
    · exact h'.up i u b h1 h2
    · have := upd u b (.inl e) h2
      exact ⟨by omega, this.2, fun e => by have := hX b e; omega⟩
    · have := upd u b (.inr e) h2
      exact ⟨by omega, this.2, fun e => by have := hX b e; omega⟩
  · intro hb'
    rcases spl h1 with ⟨_, k1⟩ | ⟨i1, e1⟩ | ⟨i1, e1⟩ <;> rcases spl h2 with ⟨_, k2⟩ | ⟨i2, e2⟩ | ⟨i2, e2⟩
    · exact h.apart i j u u' b hne k1 k2 hb hb'
    · have := old i u b k1 hb; have := upd u' b (.inl e2) hb'; omega
    · have := old i u b k1 hb; have := upd u' b (.inr e2) hb'; omega
    · have := old j u' b k2 hb'; have := upd u b (.inl e1) hb; omega
    · omega
    · subst e1 e2; exact t.ap b hb hb'
    · have := old j u' b k2 hb'; have := upd u b (.inr e1) hb; omega
    · subst e1 e2; exact t.ap b hb' hb
    · omega
theorem Tls.add2 {w0 w w2 w3 w4 : World} {X X' : Value} {ts : List Tlv} {vs : List Value} {t : Tlv} {d r : Value} (h : Tls w0 w X ts vs) (q : Two w w2 d t.data r t.raw) (f : Fr w2 w3 nob) (a : Ag 5 w3 X (ts.length + 1) (cellsT ts vs ++ tcells t d r) X' w4) : Tls w0 w4 X' (ts ++ [t]) (vs ++ [d, r]) := by
  have hX : ∀ b, blkOf X = some b → b < w.heap.size := fun b e => h.g.sl.lt e
  have r3 := ((h.r.add2 hX h.g.fr q).nb f).row a
  refine ⟨?_, ?_⟩
  · rw [List.length_append, cellsT_add ts vs t d r h.vlen]
    exact ((h.g.step q.gd.fr).step f).apd a
  · rw [tflat_add]; exact r3
set_option maxHeartbeats 4000000 in
theorem rsplit_vw {w : World} {v : Value} {b : List Int} (hv : Vw .u8 w v b) (hb : ByteL b) (h63 : b.length ≤ 9223372036854775807) (K : Value → World → Prop)
    (hK : ∀ X vs w', Tls w w' X (splitR b).1 vs → K (tup3 X (splitR b).2.1 (splitR b).2.2) w') : callK Tryd.prog 28 [v] w K := by
  obtain ⟨A, c, rfl, hc, hr⟩ := hv
  refine call_of Tryd.func28 Code.h28 (by simp [Code.c28]) ?_
  unfold splitR at hK
  by_cases hm : (16777216 : Int) < (b.length : Int)
  · rw [if_pos (by omega)] at hK
    simp (disch := omega) only [wu64, wu32, wu8, fdiv_nn, EO, ↓EP, EQ, EM, ↓reduceIte, Int.reduceAdd, Int.reduceEq, Int.reduceLE, Int.reduceLT, Int.reduceMul, Int.reduceNeg, Int.reducePow, Int.reduceSub, Int.reduceToNat, Nat.reduceAdd, Nat.reduceEqDiff, Nat.reduceLT, Nat.reduceLeDiff, Nat.reduceMul, reduceCtorEq, Code.c28]
    exact hK _ [] _ (Tls.nil w)
  rw [if_neg (by omega)] at hK
  simp (disch := omega) only [wu64, wu32, wu8, fdiv_nn, EO, ↓EP, EQ, EM, ↓reduceIte, Int.reduceAdd, Int.reduceEq, Int.reduceLE, Int.reduceLT, Int.reduceMul, Int.reduceNeg, Int.reducePow, Int.reduceSub, Int.reduceToNat, Nat.reduceAdd, Nat.reduceEqDiff, Nat.reduceLT, Nat.reduceLeDiff, Nat.reduceMul, reduceCtorEq, Code.c28]
  refine loop_inv (fun t ρ w' => ∃ (p f : Nat) (X : Value) (ts : List Tlv) (vs : List Value), ρ 6 = .int .i64 p ∧ ρ 5 = X ∧ p ≤ b.length ∧ t = b.length - p ∧ b.length - p < f ∧ ts.length ≤ 65536 ∧ Tls w w' X ts vs ∧ splitGo b f p ts = splitGo b (b.length + 1) 0 []) _ ⟨0, b.length + 1, .slice none 0 0, [], [], by simp (disch := omega) only [wu64, wu32, wu8, fdiv_nn, EO, ↓EP, EQ, EM, ↓reduceIte, Int.reduceAdd, Int.reduceEq, Int.reduceLE, Int.reduceLT, Int.reduceMul, Int.reduceNeg, Int.reducePow, Int.reduceSub, Int.reduceToNat, Nat.reduceAdd, Nat.reduceEqDiff, Nat.reduceLT, Nat.reduceLeDiff, Nat.reduceMul, reduceCtorEq], by simp (disch := omega) only [wu64, wu32, wu8, fdiv_nn, EO, ↓EP, EQ, EM, ↓reduceIte, Int.reduceAdd, Int.reduceEq, Int.reduceLE, Int.reduceLT, Int.reduceMul, Int.reduceNeg, Int.reducePow, Int.reduceSub, Int.reduceToNat, Nat.reduceAdd, Nat.reduceEqDiff, Nat.reduceLT, Nat.reduceLeDiff, Nat.reduceMul, reduceCtorEq], by omega, rfl, by omega, by simp, Tls.nil w, rfl⟩ ?_
  rintro t ρ w1 hf ⟨p, f, X, ts, vs, h6, h5, hp, rfl, hfu, hts, T, hgo⟩ N hN
  have r0 : ρ 0 = .slice A b.length c := by rw [hf 0 rfl]; simp (disch := omega) only [wu64, wu32, wu8, fdiv_nn, EO, ↓EP, EQ, EM, ↓reduceIte, Int.reduceAdd, Int.reduceEq, Int.reduceLE, Int.reduceLT, Int.reduceMul, Int.reduceNeg, Int.reducePow, Int.reduceSub, Int.reduceToNat, Nat.reduceAdd, Nat.reduceEqDiff, Nat.reduceLT, Nat.reduceLeDiff, Nat.reduceMul, reduceCtorEq]
  clear hf
  rw [← hgo] at hK hN
  obtain ⟨f, rfl⟩ : ∃ g, f = g + 1 := ⟨f - 1, by omega⟩
  obtain ⟨XA, xc, rfl, hxc, _⟩ := T.g.sl.read
  by_cases hpl : (p : Int) < (b.length : Int)
  · rw [splitGo, if_neg (by omega)] at hK hN
    by_cases h64 : (ts.length : Int) = 65536
    · rw [if_pos (by omega)] at hK
      simp (disch := omega) only [wu64, wu32, wu8, fdiv_nn, EO, ↓EP, EQ, EM, ↓reduceIte, Int.reduceAdd, Int.reduceEq, Int.reduceLE, Int.reduceLT, Int.reduceMul, Int.reduceNeg, Int.reducePow, Int.reduceSub, Int.reduceToNat, Nat.reduceAdd, Nat.reduceEqDiff, Nat.reduceLT, Nat.reduceLeDiff, Nat.reduceMul, reduceCtorEq, h6, h5, r0, h64]
      exact hK _ [] _ ⟨⟨Sg.nil 5 w1, fun b e => (by cases e), T.g.fr⟩, Rws.nil w w1 _⟩
    rw [if_neg (by omega)] at hK hN
    simp (disch := omega) only [wu64, wu32, wu8, fdiv_nn, EO, ↓EP, EQ, EM, ↓reduceIte, Int.reduceAdd, Int.reduceEq, Int.reduceLE, Int.reduceLT, Int.reduceMul, Int.reduceNeg, Int.reducePow, Int.reduceSub, Int.reduceToNat, Nat.reduceAdd, Nat.reduceEqDiff, Nat.reduceLT, Nat.reduceLeDiff, Nat.reduceMul, reduceCtorEq, h6, h5, r0]
    have hr1 := hr.nb T.g.fr
    refine rtag_vw (Vw.of rfl hc hr1) hb (by omega) (by omega) _ ?_
    simp only [tup4]
    have tok := tag_ok (b := b) (p := p) (by omega)
    generalize tagR b p = tg at *
    obtain ⟨tt, ti, te, ta⟩ := tg
    simp only at *
    by_cases hte : te = 0
    rotate_left
    · rw [if_pos hte] at hK
      have hte' : (te = 0) = False := eq_false hte
      simp (disch := omega) only [wu64, wu32, wu8, fdiv_nn, EO, ↓EP, EQ, EM, ↓reduceIte, Int.reduceAdd, Int.reduceEq, Int.reduceLE, Int.reduceLT, Int.reduceMul, Int.reduceNeg, Int.reducePow, Int.reduceSub, Int.reduceToNat, Nat.reduceAdd, Nat.reduceEqDiff, Nat.reduceLT, Nat.reduceLeDiff, Nat.reduceMul, reduceCtorEq, h6, r0, hte']
      exact hK _ [] _ ⟨⟨Sg.nil 5 w1, fun b e => (by cases e), T.g.fr⟩, Rws.nil w w1 _⟩
    rw [if_neg (by simpa using hte)] at hK hN
    obtain ⟨tok1, tok2⟩ := tok hte
    simp (disch := omega) only [wu64, wu32, wu8, fdiv_nn, EO, ↓EP, EQ, EM, ↓reduceIte, Int.reduceAdd, Int.reduceEq, Int.reduceLE, Int.reduceLT, Int.reduceMul, Int.reduceNeg, Int.reducePow, Int.reduceSub, Int.reduceToNat, Nat.reduceAdd, Nat.reduceEqDiff, Nat.reduceLT, Nat.reduceLeDiff, Nat.reduceMul, reduceCtorEq, h6, r0, hte]
    refine rlength_vw (Vw.of rfl hc hr1) hb tok2 (by omega) _ ?_
    simp only [tup4]
    have lok := len_ok (b := b) (i := ti) hb
    generalize lenR b ti = lg at *
    obtain ⟨ln, lj, le, la⟩ := lg
    simp only at *
    by_cases hle : le = 0
    rotate_left
    · rw [if_pos hle] at hK
      have hle' : (le = 0) = False := eq_false hle
      simp (disch := omega) only [wu64, wu32, wu8, fdiv_nn, EO, ↓EP, EQ, EM, ↓reduceIte, Int.reduceAdd, Int.reduceEq, Int.reduceLE, Int.reduceLT, Int.reduceMul, Int.reduceNeg, Int.reducePow, Int.reduceSub, Int.reduceToNat, Nat.reduceAdd, Nat.reduceEqDiff, Nat.reduceLT, Nat.reduceLeDiff, Nat.reduceMul, reduceCtorEq, h6, r0, hle']
      exact hK _ [] _ ⟨⟨Sg.nil 5 w1, fun b e => (by cases e), T.g.fr⟩, Rws.nil w w1 _⟩
    rw [if_neg (by simpa using hle)] at hK hN
    obtain ⟨lok1, lok2, lok3⟩ := lok hle
    obtain ⟨ln, rfl⟩ := Int.eq_ofNat_of_zero_le lok2
    rw [Int.toNat_natCast] at lok3 hK hN
    obtain ⟨ad, rfl, _, _⟩ := hr.get (by rw [nums_length]; omega)
    have cellf : ∀ w', Fr w w' nob → w'.cell? (ad.add p) = some (.int .u8 (at' b (p : Int))) := fun w' f => by
      obtain ⟨ad', e', _, hcl⟩ := (hr.nb f).get (by rw [nums_length]; omega)
      cases e'
      exact hcl.numN (by omega)
    have cp := cellf w1 T.g.fr
    have bp := hb p
    have ee : ((lj : Int) + (ln : Int)).toNat - lj = ln := by omega
    have ee2 : ((lj : Int) + (ln : Int)).toNat - p = lj + ln - p := by omega
    generalize hcons : decide (at' b (p : Int) / 32 % 2 = 1) = cons at hK hN
    simp (disch := omega) only [wu64, wu32, wu8, fdiv_nn, EO, ↓EP, EQ, EM, ↓reduceIte, Int.reduceAdd, Int.reduceEq, Int.reduceLE, Int.reduceLT, Int.reduceMul, Int.reduceNeg, Int.reducePow, Int.reduceSub, Int.reduceToNat, Nat.reduceAdd, Nat.reduceEqDiff, Nat.reduceLT, Nat.reduceLeDiff, Nat.reduceMul, reduceCtorEq, W_join, h6, h5, r0, hle, cp, ee, ee2, hcons]
    refine ⟨fun m1 => ?_, fun m1 => ?_⟩
    · have fW : Fr w1 (w1.drewN (1 + m1)) nob := Fr.drewN _ _ _
      have T1 := T.nb fW
      have F1 := T1.g.fr
      have hz1 : (w1.drewN (1 + m1)).heap.size = w1.heap.size := rfl
      generalize w1.drewN (1 + m1) = v1 at T1 F1 hz1 ⊢
      refine al_k (nums .u8 []) rfl fun w2 n2 => ?_
      have g2 := new_gw n2
      rw [hz1] at g2
      have c2 := cellf w2 (F1.nb g2.fr)
      simp (disch := omega) only [wu64, wu32, wu8, fdiv_nn, EO, ↓EP, EQ, EM, ↓reduceIte, Int.reduceAdd, Int.reduceEq, Int.reduceLE, Int.reduceLT, Int.reduceMul, Int.reduceNeg, Int.reducePow, Int.reduceSub, Int.reduceToNat, Nat.reduceAdd, Nat.reduceEqDiff, Nat.reduceLT, Nat.reduceLeDiff, Nat.reduceMul, reduceCtorEq, W_join, h6, h5, r0, hle, c2, ee, ee2, hcons]
      refine ⟨fun m => ?_, fun m => ?_⟩
      · have fm : Fr w2 (w2.drewN m) nob := Fr.drewN _ _ _
        have q2 := g2.step fm
        have fr2 := F1.nb q2.fr
        have hz2 : (w2.drewN m).heap.size = w2.heap.size := rfl
        generalize w2.drewN m = v2 at q2 fr2 hz2 ⊢
        refine app_ns q2.sl (l' := (b.drop lj).take ln) (by simp; omega) (((hr.nb fr2).subA c lj hc).take ln) (by simp; omega) (by omega) (N := ln) (by simp; omega) fun dA dc w3 a3 => ?_
        have g3 := q2.apd a3
        rw [List.nil_append] at g3
        have c3 := cellf w3 (F1.nb g3.fr)
        simp (disch := omega) only [wu64, wu32, wu8, fdiv_nn, EO, ↓EP, EQ, EM, ↓reduceIte, Int.reduceAdd, Int.reduceEq, Int.reduceLE, Int.reduceLT, Int.reduceMul, Int.reduceNeg, Int.reducePow, Int.reduceSub, Int.reduceToNat, Nat.reduceAdd, Nat.reduceEqDiff, Nat.reduceLT, Nat.reduceLeDiff, Nat.reduceMul, reduceCtorEq, W_join, h6, h5, r0, hle, c3, ee, ee2, hcons]
        intro m
        have fm : Fr w3 (w3.drewN m) nob := Fr.drewN _ _ _
        have q3 := g3.step fm
        have fr3 := F1.nb q3.fr
        have hz3 : (w3.drewN m).heap.size = w3.heap.size := rfl
        generalize w3.drewN m = v3 at q3 fr3 hz3 ⊢
        refine al_k (nums .u8 []) rfl fun w4 n4 => ?_
        have g4 := Two.newR q3 n4
        have c4 := cellf w4 (F1.nb g4.gd.fr)
        simp (disch := omega) only [wu64, wu32, wu8, fdiv_nn, EO, ↓EP, EQ, EM, ↓reduceIte, Int.reduceAdd, Int.reduceEq, Int.reduceLE, Int.reduceLT, Int.reduceMul, Int.reduceNeg, Int.reducePow, Int.reduceSub, Int.reduceToNat, Nat.reduceAdd, Nat.reduceEqDiff, Nat.reduceLT, Nat.reduceLeDiff, Nat.reduceMul, reduceCtorEq, W_join, h6, h5, r0, hle, c4, ee, ee2, hcons]
        intro m
        have fm : Fr w4 (w4.drewN m) nob := Fr.drewN _ _ _
        have q4 := g4.step fm
        have fr4 := F1.nb q4.gd.fr
        have hz4 : (w4.drewN m).heap.size = w4.heap.size := rfl
        generalize w4.drewN m = v4 at q4 fr4 hz4 ⊢
        refine app_ns q4.gr.sl (l' := (b.drop p).take (lj + ln - p)) (by simp; omega) (((hr.nb fr4).subA c p hc).take (lj + ln - p)) (by simp; omega) (by omega) (N := (lj + ln - p)) (by simp; omega) fun rA rc w5 a5 => ?_
        have g5 := q4.appR a5
        rw [List.nil_append] at g5
        have c5 := cellf w5 (F1.nb g5.gd.fr)
        simp (disch := omega) only [wu64, wu32, wu8, fdiv_nn, EO, ↓EP, EQ, EM, ↓reduceIte, Int.reduceAdd, Int.reduceEq, Int.reduceLE, Int.reduceLT, Int.reduceMul, Int.reduceNeg, Int.reducePow, Int.reduceSub, Int.reduceToNat, Nat.reduceAdd, Nat.reduceEqDiff, Nat.reduceLT, Nat.reduceLeDiff, Nat.reduceMul, reduceCtorEq, W_join, h6, h5, r0, hle, c5, ee, ee2, hcons]
        refine ⟨_, fillTlv _ _ _ _ _ _ _ _ _, ?_⟩
        simp (disch := omega) only [wu64, wu32, wu8, fdiv_nn, EO, ↓EP, EQ, EM, ↓reduceIte, Int.reduceAdd, Int.reduceEq, Int.reduceLE, Int.reduceLT, Int.reduceMul, Int.reduceNeg, Int.reducePow, Int.reduceSub, Int.reduceToNat, Nat.reduceAdd, Nat.reduceEqDiff, Nat.reduceLT, Nat.reduceLeDiff, Nat.reduceMul, reduceCtorEq, W_join, h6, h5, r0, hle, c5, hcons]
        intro m
        have fm : Fr w5 (w5.drewN m) nob := Fr.drewN _ _ _
        generalize w5.drewN m = v5 at fm ⊢
        refine bslTlv rfl rfl fun w8 n8 => ?_
        have f8 := fm.nb (n8.fr nob)
        have c8 := cellf w8 ((F1.nb g5.gd.fr).nb f8)
        simp (disch := omega) only [wu64, wu32, wu8, fdiv_nn, EO, ↓EP, EQ, EM, ↓reduceIte, Int.reduceAdd, Int.reduceEq, Int.reduceLE, Int.reduceLT, Int.reduceMul, Int.reduceNeg, Int.reducePow, Int.reduceSub, Int.reduceToNat, Nat.reduceAdd, Nat.reduceEqDiff, Nat.reduceLT, Nat.reduceLeDiff, Nat.reduceMul, reduceCtorEq, W_join, h6, h5, r0, hle, c8, hcons]
        intro m8
        have f9 := f8.nb (Fr.drewN w8 m8 nob)
        have T6 := (T1.nb g5.gd.fr).nb f9
        refine app_g T6.g.sl rfl rfl (tcells_one _ _ _ _ _ _ _) (n8.rdv.nb (Fr.drewN w8 m8 nob)) (by omega) (by omega) (by omega) fun X' w9 a9 => ?_
        have T7 := Tls.add2 (t := ⟨at' b (p : Int) / 64, tt, cons, (b.drop lj).take ln, (b.drop p).take (lj + ln - p)⟩) T1 g5 f9 a9
        have c9 := cellf w9 T7.g.fr
        simp (disch := omega) only [wu64, wu32, wu8, fdiv_nn, EO, ↓EP, EQ, EM, ↓reduceIte, Int.reduceAdd, Int.reduceEq, Int.reduceLE, Int.reduceLT, Int.reduceMul, Int.reduceNeg, Int.reducePow, Int.reduceSub, Int.reduceToNat, Nat.reduceAdd, Nat.reduceEqDiff, Nat.reduceLT, Nat.reduceLeDiff, Nat.reduceMul, reduceCtorEq, W_join, h6, r0, hle, c9, hcons]
        intro m9
        exact hN (b.length - (lj + ln)) _ _ (by omega) ⟨lj + ln, f, X', _, _, by simp (disch := omega) only [wu64, wu32, wu8, fdiv_nn, EO, ↓EP, EQ, EM, ↓reduceIte, Int.reduceAdd, Int.reduceEq, Int.reduceLE, Int.reduceLT, Int.reduceMul, Int.reduceNeg, Int.reducePow, Int.reduceSub, Int.reduceToNat, Nat.reduceAdd, Nat.reduceEqDiff, Nat.reduceLT, Nat.reduceLeDiff, Nat.reduceMul, reduceCtorEq, Int.natCast_add], by simp (disch := omega) only [wu64, wu32, wu8, fdiv_nn, EO, ↓EP, EQ, EM, ↓reduceIte, Int.reduceAdd, Int.reduceEq, Int.reduceLE, Int.reduceLT, Int.reduceMul, Int.reduceNeg, Int.reducePow, Int.reduceSub, Int.reduceToNat, Nat.reduceAdd, Nat.reduceEqDiff, Nat.reduceLT, Nat.reduceLeDiff, Nat.reduceMul, reduceCtorEq], by omega, rfl, by omega, by simp; omega, T7.nb (Fr.drewN w9 m9 nob), rfl⟩
      · have fm : Fr w2 (w2.drewN m) nob := Fr.drewN _ _ _
        have q2 := g2.step fm
        have fr2 := F1.nb q2.fr
        have hz2 : (w2.drewN m).heap.size = w2.heap.size := rfl
        generalize w2.drewN m = v2 at q2 fr2 hz2 ⊢
        refine al_k (nums .u8 []) rfl fun w3 n3 => ?_
        have g3 := Two.newR q2 n3
        have c3 := cellf w3 (F1.nb g3.gd.fr)
        simp (disch := omega) only [wu64, wu32, wu8, fdiv_nn, EO, ↓EP, EQ, EM, ↓reduceIte, Int.reduceAdd, Int.reduceEq, Int.reduceLE, Int.reduceLT, Int.reduceMul, Int.reduceNeg, Int.reducePow, Int.reduceSub, Int.reduceToNat, Nat.reduceAdd, Nat.reduceEqDiff, Nat.reduceLT, Nat.reduceLeDiff, Nat.reduceMul, reduceCtorEq, W_join, h6, h5, r0, hle, c3, ee, ee2, hcons]
        intro m
        have fm : Fr w3 (w3.drewN m) nob := Fr.drewN _ _ _
        have q3 := g3.step fm
        have fr3 := F1.nb q3.gd.fr
        have hz3 : (w3.drewN m).heap.size = w3.heap.size := rfl
        generalize w3.drewN m = v3 at q3 fr3 hz3 ⊢
        refine app_ns q3.gd.sl (l' := (b.drop lj).take ln) (by simp; omega) (((hr.nb fr3).subA c lj hc).take ln) (by simp; omega) (by omega) (N := ln) (by simp; omega) fun dA dc w4 a4 => ?_
        have g4 := q3.appD a4
        rw [List.nil_append] at g4
        have c4 := cellf w4 (F1.nb g4.gd.fr)
        simp (disch := omega) only [wu64, wu32, wu8, fdiv_nn, EO, ↓EP, EQ, EM, ↓reduceIte, Int.reduceAdd, Int.reduceEq, Int.reduceLE, Int.reduceLT, Int.reduceMul, Int.reduceNeg, Int.reducePow, Int.reduceSub, Int.reduceToNat, Nat.reduceAdd, Nat.reduceEqDiff, Nat.reduceLT, Nat.reduceLeDiff, Nat.reduceMul, reduceCtorEq, W_join, h6, h5, r0, hle, c4, ee, ee2, hcons]
        intro m
        have fm : Fr w4 (w4.drewN m) nob := Fr.drewN _ _ _
        have q4 := g4.step fm
        have fr4 := F1.nb q4.gd.fr
        have hz4 : (w4.drewN m).heap.size = w4.heap.size := rfl
        generalize w4.drewN m = v4 at q4 fr4 hz4 ⊢
        refine app_ns q4.gr.sl (l' := (b.drop p).take (lj + ln - p)) (by simp; omega) (((hr.nb fr4).subA c p hc).take (lj + ln - p)) (by simp; omega) (by omega) (N := (lj + ln - p)) (by simp; omega) fun rA rc w5 a5 => ?_
        have g5 := q4.appR a5
        rw [List.nil_append] at g5
        have c5 := cellf w5 (F1.nb g5.gd.fr)
        simp (disch := omega) only [wu64, wu32, wu8, fdiv_nn, EO, ↓EP, EQ, EM, ↓reduceIte, Int.reduceAdd, Int.reduceEq, Int.reduceLE, Int.reduceLT, Int.reduceMul, Int.reduceNeg, Int.reducePow, Int.reduceSub, Int.reduceToNat, Nat.reduceAdd, Nat.reduceEqDiff, Nat.reduceLT, Nat.reduceLeDiff, Nat.reduceMul, reduceCtorEq, W_join, h6, h5, r0, hle, c5, ee, ee2, hcons]
        refine ⟨_, fillTlv _ _ _ _ _ _ _ _ _, ?_⟩
        simp (disch := omega) only [wu64, wu32, wu8, fdiv_nn, EO, ↓EP, EQ, EM, ↓reduceIte, Int.reduceAdd, Int.reduceEq, Int.reduceLE, Int.reduceLT, Int.reduceMul, Int.reduceNeg, Int.reducePow, Int.reduceSub, Int.reduceToNat, Nat.reduceAdd, Nat.reduceEqDiff, Nat.reduceLT, Nat.reduceLeDiff, Nat.reduceMul, reduceCtorEq, W_join, h6, h5, r0, hle, c5, hcons]
        intro m
        have fm : Fr w5 (w5.drewN m) nob := Fr.drewN _ _ _
        generalize w5.drewN m = v5 at fm ⊢
        refine bslTlv rfl rfl fun w8 n8 => ?_
        have f8 := fm.nb (n8.fr nob)
        have c8 := cellf w8 ((F1.nb g5.gd.fr).nb f8)
        simp (disch := omega) only [wu64, wu32, wu8, fdiv_nn, EO, ↓EP, EQ, EM, ↓reduceIte, Int.reduceAdd, Int.reduceEq, Int.reduceLE, Int.reduceLT, Int.reduceMul, Int.reduceNeg, Int.reducePow, Int.reduceSub, Int.reduceToNat, Nat.reduceAdd, Nat.reduceEqDiff, Nat.reduceLT, Nat.reduceLeDiff, Nat.reduceMul, reduceCtorEq, W_join, h6, h5, r0, hle, c8, hcons]
        intro m8
        have f9 := f8.nb (Fr.drewN w8 m8 nob)
        have T6 := (T1.nb g5.gd.fr).nb f9
        refine app_g T6.g.sl rfl rfl (tcells_one _ _ _ _ _ _ _) (n8.rdv.nb (Fr.drewN w8 m8 nob)) (by omega) (by omega) (by omega) fun X' w9 a9 => ?_
        have T7 := Tls.add2 (t := ⟨at' b (p : Int) / 64, tt, cons, (b.drop lj).take ln, (b.drop p).take (lj + ln - p)⟩) T1 g5 f9 a9
        have c9 := cellf w9 T7.g.fr
        simp (disch := omega) only [wu64, wu32, wu8, fdiv_nn, EO, ↓EP, EQ, EM, ↓reduceIte, Int.reduceAdd, Int.reduceEq, Int.reduceLE, Int.reduceLT, Int.reduceMul, Int.reduceNeg, Int.reducePow, Int.reduceSub, Int.reduceToNat, Nat.reduceAdd, Nat.reduceEqDiff, Nat.reduceLT, Nat.reduceLeDiff, Nat.reduceMul, reduceCtorEq, W_join, h6, r0, hle, c9, hcons]
        intro m9
        exact hN (b.length - (lj + ln)) _ _ (by omega) ⟨lj + ln, f, X', _, _, by simp (disch := omega) only [wu64, wu32, wu8, fdiv_nn, EO, ↓EP, EQ, EM, ↓reduceIte, Int.reduceAdd, Int.reduceEq, Int.reduceLE, Int.reduceLT, Int.reduceMul, Int.reduceNeg, Int.reducePow, Int.reduceSub, Int.reduceToNat, Nat.reduceAdd, Nat.reduceEqDiff, Nat.reduceLT, Nat.reduceLeDiff, Nat.reduceMul, reduceCtorEq, Int.natCast_add], by simp (disch := omega) only [wu64, wu32, wu8, fdiv_nn, EO, ↓EP, EQ, EM, ↓reduceIte, Int.reduceAdd, Int.reduceEq, Int.reduceLE, Int.reduceLT, Int.reduceMul, Int.reduceNeg, Int.reducePow, Int.reduceSub, Int.reduceToNat, Nat.reduceAdd, Nat.reduceEqDiff, Nat.reduceLT, Nat.reduceLeDiff, Nat.reduceMul, reduceCtorEq], by omega, rfl, by omega, by simp; omega, T7.nb (Fr.drewN w9 m9 nob), rfl⟩
    · have fW : Fr w1 (w1.drewN (1 + m1)) nob := Fr.drewN _ _ _
      have T1 := T.nb fW
      have F1 := T1.g.fr
      have hz1 : (w1.drewN (1 + m1)).heap.size = w1.heap.size := rfl
      generalize w1.drewN (1 + m1) = v1 at T1 F1 hz1 ⊢
      refine al_k (nums .u8 []) rfl fun w2 n2 => ?_
      have g2 := new_gw n2
      rw [hz1] at g2
      have c2 := cellf w2 (F1.nb g2.fr)
      simp (disch := omega) only [wu64, wu32, wu8, fdiv_nn, EO, ↓EP, EQ, EM, ↓reduceIte, Int.reduceAdd, Int.reduceEq, Int.reduceLE, Int.reduceLT, Int.reduceMul, Int.reduceNeg, Int.reducePow, Int.reduceSub, Int.reduceToNat, Nat.reduceAdd, Nat.reduceEqDiff, Nat.reduceLT, Nat.reduceLeDiff, Nat.reduceMul, reduceCtorEq, W_join, h6, h5, r0, hle, c2, ee, ee2, hcons]
      intro m
      have fm : Fr w2 (w2.drewN m) nob := Fr.drewN _ _ _
      have q2 := g2.step fm
      have fr2 := F1.nb q2.fr
      have hz2 : (w2.drewN m).heap.size = w2.heap.size := rfl
      generalize w2.drewN m = v2 at q2 fr2 hz2 ⊢
      refine al_k (nums .u8 []) rfl fun w3 n3 => ?_
      have g3 := Two.newD q2 n3
      have c3 := cellf w3 (F1.nb g3.gd.fr)
      simp (disch := omega) only [wu64, wu32, wu8, fdiv_nn, EO, ↓EP, EQ, EM, ↓reduceIte, Int.reduceAdd, Int.reduceEq, Int.reduceLE, Int.reduceLT, Int.reduceMul, Int.reduceNeg, Int.reducePow, Int.reduceSub, Int.reduceToNat, Nat.reduceAdd, Nat.reduceEqDiff, Nat.reduceLT, Nat.reduceLeDiff, Nat.reduceMul, reduceCtorEq, W_join, h6, h5, r0, hle, c3, ee, ee2, hcons]
      intro m
      have fm : Fr w3 (w3.drewN m) nob := Fr.drewN _ _ _
      have q3 := g3.step fm
      have fr3 := F1.nb q3.gd.fr
      have hz3 : (w3.drewN m).heap.size = w3.heap.size := rfl
      generalize w3.drewN m = v3 at q3 fr3 hz3 ⊢
      refine app_ns q3.gd.sl (l' := (b.drop lj).take ln) (by simp; omega) (((hr.nb fr3).subA c lj hc).take ln) (by simp; omega) (by omega) (N := ln) (by simp; omega) fun dA dc w4 a4 => ?_
      have g4 := q3.appD a4
      rw [List.nil_append] at g4
      have c4 := cellf w4 (F1.nb g4.gd.fr)
      simp (disch := omega) only [wu64, wu32, wu8, fdiv_nn, EO, ↓EP, EQ, EM, ↓reduceIte, Int.reduceAdd, Int.reduceEq, Int.reduceLE, Int.reduceLT, Int.reduceMul, Int.reduceNeg, Int.reducePow, Int.reduceSub, Int.reduceToNat, Nat.reduceAdd, Nat.reduceEqDiff, Nat.reduceLT, Nat.reduceLeDiff, Nat.reduceMul, reduceCtorEq, W_join, h6, h5, r0, hle, c4, ee, ee2, hcons]
      intro m
      have fm : Fr w4 (w4.drewN m) nob := Fr.drewN _ _ _
      have q4 := g4.step fm
      have fr4 := F1.nb q4.gd.fr
      have hz4 : (w4.drewN m).heap.size = w4.heap.size := rfl
      generalize w4.drewN m = v4 at q4 fr4 hz4 ⊢
      refine app_ns q4.gr.sl (l' := (b.drop p).take (lj + ln - p)) (by simp; omega) (((hr.nb fr4).subA c p hc).take (lj + ln - p)) (by simp; omega) (by omega) (N := (lj + ln - p)) (by simp; omega) fun rA rc w5 a5 => ?_
      have g5 := q4.appR a5
      rw [List.nil_append] at g5
      have c5 := cellf w5 (F1.nb g5.gd.fr)
      simp (disch := omega) only [wu64, wu32, wu8, fdiv_nn, EO, ↓EP, EQ, EM, ↓reduceIte, Int.reduceAdd, Int.reduceEq, Int.reduceLE, Int.reduceLT, Int.reduceMul, Int.reduceNeg, Int.reducePow, Int.reduceSub, Int.reduceToNat, Nat.reduceAdd, Nat.reduceEqDiff, Nat.reduceLT, Nat.reduceLeDiff, Nat.reduceMul, reduceCtorEq, W_join, h6, h5, r0, hle, c5, ee, ee2, hcons]
      refine ⟨_, fillTlv _ _ _ _ _ _ _ _ _, ?_⟩
      simp (disch := omega) only [wu64, wu32, wu8, fdiv_nn, EO, ↓EP, EQ, EM, ↓reduceIte, Int.reduceAdd, Int.reduceEq, Int.reduceLE, Int.reduceLT, Int.reduceMul, Int.reduceNeg, Int.reducePow, Int.reduceSub, Int.reduceToNat, Nat.reduceAdd, Nat.reduceEqDiff, Nat.reduceLT, Nat.reduceLeDiff, Nat.reduceMul, reduceCtorEq, W_join, h6, h5, r0, hle, c5, hcons]
      intro m
      have fm : Fr w5 (w5.drewN m) nob := Fr.drewN _ _ _
      generalize w5.drewN m = v5 at fm ⊢
      refine bslTlv rfl rfl fun w8 n8 => ?_
      have f8 := fm.nb (n8.fr nob)
      have c8 := cellf w8 ((F1.nb g5.gd.fr).nb f8)
      simp (disch := omega) only [wu64, wu32, wu8, fdiv_nn, EO, ↓EP, EQ, EM, ↓reduceIte, Int.reduceAdd, Int.reduceEq, Int.reduceLE, Int.reduceLT, Int.reduceMul, Int.reduceNeg, Int.reducePow, Int.reduceSub, Int.reduceToNat, Nat.reduceAdd, Nat.reduceEqDiff, Nat.reduceLT, Nat.reduceLeDiff, Nat.reduceMul, reduceCtorEq, W_join, h6, h5, r0, hle, c8, hcons]
      intro m8
      have f9 := f8.nb (Fr.drewN w8 m8 nob)
      have T6 := (T1.nb g5.gd.fr).nb f9
      refine app_g T6.g.sl rfl rfl (tcells_one _ _ _ _ _ _ _) (n8.rdv.nb (Fr.drewN w8 m8 nob)) (by omega) (by omega) (by omega) fun X' w9 a9 => ?_
      have T7 := Tls.add2 (t := ⟨at' b (p : Int) / 64, tt, cons, (b.drop lj).take ln, (b.drop p).take (lj + ln - p)⟩) T1 g5 f9 a9
      have c9 := cellf w9 T7.g.fr
      simp (disch := omega) only [wu64, wu32, wu8, fdiv_nn, EO, ↓EP, EQ, EM, ↓reduceIte, Int.reduceAdd, Int.reduceEq, Int.reduceLE, Int.reduceLT, Int.reduceMul, Int.reduceNeg, Int.reducePow, Int.reduceSub, Int.reduceToNat, Nat.reduceAdd, Nat.reduceEqDiff, Nat.reduceLT, Nat.reduceLeDiff, Nat.reduceMul, reduceCtorEq, W_join, h6, r0, hle, c9, hcons]
      intro m9
      exact hN (b.length - (lj + ln)) _ _ (by omega) ⟨lj + ln, f, X', _, _, by simp (disch := omega) only [wu64, wu32, wu8, fdiv_nn, EO, ↓EP, EQ, EM, ↓reduceIte, Int.reduceAdd, Int.reduceEq, Int.reduceLE, Int.reduceLT, Int.reduceMul, Int.reduceNeg, Int.reducePow, Int.reduceSub, Int.reduceToNat, Nat.reduceAdd, Nat.reduceEqDiff, Nat.reduceLT, Nat.reduceLeDiff, Nat.reduceMul, reduceCtorEq, Int.natCast_add], by simp (disch := omega) only [wu64, wu32, wu8, fdiv_nn, EO, ↓EP, EQ, EM, ↓reduceIte, Int.reduceAdd, Int.reduceEq, Int.reduceLE, Int.reduceLT, Int.reduceMul, Int.reduceNeg, Int.reducePow, Int.reduceSub, Int.reduceToNat, Nat.reduceAdd, Nat.reduceEqDiff, Nat.reduceLT, Nat.reduceLeDiff, Nat.reduceMul, reduceCtorEq], by omega, rfl, by omega, by simp; omega, T7.nb (Fr.drewN w9 m9 nob), rfl⟩
  · have hpl' : p = b.length := by omega
    subst hpl'
    rw [splitGo, if_pos (Nat.le_refl _)] at hK
    simp (disch := omega) only [wu64, wu32, wu8, fdiv_nn, EO, ↓EP, EQ, EM, ↓reduceIte, Int.reduceAdd, Int.reduceEq, Int.reduceLE, Int.reduceLT, Int.reduceMul, Int.reduceNeg, Int.reducePow, Int.reduceSub, Int.reduceToNat, Nat.reduceAdd, Nat.reduceEqDiff, Nat.reduceLT, Nat.reduceLeDiff, Nat.reduceMul, reduceCtorEq, h6, h5, r0]
    exact hK _ vs _ T
end Go.Proofs.YtcflokckfjkdpaaDoor.Der

/- Rows of elements that are compared; the only one. -/
set_option linter.unusedVariables false
set_option linter.unusedSimpArgs false
namespace Go.Proofs.YtcflokckfjkdpaaDoor.Der
open Go Go.RowKit Go.Proofs Go.Proofs.YtcflokckfjkdpaaDoor.Eng Go.Proofs.YtcflokckfjkdpaaDoor.Code
set_option maxRecDepth 100000
attribute [local irreducible] callK S.W opsW scrW scrT

theorem addr_add' (p : Addr) (i j : Nat) : (p.add i).add j = p.add (i + j) := by
  by_cases hi : i = 0
  · subst hi; simp [Addr.add]
  · by_cases hj : j = 0
    · subst hj; simp [Addr.add]
    · simp [Addr.add, hi, hj, Nat.add_assoc]
/-- A row of elements that is read. -/
structure TR (w : World) (X : Value) (ts : List Tlv) : Prop where
  ex : ∃ A c vs, X = .slice A ts.length c ∧ ts.length ≤ c ∧ Rd w A (cellsT ts vs) ∧ vs.length = 2 * ts.length ∧ ∀ (i : Nat) v l, vs[i]? = some v → (tflat ts)[i]? = some l → Vw .u8 w v l
theorem Tls.tr {w0 w : World} {X : Value} {ts : List Tlv} {vs : List Value} (h : Tls w0 w X ts vs) : TR w X ts := by
  obtain ⟨A, c, rfl, hc, hr⟩ := h.g.sl.read
  exact ⟨A, c, vs, rfl, hc, hr, h.vlen, fun i v l h1 h2 => (h.r.each i v l h1 h2).vw⟩
theorem Vw.nb' {k : IntKind} {w w' : World} {v : Value} {l : List Int} (h : Vw k w v l) (f : Fr w w' nob) : Vw k w' v l := by
  obtain ⟨A, c, e, hc, hr⟩ := h
  exact ⟨A, c, e, hc, hr.nb f⟩
theorem TR.nb {w w' : World} {X : Value} {ts : List Tlv} (h : TR w X ts) (f : Fr w w' nob) : TR w' X ts := by
  obtain ⟨A, c, vs, e, hc, hr, hv, he⟩ := h.ex
  exact ⟨A, c, vs, e, hc, hr.nb f, hv, fun i v l h1 h2 => Vw.nb' (he i v l h1 h2) f⟩
theorem tflat_cons (t : Tlv) (ts : List Tlv) : tflat (t :: ts) = t.data :: t.raw :: tflat ts := rfl
theorem cellsT_at : ∀ (ts : List Tlv) (vs : List Value) (i : Nat), vs.length = 2 * ts.length → (h : i < ts.length) → ∃ d r, vs[2 * i]? = some d ∧ vs[2 * i + 1]? = some r ∧ (cellsT ts vs).drop (i * 5) = tcells ts[i] d r ++ cellsT (ts.drop (i + 1)) (vs.drop (2 * (i + 1))) ∧ (tflat ts)[2 * i]? = some ts[i].data ∧ (tflat ts)[2 * i + 1]? = some ts[i].raw
  | [], vs, i, hv, h => by simp at h
  | t :: ts, [], i, hv, h => by simp at hv
  | t :: ts, [d], i, hv, h => by simp at hv; omega
  | t :: ts, d :: r :: vs, 0, hv, h => ⟨d, r, rfl, rfl, rfl, rfl, rfl⟩
  | t :: ts, d :: r :: vs, i + 1, hv, h => by
    obtain ⟨d', r', h1, h2, h3, h4, h5⟩ := cellsT_at ts vs i (by simp at hv; omega) (by simpa using h)
    refine ⟨d', r', by simpa [Nat.mul_add] using h1, by simpa [Nat.mul_add] using h2, ?_, by simpa [tflat_cons, Nat.mul_add] using h4, by simpa [tflat_cons, Nat.mul_add] using h5⟩
    rw [cellsT, show (i + 1) * 5 = (tcells t d r).length + i * 5 by simp [tcells]; omega, ← List.drop_drop, List.drop_left, h3]
    rfl
/-- An element's cells, at its place. -/
theorem TR.at {w : World} {A : Option Addr} {n c : Nat} {ts : List Tlv} (h : TR w (.slice A n c) ts) {i : Nat} (hi : i < ts.length) : ∃ ad dA dc rA rc, A = some ad ∧ n = ts.length ∧ ts[i].data.length ≤ dc ∧ ts[i].raw.length ≤ rc ∧ Rd w dA (nums .u8 ts[i].data) ∧ Rd w rA (nums .u8 ts[i].raw) ∧
    cellsAt w (ad.add (i * 5)) (tcells ts[i] (.slice dA ts[i].data.length dc) (.slice rA ts[i].raw.length rc)) := by
  obtain ⟨A', c', vs, e, hc, hr, hv, he⟩ := h.ex
  cases e
  obtain ⟨d, r, h1, h2, h3, h4, h5⟩ := cellsT_at ts vs i hv hi
  obtain ⟨dA, dc, rfl, hdc, hdr⟩ := he _ _ _ h1 h4
  obtain ⟨rA, rc, rfl, hrc, hrr⟩ := he _ _ _ h2 h5
  have hl := cellsT_len ts vs hv
  obtain ⟨ad, ea, _, hcl⟩ := hr.get (by omega)
  refine ⟨ad, dA, dc, rA, rc, ea, rfl, hdc, hrc, hdr, hrr, fun j v hj => ?_⟩
  have hj5 : j < 5 := by
    have := (List.getElem?_eq_some_iff.1 hj).1
    simpa [tcells] using this
  rw [addr_add']
  refine hcl _ _ ?_
  have := congrArg (fun q => q[j]?) h3
  simp only [List.getElem?_drop] at this
  rw [this, List.getElem?_append_left (by simpa [tcells] using hj5)]
  exact hj
/-- The rest of a row. -/
theorem rest_of {w : World} {A : Option Addr} {c : Nat} {ts : List Tlv} {vs : List Value} (hc : ts.length ≤ c) (hr : Rd w A (cellsT ts vs)) (hv : vs.length = 2 * ts.length) (lo : Nat) (hlo : lo ≤ ts.length)
    (he : ∀ (i : Nat) v l, 2 * lo ≤ i → vs[i]? = some v → (tflat ts)[i]? = some l → Vw .u8 w v l) : TR w (.slice (subA A c lo 5) (ts.length - lo) (c - lo)) (ts.drop lo) := by
  have hl := cellsT_len ts vs hv
  have hvd : (vs.drop (2 * lo)).length = 2 * (ts.drop lo).length := by simp; omega
  have hcd : (cellsT ts vs).drop (lo * 5) = cellsT (ts.drop lo) (vs.drop (2 * lo)) := by
    by_cases hlt : lo < ts.length
    · cases lo with
      | zero => rfl
      | succ q =>
        obtain ⟨d, r, _, _, h3, _, _⟩ := cellsT_at ts vs q hv (by omega)
        rw [show (q + 1) * 5 = q * 5 + (tcells ts[q] d r).length by simp [tcells]; omega, ← List.drop_drop, h3, List.drop_left]
    · have e1 : ts.drop lo = [] := List.drop_eq_nil_of_le (by omega)
      have e2 : vs.drop (2 * lo) = [] := List.drop_eq_nil_of_le (by omega)
      rw [e1, e2, List.drop_eq_nil_of_le (by omega)]; rfl
  have htf : ∀ (ts : List Tlv) (lo : Nat), lo ≤ ts.length → tflat (ts.drop lo) = (tflat ts).drop (2 * lo) := by
    intro ts lo
    induction lo generalizing ts with
    | zero => intro _; rfl
    | succ q ih =>
      intro hq
      cases ts with
      | nil => simp [tflat]
      | cons t ts =>
        rw [List.drop_succ_cons, tflat_cons, show 2 * (q + 1) = 2 * q + 1 + 1 by omega, List.drop_succ_cons, List.drop_succ_cons]
        exact ih ts (by simpa using hq)
  refine ⟨subA A c lo 5, c - lo, vs.drop (2 * lo), by rw [List.length_drop], by rw [List.length_drop]; omega, ?_, hvd, fun i v l h1 h2 => ?_⟩
  · rw [← hcd]
    by_cases hlt : lo < ts.length
    · obtain ⟨ad, ea, hs, hcl⟩ := hr.get (by omega)
      subst ea
      right
      refine ⟨ad.add (lo * 5), ?_, by rw [add_block]; exact hs, fun j v hj => ?_⟩
      · unfold subA; rw [if_neg (by omega)]; rfl
      · rw [addr_add']
        rw [List.getElem?_drop] at hj
        exact hcl _ _ hj
    · left
      exact List.drop_eq_nil_of_le (by omega)
  · rw [htf ts lo hlo, List.getElem?_drop] at h2
    rw [List.getElem?_drop] at h1
    exact he _ _ _ (by omega) h1 h2
theorem TR.rest {w : World} {A : Option Addr} {n c : Nat} {ts : List Tlv} (h : TR w (.slice A n c) ts) (lo : Nat) (hlo : lo ≤ ts.length) : TR w (.slice (subA A c lo 5) (ts.length - lo) (c - lo)) (ts.drop lo) := by
  obtain ⟨A', c', vs, e, hc, hr, hv, he⟩ := h.ex
  cases e
  exact rest_of hc hr hv lo hlo fun i v l _ => he i v l
theorem cellsAt.nb {w w' : World} {p : Addr} {cs : List Value} (h : cellsAt w p cs) (f : Fr w w' nob) : cellsAt w' p cs := fun j v hj => by
  have h1 := h j v hj
  have hlt : (p.add j).block < w.heap.size := by
    unfold World.cell? at h1
    cases hh : w.heap[(p.add j).block]? with
    | none => rw [hh] at h1; simp at h1
    | some o => exact (Array.getElem?_eq_some_iff.1 hh).1
  rw [← h1]
  exact cell_heap (f.block _ hlt (fun e => e))
theorem frNew {w1 w w' : World} {b : Nat} (f : Fr w w' (fun x => x = b)) (h : w1.heap.size ≤ b) (k : Fr w1 w nob) : Fr w1 w' nob := k.trans f fun x hx e => by
  have : x = b := e
  omega
set_option maxHeartbeats 4000000 in
theorem rsame_yes {w : World} {X Y : Value} {ts : List Tlv} (hx : TR w X ts) (hy : TR w Y ts) (hb : ∀ t ∈ ts, t.data.length ≤ 4611686018427387904 ∧ t.raw.length ≤ 4611686018427387904) (h63 : ts.length ≤ 4611686018427387904) (K : Value → World → Prop)
    (hK : ∀ w', Fr w w' nob → K (.bool true) w') : callK Tryd.prog 27 [X, Y] w K := by
  have hx0 := hx.ex
  obtain ⟨A, c, vs, rfl, hc, _⟩ := hx0
  have hy0 := hy.ex
  obtain ⟨B, d, us, rfl, hd, _⟩ := hy0
  refine call_of Tryd.func27 Code.h27 (by simp [Code.c27]) ?_
  simp (disch := omega) only [wu64, wu32, wu8, fdiv_nn, EO, ↓EP, EQ, EM, ↓reduceIte, Int.reduceAdd, Int.reduceEq, Int.reduceLE, Int.reduceLT, Int.reduceMul, Int.reduceNeg, Int.reducePow, Int.reduceSub, Int.reduceToNat, Nat.reduceAdd, Nat.reduceEqDiff, Nat.reduceLT, Nat.reduceLeDiff, Nat.reduceMul, reduceCtorEq, Code.c27]
  refine loop_inv (fun t ρ w' => Fr w w' nob ∧ ∃ i : Nat, ρ 5 = .int .i64 i ∧ i ≤ ts.length ∧ t = ts.length - i) ts.length ⟨Fr.refl _ _, 0, by simp (disch := omega) only [wu64, wu32, wu8, fdiv_nn, EO, ↓EP, EQ, EM, ↓reduceIte, Int.reduceAdd, Int.reduceEq, Int.reduceLE, Int.reduceLT, Int.reduceMul, Int.reduceNeg, Int.reducePow, Int.reduceSub, Int.reduceToNat, Nat.reduceAdd, Nat.reduceEqDiff, Nat.reduceLT, Nat.reduceLeDiff, Nat.reduceMul, reduceCtorEq], by omega, by omega⟩ ?_
  rintro t ρ w1 hf ⟨fr, i, h5, hi, rfl⟩ N hN
  have r0 : ρ 0 = .slice A ts.length c := by rw [hf 0 rfl]; simp (disch := omega) only [wu64, wu32, wu8, fdiv_nn, EO, ↓EP, EQ, EM, ↓reduceIte, Int.reduceAdd, Int.reduceEq, Int.reduceLE, Int.reduceLT, Int.reduceMul, Int.reduceNeg, Int.reducePow, Int.reduceSub, Int.reduceToNat, Nat.reduceAdd, Nat.reduceEqDiff, Nat.reduceLT, Nat.reduceLeDiff, Nat.reduceMul, reduceCtorEq]
  have r1 : ρ 1 = .slice B ts.length d := by rw [hf 1 rfl]; simp (disch := omega) only [wu64, wu32, wu8, fdiv_nn, EO, ↓EP, EQ, EM, ↓reduceIte, Int.reduceAdd, Int.reduceEq, Int.reduceLE, Int.reduceLT, Int.reduceMul, Int.reduceNeg, Int.reducePow, Int.reduceSub, Int.reduceToNat, Nat.reduceAdd, Nat.reduceEqDiff, Nat.reduceLT, Nat.reduceLeDiff, Nat.reduceMul, reduceCtorEq]
  clear hf
  by_cases hil : (i : Int) < (ts.length : Int)
  · obtain ⟨ad, dA, dc, rA, rc, rfl, _, hdc, hrc, hdA, hrA, hcx⟩ := (hx.nb fr).at (i := i) (by omega)
    obtain ⟨bd, eA, ec, sA, sc, rfl, _, hec, hsc, heA, hsA, hcy⟩ := (hy.nb fr).at (i := i) (by omega)
    have hbi := hb ts[i] (List.getElem_mem (by omega))
    generalize ts[i] = x at *
    have alls : ∀ w', Fr w1 w' nob → allC [(TyK.agg 5, bd.add (i * 5), Value.agg (tcells x (Value.slice eA x.data.length ec) (Value.slice sA x.raw.length sc)).toArray), (TyK.agg 5, ad.add (i * 5), Value.agg (tcells x (Value.slice dA x.data.length dc) (Value.slice rA x.raw.length rc)).toArray)] w' := fun w' f =>
      ⟨⟨_, rfl, cellsAt.nb hcy f, rfl⟩, ⟨_, rfl, cellsAt.nb hcx f, rfl⟩, trivial⟩
    simp (disch := omega) only [wu64, wu32, wu8, fdiv_nn, EO, ↓EP, EQ, EM, ↓reduceIte, Int.reduceAdd, Int.reduceEq, Int.reduceLE, Int.reduceLT, Int.reduceMul, Int.reduceNeg, Int.reducePow, Int.reduceSub, Int.reduceToNat, Nat.reduceAdd, Nat.reduceEqDiff, Nat.reduceLT, Nat.reduceLeDiff, Nat.reduceMul, reduceCtorEq, W_joinT, h5, r0, r1]
    refine join_cut (fun ρ' w' => ∃ b6 b7 : Nat, ρ' 6 = .pointer (some ⟨b6, 0, none⟩) ∧ ρ' 7 = .pointer (some ⟨b7, 0, none⟩) ∧ Fr w1 w' nob ∧ Blk w' b6 (tcells x (Value.slice dA x.data.length dc) (Value.slice rA x.raw.length rc)) ∧ Blk w' b7 (tcells x (Value.slice eA x.data.length ec) (Value.slice sA x.raw.length sc))) ?_ ?_
    · intro N2 hN2
      simp (disch := omega) only [wu64, wu32, wu8, fdiv_nn, EO, ↓EP, EQ, EM, ↓reduceIte, Int.reduceAdd, Int.reduceEq, Int.reduceLE, Int.reduceLT, Int.reduceMul, Int.reduceNeg, Int.reducePow, Int.reduceSub, Int.reduceToNat, Nat.reduceAdd, Nat.reduceEqDiff, Nat.reduceLT, Nat.reduceLeDiff, Nat.reduceMul, reduceCtorEq, h5, r0, r1]
      refine ⟨tcells x _ _, rfl, hcx, ?_⟩
      simp (disch := omega) only [wu64, wu32, wu8, fdiv_nn, EO, ↓EP, EQ, EM, ↓reduceIte, Int.reduceAdd, Int.reduceEq, Int.reduceLE, Int.reduceLT, Int.reduceMul, Int.reduceNeg, Int.reducePow, Int.reduceSub, Int.reduceToNat, Nat.reduceAdd, Nat.reduceEqDiff, Nat.reduceLT, Nat.reduceLeDiff, Nat.reduceMul, reduceCtorEq, h5, r0, r1]
      refine ⟨tcells x _ _, rfl, hcy, ?_⟩
      simp (disch := omega) only [wu64, wu32, wu8, fdiv_nn, EO, ↓EP, EQ, EM, ↓reduceIte, Int.reduceAdd, Int.reduceEq, Int.reduceLE, Int.reduceLT, Int.reduceMul, Int.reduceNeg, Int.reducePow, Int.reduceSub, Int.reduceToNat, Nat.reduceAdd, Nat.reduceEqDiff, Nat.reduceLT, Nat.reduceLeDiff, Nat.reduceMul, reduceCtorEq, h5, r0, r1]
      refine ⟨fun m1 => ?_, fun m1 => ?_⟩
      · refine al_k _ rfl fun w2 n2 => ?_
        refine ⟨alls w2 ((Fr.drewN w1 _ nob).nb (n2.fr nob)), ?_⟩
        simp (disch := omega) only [wu64, wu32, wu8, fdiv_nn, EO, ↓EP, EQ, EM, ↓reduceIte, Int.reduceAdd, Int.reduceEq, Int.reduceLE, Int.reduceLT, Int.reduceMul, Int.reduceNeg, Int.reducePow, Int.reduceSub, Int.reduceToNat, Nat.reduceAdd, Nat.reduceEqDiff, Nat.reduceLT, Nat.reduceLeDiff, Nat.reduceMul, reduceCtorEq, h5, r0, r1]
        intro m2
        refine al_k _ rfl fun w3 n3 => ?_
        have f3 := ((Fr.drewN w1 _ nob).nb (n2.fr nob)).nb ((Fr.drewN w2 m2 nob).nb (n3.fr nob))
        refine ⟨alls w3 f3, ?_⟩
        have B2 := n2.blk.fr ((Fr.drewN w2 m2 nob).nb (n3.fr nob)) (fun e => e)
        have B3 := n3.blk
        have z12 := (n2.fr nob).size
        have zs : w2.heap.size < w3.heap.size := B3.lt
        have z2 := n2.blk.lt
        have z1 : w1.heap.size < w2.heap.size := z2
        simp (disch := omega) only [wu64, wu32, wu8, fdiv_nn, EO, ↓EP, EQ, EM, ↓reduceIte, Int.reduceAdd, Int.reduceEq, Int.reduceLE, Int.reduceLT, Int.reduceMul, Int.reduceNeg, Int.reducePow, Int.reduceSub, Int.reduceToNat, Nat.reduceAdd, Nat.reduceEqDiff, Nat.reduceLT, Nat.reduceLeDiff, Nat.reduceMul, reduceCtorEq, h5, r0, r1]
        intro m3
        refine st_whole (B2.fr (Fr.drewN w3 m3 nob) (fun e => e)) rfl rfl (tcells_one _ _ _ _ _ _ _) fun w4 p4 => ?_
        have f4 := frNew (p4.fr) (show w1.heap.size ≤ w1.heap.size by omega) (f3.nb (Fr.drewN w3 m3 nob))
        refine ⟨alls w4 f4, ?_⟩
        have C7 := (B3.fr (Fr.drewN w3 m3 nob) (fun e => e)).fr p4.fr (fun e => by have e2 : w2.heap.size = w1.heap.size := e; omega)
        simp (disch := omega) only [wu64, wu32, wu8, fdiv_nn, EO, ↓EP, EQ, EM, ↓reduceIte, Int.reduceAdd, Int.reduceEq, Int.reduceLE, Int.reduceLT, Int.reduceMul, Int.reduceNeg, Int.reducePow, Int.reduceSub, Int.reduceToNat, Nat.reduceAdd, Nat.reduceEqDiff, Nat.reduceLT, Nat.reduceLeDiff, Nat.reduceMul, reduceCtorEq, h5, r0, r1]
        intro m4
        refine st_whole (C7.fr (Fr.drewN w4 m4 nob) (fun e => e)) rfl rfl (tcells_one _ _ _ _ _ _ _) fun w5 p5 => ?_
        have f5 := frNew (p5.fr) (show w1.heap.size ≤ w2.heap.size by omega) (f4.nb (Fr.drewN w4 m4 nob))
        have C6 := (p4.blk.fr (Fr.drewN w4 m4 nob) (fun e => e)).fr p5.fr (fun e => by have e2 : w1.heap.size = w2.heap.size := e; omega)
        refine ⟨alls w5 f5, ?_⟩
        simp (disch := omega) only [wu64, wu32, wu8, fdiv_nn, EO, ↓EP, EQ, EM, ↓reduceIte, Int.reduceAdd, Int.reduceEq, Int.reduceLE, Int.reduceLT, Int.reduceMul, Int.reduceNeg, Int.reducePow, Int.reduceSub, Int.reduceToNat, Nat.reduceAdd, Nat.reduceEqDiff, Nat.reduceLT, Nat.reduceLeDiff, Nat.reduceMul, reduceCtorEq, h5, r0, r1]
        intro m5
        have fd := Fr.drewN w5 m5 nob
        exact hN2 _ _ ⟨w1.heap.size, w2.heap.size, by simp (disch := omega) only [wu64, wu32, wu8, fdiv_nn, EO, ↓EP, EQ, EM, ↓reduceIte, Int.reduceAdd, Int.reduceEq, Int.reduceLE, Int.reduceLT, Int.reduceMul, Int.reduceNeg, Int.reducePow, Int.reduceSub, Int.reduceToNat, Nat.reduceAdd, Nat.reduceEqDiff, Nat.reduceLT, Nat.reduceLeDiff, Nat.reduceMul, reduceCtorEq], by simp (disch := omega) only [wu64, wu32, wu8, fdiv_nn, EO, ↓EP, EQ, EM, ↓reduceIte, Int.reduceAdd, Int.reduceEq, Int.reduceLE, Int.reduceLT, Int.reduceMul, Int.reduceNeg, Int.reducePow, Int.reduceSub, Int.reduceToNat, Nat.reduceAdd, Nat.reduceEqDiff, Nat.reduceLT, Nat.reduceLeDiff, Nat.reduceMul, reduceCtorEq], f5.nb fd, C6.fr fd (fun e => e), p5.blk.fr fd (fun e => e)⟩
      · refine al_k _ rfl fun w2 n2 => ?_
        refine ⟨alls w2 ((Fr.drewN w1 _ nob).nb (n2.fr nob)), ?_⟩
        simp (disch := omega) only [wu64, wu32, wu8, fdiv_nn, EO, ↓EP, EQ, EM, ↓reduceIte, Int.reduceAdd, Int.reduceEq, Int.reduceLE, Int.reduceLT, Int.reduceMul, Int.reduceNeg, Int.reducePow, Int.reduceSub, Int.reduceToNat, Nat.reduceAdd, Nat.reduceEqDiff, Nat.reduceLT, Nat.reduceLeDiff, Nat.reduceMul, reduceCtorEq, h5, r0, r1]
        intro m2
        refine al_k _ rfl fun w3 n3 => ?_
        have f3 := ((Fr.drewN w1 _ nob).nb (n2.fr nob)).nb ((Fr.drewN w2 m2 nob).nb (n3.fr nob))
        refine ⟨alls w3 f3, ?_⟩
        have B2 := n2.blk.fr ((Fr.drewN w2 m2 nob).nb (n3.fr nob)) (fun e => e)
        have B3 := n3.blk
        have z12 := (n2.fr nob).size
        have zs : w2.heap.size < w3.heap.size := B3.lt
        have z2 := n2.blk.lt
        have z1 : w1.heap.size < w2.heap.size := z2
        simp (disch := omega) only [wu64, wu32, wu8, fdiv_nn, EO, ↓EP, EQ, EM, ↓reduceIte, Int.reduceAdd, Int.reduceEq, Int.reduceLE, Int.reduceLT, Int.reduceMul, Int.reduceNeg, Int.reducePow, Int.reduceSub, Int.reduceToNat, Nat.reduceAdd, Nat.reduceEqDiff, Nat.reduceLT, Nat.reduceLeDiff, Nat.reduceMul, reduceCtorEq, h5, r0, r1]
        intro m3
        refine st_whole (B3.fr (Fr.drewN w3 m3 nob) (fun e => e)) rfl rfl (tcells_one _ _ _ _ _ _ _) fun w4 p4 => ?_
        have f4 := frNew (p4.fr) (show w1.heap.size ≤ w2.heap.size by omega) (f3.nb (Fr.drewN w3 m3 nob))
        refine ⟨alls w4 f4, ?_⟩
        have C7 := (B2.fr (Fr.drewN w3 m3 nob) (fun e => e)).fr p4.fr (fun e => by have e2 : w1.heap.size = w2.heap.size := e; omega)
        simp (disch := omega) only [wu64, wu32, wu8, fdiv_nn, EO, ↓EP, EQ, EM, ↓reduceIte, Int.reduceAdd, Int.reduceEq, Int.reduceLE, Int.reduceLT, Int.reduceMul, Int.reduceNeg, Int.reducePow, Int.reduceSub, Int.reduceToNat, Nat.reduceAdd, Nat.reduceEqDiff, Nat.reduceLT, Nat.reduceLeDiff, Nat.reduceMul, reduceCtorEq, h5, r0, r1]
        intro m4
        refine st_whole (C7.fr (Fr.drewN w4 m4 nob) (fun e => e)) rfl rfl (tcells_one _ _ _ _ _ _ _) fun w5 p5 => ?_
        have f5 := frNew (p5.fr) (show w1.heap.size ≤ w1.heap.size by omega) (f4.nb (Fr.drewN w4 m4 nob))
        have C6 := (p4.blk.fr (Fr.drewN w4 m4 nob) (fun e => e)).fr p5.fr (fun e => by have e2 : w2.heap.size = w1.heap.size := e; omega)
        refine ⟨alls w5 f5, ?_⟩
        simp (disch := omega) only [wu64, wu32, wu8, fdiv_nn, EO, ↓EP, EQ, EM, ↓reduceIte, Int.reduceAdd, Int.reduceEq, Int.reduceLE, Int.reduceLT, Int.reduceMul, Int.reduceNeg, Int.reducePow, Int.reduceSub, Int.reduceToNat, Nat.reduceAdd, Nat.reduceEqDiff, Nat.reduceLT, Nat.reduceLeDiff, Nat.reduceMul, reduceCtorEq, h5, r0, r1]
        intro m5
        have fd := Fr.drewN w5 m5 nob
        exact hN2 _ _ ⟨w2.heap.size, w1.heap.size, by simp (disch := omega) only [wu64, wu32, wu8, fdiv_nn, EO, ↓EP, EQ, EM, ↓reduceIte, Int.reduceAdd, Int.reduceEq, Int.reduceLE, Int.reduceLT, Int.reduceMul, Int.reduceNeg, Int.reducePow, Int.reduceSub, Int.reduceToNat, Nat.reduceAdd, Nat.reduceEqDiff, Nat.reduceLT, Nat.reduceLeDiff, Nat.reduceMul, reduceCtorEq], by simp (disch := omega) only [wu64, wu32, wu8, fdiv_nn, EO, ↓EP, EQ, EM, ↓reduceIte, Int.reduceAdd, Int.reduceEq, Int.reduceLE, Int.reduceLT, Int.reduceMul, Int.reduceNeg, Int.reducePow, Int.reduceSub, Int.reduceToNat, Nat.reduceAdd, Nat.reduceEqDiff, Nat.reduceLT, Nat.reduceLeDiff, Nat.reduceMul, reduceCtorEq], f5.nb fd, C6.fr fd (fun e => e), p5.blk.fr fd (fun e => e)⟩
    rintro ρ2 w2 hf2 ⟨b6, b7, k6, k7, f2, B6, B7⟩
    have k5 : ρ2 5 = .int .i64 i := by rw [hf2 5 rfl]; simp (disch := omega) only [wu64, wu32, wu8, fdiv_nn, EO, ↓EP, EQ, EM, ↓reduceIte, Int.reduceAdd, Int.reduceEq, Int.reduceLE, Int.reduceLT, Int.reduceMul, Int.reduceNeg, Int.reducePow, Int.reduceSub, Int.reduceToNat, Nat.reduceAdd, Nat.reduceEqDiff, Nat.reduceLT, Nat.reduceLeDiff, Nat.reduceMul, reduceCtorEq, h5]
    clear hf2
    have x0 := B6.has 0 _ rfl
    have x1 := B6.has 1 _ rfl
    have x2 := B6.has 2 _ rfl
    have x3 := B6.has 3 _ rfl
    have y0 := B7.has 0 _ rfl
    have y1 := B7.has 1 _ rfl
    have y2 := B7.has 2 _ rfl
    have y3 := B7.has 3 _ rfl
    simp (disch := omega) only [wu64, wu32, wu8, fdiv_nn, EO, ↓EP, EQ, EM, ↓reduceIte, Int.reduceAdd, Int.reduceEq, Int.reduceLE, Int.reduceLT, Int.reduceMul, Int.reduceNeg, Int.reducePow, Int.reduceSub, Int.reduceToNat, Nat.reduceAdd, Nat.reduceEqDiff, Nat.reduceLT, Nat.reduceLeDiff, Nat.reduceMul, reduceCtorEq, W_join, k5, k6, k7, Addr.add_lit, Nat.zero_add, x0, x1, x2, x3, y0, y1, y2, y3, beq_self_eq_true, Bool.xor_self]
    refine Spec.same_t rfl rfl (hdA.nb f2) (heA.nb f2) hbi.1 _ fun w3 f3 => ?_
    have x4 := (B6.fr f3 (fun e => e)).has 4 _ rfl
    have y4 := (B7.fr f3 (fun e => e)).has 4 _ rfl
    simp (disch := omega) only [wu64, wu32, wu8, fdiv_nn, EO, ↓EP, EQ, EM, ↓reduceIte, Int.reduceAdd, Int.reduceEq, Int.reduceLE, Int.reduceLT, Int.reduceMul, Int.reduceNeg, Int.reducePow, Int.reduceSub, Int.reduceToNat, Nat.reduceAdd, Nat.reduceEqDiff, Nat.reduceLT, Nat.reduceLeDiff, Nat.reduceMul, reduceCtorEq, W_join, k5, k6, k7, Addr.add_lit, Nat.zero_add, x4, y4, Bool.not_true, beq_self_eq_true, Bool.xor_self]
    refine Spec.same_t rfl rfl (hrA.nb (f2.nb f3)) (hsA.nb (f2.nb f3)) hbi.2 _ fun w4 f4 => ?_
    simp (disch := omega) only [wu64, wu32, wu8, fdiv_nn, EO, ↓EP, EQ, EM, ↓reduceIte, Int.reduceAdd, Int.reduceEq, Int.reduceLE, Int.reduceLT, Int.reduceMul, Int.reduceNeg, Int.reducePow, Int.reduceSub, Int.reduceToNat, Nat.reduceAdd, Nat.reduceEqDiff, Nat.reduceLT, Nat.reduceLeDiff, Nat.reduceMul, reduceCtorEq, W_join, k5, k6, k7, Bool.not_true, beq_self_eq_true, Bool.xor_self]
    exact hN (ts.length - (i + 1)) _ _ (by omega) ⟨((fr.nb f2).nb f3).nb f4, i + 1, by simp (disch := omega) only [wu64, wu32, wu8, fdiv_nn, EO, ↓EP, EQ, EM, ↓reduceIte, Int.reduceAdd, Int.reduceEq, Int.reduceLE, Int.reduceLT, Int.reduceMul, Int.reduceNeg, Int.reducePow, Int.reduceSub, Int.reduceToNat, Nat.reduceAdd, Nat.reduceEqDiff, Nat.reduceLT, Nat.reduceLeDiff, Nat.reduceMul, reduceCtorEq, k5, Int.natCast_add], by omega, rfl⟩
  · have hie : i = ts.length := by omega
    subst hie
    simp (disch := omega) only [wu64, wu32, wu8, fdiv_nn, EO, ↓EP, EQ, EM, ↓reduceIte, Int.reduceAdd, Int.reduceEq, Int.reduceLE, Int.reduceLT, Int.reduceMul, Int.reduceNeg, Int.reducePow, Int.reduceSub, Int.reduceToNat, Nat.reduceAdd, Nat.reduceEqDiff, Nat.reduceLT, Nat.reduceLeDiff, Nat.reduceMul, reduceCtorEq, h5, r0, r1]
    exact hK w1 fr
end Go.Proofs.YtcflokckfjkdpaaDoor.Der

/- The only element, walked. -/
set_option linter.unusedVariables false
set_option linter.unusedSimpArgs false
namespace Go.Proofs.YtcflokckfjkdpaaDoor.Der
open Go Go.RowKit Go.Proofs Go.Proofs.YtcflokckfjkdpaaDoor.Eng Go.Proofs.YtcflokckfjkdpaaDoor.Code
set_option maxRecDepth 100000
attribute [local irreducible] callK S.W opsW scrW scrT

theorem fillTlv0 : fillL [(0, 1), (1, 1), (2, 1), (3, 1), (4, 1)] #[(.int .i64 0), (.int .i64 0), (.bool false), (.slice none 0 0), (.slice none 0 0)] [] = some (tcells noTlv (.slice none 0 0) (.slice none 0 0)).toArray := by kernel_rfl
def one_val (r : Tlv × Int) (d q : Value) : Value := .tuple #[.agg (tcells r.1 d q).toArray, .int .i64 r.2]
set_option maxHeartbeats 2000000 in
theorem one_vw {w : World} {v : Value} {b : List Int} (hv : Vw .u8 w v b) (hb : ByteL b) (h63 : b.length ≤ 9223372036854775807) (K : Value → World → Prop)
    (hK : ∀ dA dc rA rc w', Fr w w' nob → Rd w' dA (nums .u8 (oneR b).1.data) → Rd w' rA (nums .u8 (oneR b).1.raw) → (oneR b).1.data.length ≤ dc → (oneR b).1.raw.length ≤ rc →
      K (one_val (oneR b) (.slice dA (oneR b).1.data.length dc) (.slice rA (oneR b).1.raw.length rc)) w') : callK Tryd.prog 29 [v] w K := by
  obtain ⟨A, c, rfl, hc, hr⟩ := hv
  refine call_of Tryd.func29 Code.h29 (by simp [Code.c29]) ?_
  unfold oneR at hK
  simp (disch := omega) only [wu64, wu32, wu8, fdiv_nn, EO, ↓EP, EQ, EM, ↓reduceIte, Int.reduceAdd, Int.reduceEq, Int.reduceLE, Int.reduceLT, Int.reduceMul, Int.reduceNeg, Int.reducePow, Int.reduceSub, Int.reduceToNat, Nat.reduceAdd, Nat.reduceEqDiff, Nat.reduceLT, Nat.reduceLeDiff, Nat.reduceMul, reduceCtorEq, Code.c29]
  refine al_k (tcells noTlv (.slice none 0 0) (.slice none 0 0)) rfl fun w1 n1 => ?_
  have f1 := n1.fr nob
  simp (disch := omega) only [wu64, wu32, wu8, fdiv_nn, EO, ↓EP, EQ, EM, ↓reduceIte, Int.reduceAdd, Int.reduceEq, Int.reduceLE, Int.reduceLT, Int.reduceMul, Int.reduceNeg, Int.reducePow, Int.reduceSub, Int.reduceToNat, Nat.reduceAdd, Nat.reduceEqDiff, Nat.reduceLT, Nat.reduceLeDiff, Nat.reduceMul, reduceCtorEq]
  refine split_vw (Vw.of rfl hc (hr.nb f1)) hb h63 _ fun X vs w2 T => ?_
  simp only [tup3]
  have Z := n1.blk.fr T.g.fr (fun e => e)
  generalize splitR b = sp at hK T
  obtain ⟨ts, e, at_⟩ := sp
  simp only at hK T ⊢
  have TX := T.tr
  obtain ⟨XA, xc, rfl, hxc, _⟩ := T.g.sl.read
  have z0 : w.heap.size < w2.heap.size := Z.lt
  by_cases he : e = 0
  rotate_left
  · rw [if_pos (by simpa using he)] at hK
    have he' : (e = 0) = False := eq_false he
    simp (disch := omega) only [wu64, wu32, wu8, fdiv_nn, EO, ↓EP, EQ, EM, ↓reduceIte, Int.reduceAdd, Int.reduceEq, Int.reduceLE, Int.reduceLT, Int.reduceMul, Int.reduceNeg, Int.reducePow, Int.reduceSub, Int.reduceToNat, Nat.reduceAdd, Nat.reduceEqDiff, Nat.reduceLT, Nat.reduceLeDiff, Nat.reduceMul, reduceCtorEq, he']
    refine ⟨_, fillTlv0, ?_⟩
    simp (disch := omega) only [wu64, wu32, wu8, fdiv_nn, EO, ↓EP, EQ, EM, ↓reduceIte, Int.reduceAdd, Int.reduceEq, Int.reduceLE, Int.reduceLT, Int.reduceMul, Int.reduceNeg, Int.reducePow, Int.reduceSub, Int.reduceToNat, Nat.reduceAdd, Nat.reduceEqDiff, Nat.reduceLT, Nat.reduceLeDiff, Nat.reduceMul, reduceCtorEq, he']
    refine st_whole Z rfl rfl (tcells_one _ _ _ _ _ _ _) fun w3 p3 => ?_
    simp (disch := omega) only [wu64, wu32, wu8, fdiv_nn, EO, ↓EP, EQ, EM, ↓reduceIte, Int.reduceAdd, Int.reduceEq, Int.reduceLE, Int.reduceLT, Int.reduceMul, Int.reduceNeg, Int.reducePow, Int.reduceSub, Int.reduceToNat, Nat.reduceAdd, Nat.reduceEqDiff, Nat.reduceLT, Nat.reduceLeDiff, Nat.reduceMul, reduceCtorEq, he']
    refine p3.blk.ldAgg rfl ?_
    simp (disch := omega) only [wu64, wu32, wu8, fdiv_nn, EO, ↓EP, EQ, EM, ↓reduceIte, Int.reduceAdd, Int.reduceEq, Int.reduceLE, Int.reduceLT, Int.reduceMul, Int.reduceNeg, Int.reducePow, Int.reduceSub, Int.reduceToNat, Nat.reduceAdd, Nat.reduceEqDiff, Nat.reduceLT, Nat.reduceLeDiff, Nat.reduceMul, reduceCtorEq, he']
    exact hK none 0 none 0 w3 (frNew p3.fr (Nat.le_refl _) (f1.nb T.g.fr)) (.inl rfl) (.inl rfl) (Nat.le_refl _) (Nat.le_refl _)
  rw [if_neg (by simpa using he)] at hK
  match ts, hK, T, TX with
  | [], hK, T, TX =>
    simp (disch := omega) only [wu64, wu32, wu8, fdiv_nn, EO, ↓EP, EQ, EM, ↓reduceIte, Int.reduceAdd, Int.reduceEq, Int.reduceLE, Int.reduceLT, Int.reduceMul, Int.reduceNeg, Int.reducePow, Int.reduceSub, Int.reduceToNat, Nat.reduceAdd, Nat.reduceEqDiff, Nat.reduceLT, Nat.reduceLeDiff, Nat.reduceMul, reduceCtorEq, he, List.length_nil, Int.natCast_zero]
    refine ⟨_, fillTlv0, ?_⟩
    simp (disch := omega) only [wu64, wu32, wu8, fdiv_nn, EO, ↓EP, EQ, EM, ↓reduceIte, Int.reduceAdd, Int.reduceEq, Int.reduceLE, Int.reduceLT, Int.reduceMul, Int.reduceNeg, Int.reducePow, Int.reduceSub, Int.reduceToNat, Nat.reduceAdd, Nat.reduceEqDiff, Nat.reduceLT, Nat.reduceLeDiff, Nat.reduceMul, reduceCtorEq, he]
    refine st_whole Z rfl rfl (tcells_one _ _ _ _ _ _ _) fun w3 p3 => ?_
    simp (disch := omega) only [wu64, wu32, wu8, fdiv_nn, EO, ↓EP, EQ, EM, ↓reduceIte, Int.reduceAdd, Int.reduceEq, Int.reduceLE, Int.reduceLT, Int.reduceMul, Int.reduceNeg, Int.reducePow, Int.reduceSub, Int.reduceToNat, Nat.reduceAdd, Nat.reduceEqDiff, Nat.reduceLT, Nat.reduceLeDiff, Nat.reduceMul, reduceCtorEq, he]
    refine p3.blk.ldAgg rfl ?_
    simp (disch := omega) only [wu64, wu32, wu8, fdiv_nn, EO, ↓EP, EQ, EM, ↓reduceIte, Int.reduceAdd, Int.reduceEq, Int.reduceLE, Int.reduceLT, Int.reduceMul, Int.reduceNeg, Int.reducePow, Int.reduceSub, Int.reduceToNat, Nat.reduceAdd, Nat.reduceEqDiff, Nat.reduceLT, Nat.reduceLeDiff, Nat.reduceMul, reduceCtorEq, he]
    exact hK none 0 none 0 w3 (frNew p3.fr (Nat.le_refl _) (f1.nb T.g.fr)) (.inl rfl) (.inl rfl) (Nat.le_refl _) (Nat.le_refl _)
  | [t], hK, T, TX =>
    have hvl := T.vlen
    obtain ⟨d, r, rfl⟩ : ∃ d r, vs = [d, r] := by
      match vs, hvl with
      | [d, r], _ => exact ⟨d, r, rfl⟩
    obtain ⟨dA, dc, rfl, hdc, hdA⟩ := readn (T.r.each 0 d t.data rfl rfl) rfl
    obtain ⟨rA, rc, rfl, hrc, hrA⟩ := readn (T.r.each 1 r t.raw rfl rfl) rfl
    obtain ⟨A', c', e', _, hrd⟩ := T.g.sl.read
    cases e'
    obtain ⟨ad, rfl, _, hcx⟩ := hrd.get (by simp [cellsT, tcells])
    have offd : offA dA (fun x => x = w.heap.size) := fun q hq h => by
      have h1 := (T.r.up 0 (.slice dA t.data.length dc) q.block rfl (by rw [hq]; rfl)).1
      have h2 := n1.blk.lt
      have h3 : q.block = w.heap.size := h
      omega
    have offr : offA rA (fun x => x = w.heap.size) := fun q hq h => by
      have h1 := (T.r.up 1 (.slice rA t.raw.length rc) q.block rfl (by rw [hq]; rfl)).1
      have h2 := n1.blk.lt
      have h3 : q.block = w.heap.size := h
      omega
    simp (disch := omega) only [wu64, wu32, wu8, fdiv_nn, EO, ↓EP, EQ, EM, ↓reduceIte, Int.reduceAdd, Int.reduceEq, Int.reduceLE, Int.reduceLT, Int.reduceMul, Int.reduceNeg, Int.reducePow, Int.reduceSub, Int.reduceToNat, Nat.reduceAdd, Nat.reduceEqDiff, Nat.reduceLT, Nat.reduceLeDiff, Nat.reduceMul, reduceCtorEq, he, List.length_cons, List.length_nil]
    refine ⟨tcells t (.slice dA t.data.length dc) (.slice rA t.raw.length rc), rfl, ?_, ?_⟩
    · rw [add_zero']
      simpa [cellsT] using hcx
    simp (disch := omega) only [wu64, wu32, wu8, fdiv_nn, EO, ↓EP, EQ, EM, ↓reduceIte, Int.reduceAdd, Int.reduceEq, Int.reduceLE, Int.reduceLT, Int.reduceMul, Int.reduceNeg, Int.reducePow, Int.reduceSub, Int.reduceToNat, Nat.reduceAdd, Nat.reduceEqDiff, Nat.reduceLT, Nat.reduceLeDiff, Nat.reduceMul, reduceCtorEq, he]
    refine st_whole Z rfl rfl (tcells_one _ _ _ _ _ _ _) fun w3 p3 => ?_
    have f3 := frNew p3.fr (Nat.le_refl w.heap.size) (f1.nb T.g.fr)
    simp (disch := omega) only [wu64, wu32, wu8, fdiv_nn, EO, ↓EP, EQ, EM, ↓reduceIte, Int.reduceAdd, Int.reduceEq, Int.reduceLE, Int.reduceLT, Int.reduceMul, Int.reduceNeg, Int.reducePow, Int.reduceSub, Int.reduceToNat, Nat.reduceAdd, Nat.reduceEqDiff, Nat.reduceLT, Nat.reduceLeDiff, Nat.reduceMul, reduceCtorEq, he]
    refine p3.blk.ldAgg rfl ?_
    simp (disch := omega) only [wu64, wu32, wu8, fdiv_nn, EO, ↓EP, EQ, EM, ↓reduceIte, Int.reduceAdd, Int.reduceEq, Int.reduceLE, Int.reduceLT, Int.reduceMul, Int.reduceNeg, Int.reducePow, Int.reduceSub, Int.reduceToNat, Nat.reduceAdd, Nat.reduceEqDiff, Nat.reduceLT, Nat.reduceLeDiff, Nat.reduceMul, reduceCtorEq, he]
    exact hK dA dc rA rc w3 f3 (hdA.fr p3.fr (.inr offd)) (hrA.fr p3.fr (.inr offr)) hdc hrc
  | t :: u :: r, hK, T, TX =>
    simp (disch := omega) only [wu64, wu32, wu8, fdiv_nn, EO, ↓EP, EQ, EM, ↓reduceIte, Int.reduceAdd, Int.reduceEq, Int.reduceLE, Int.reduceLT, Int.reduceMul, Int.reduceNeg, Int.reducePow, Int.reduceSub, Int.reduceToNat, Nat.reduceAdd, Nat.reduceEqDiff, Nat.reduceLT, Nat.reduceLeDiff, Nat.reduceMul, reduceCtorEq, he, List.length_cons]
    refine ⟨_, fillTlv0, ?_⟩
    simp (disch := omega) only [wu64, wu32, wu8, fdiv_nn, EO, ↓EP, EQ, EM, ↓reduceIte, Int.reduceAdd, Int.reduceEq, Int.reduceLE, Int.reduceLT, Int.reduceMul, Int.reduceNeg, Int.reducePow, Int.reduceSub, Int.reduceToNat, Nat.reduceAdd, Nat.reduceEqDiff, Nat.reduceLT, Nat.reduceLeDiff, Nat.reduceMul, reduceCtorEq, he]
    refine st_whole Z rfl rfl (tcells_one _ _ _ _ _ _ _) fun w3 p3 => ?_
    simp (disch := omega) only [wu64, wu32, wu8, fdiv_nn, EO, ↓EP, EQ, EM, ↓reduceIte, Int.reduceAdd, Int.reduceEq, Int.reduceLE, Int.reduceLT, Int.reduceMul, Int.reduceNeg, Int.reducePow, Int.reduceSub, Int.reduceToNat, Nat.reduceAdd, Nat.reduceEqDiff, Nat.reduceLT, Nat.reduceLeDiff, Nat.reduceMul, reduceCtorEq, he]
    refine p3.blk.ldAgg rfl ?_
    simp (disch := omega) only [wu64, wu32, wu8, fdiv_nn, EO, ↓EP, EQ, EM, ↓reduceIte, Int.reduceAdd, Int.reduceEq, Int.reduceLE, Int.reduceLT, Int.reduceMul, Int.reduceNeg, Int.reducePow, Int.reduceSub, Int.reduceToNat, Nat.reduceAdd, Nat.reduceEqDiff, Nat.reduceLT, Nat.reduceLeDiff, Nat.reduceMul, reduceCtorEq, he]
    exact hK none 0 none 0 w3 (frNew p3.fr (Nat.le_refl _) (f1.nb T.g.fr)) (.inl rfl) (.inl rfl) (Nat.le_refl _) (Nat.le_refl _)
set_option maxHeartbeats 2000000 in
theorem rone_vw {w : World} {v : Value} {b : List Int} (hv : Vw .u8 w v b) (hb : ByteL b) (h63 : b.length ≤ 9223372036854775807) (K : Value → World → Prop)
    (hK : ∀ dA dc rA rc w', Fr w w' nob → Rd w' dA (nums .u8 (oneR b).1.data) → Rd w' rA (nums .u8 (oneR b).1.raw) → (oneR b).1.data.length ≤ dc → (oneR b).1.raw.length ≤ rc →
      K (one_val (oneR b) (.slice dA (oneR b).1.data.length dc) (.slice rA (oneR b).1.raw.length rc)) w') : callK Tryd.prog 30 [v] w K := by
  obtain ⟨A, c, rfl, hc, hr⟩ := hv
  refine call_of Tryd.func30 Code.h30 (by simp [Code.c30]) ?_
  unfold oneR at hK
  simp (disch := omega) only [wu64, wu32, wu8, fdiv_nn, EO, ↓EP, EQ, EM, ↓reduceIte, Int.reduceAdd, Int.reduceEq, Int.reduceLE, Int.reduceLT, Int.reduceMul, Int.reduceNeg, Int.reducePow, Int.reduceSub, Int.reduceToNat, Nat.reduceAdd, Nat.reduceEqDiff, Nat.reduceLT, Nat.reduceLeDiff, Nat.reduceMul, reduceCtorEq, Code.c30]
  refine al_k (tcells noTlv (.slice none 0 0) (.slice none 0 0)) rfl fun w1 n1 => ?_
  have f1 := n1.fr nob
  simp (disch := omega) only [wu64, wu32, wu8, fdiv_nn, EO, ↓EP, EQ, EM, ↓reduceIte, Int.reduceAdd, Int.reduceEq, Int.reduceLE, Int.reduceLT, Int.reduceMul, Int.reduceNeg, Int.reducePow, Int.reduceSub, Int.reduceToNat, Nat.reduceAdd, Nat.reduceEqDiff, Nat.reduceLT, Nat.reduceLeDiff, Nat.reduceMul, reduceCtorEq]
  refine rsplit_vw (Vw.of rfl hc (hr.nb f1)) hb h63 _ fun X vs w2 T => ?_
  simp only [tup3]
  have Z := n1.blk.fr T.g.fr (fun e => e)
  generalize splitR b = sp at hK T
  obtain ⟨ts, e, at_⟩ := sp
  simp only at hK T ⊢
  have TX := T.tr
  obtain ⟨XA, xc, rfl, hxc, _⟩ := T.g.sl.read
  have z0 : w.heap.size < w2.heap.size := Z.lt
  by_cases he : e = 0
  rotate_left
  · rw [if_pos (by simpa using he)] at hK
    have he' : (e = 0) = False := eq_false he
    simp (disch := omega) only [wu64, wu32, wu8, fdiv_nn, EO, ↓EP, EQ, EM, ↓reduceIte, Int.reduceAdd, Int.reduceEq, Int.reduceLE, Int.reduceLT, Int.reduceMul, Int.reduceNeg, Int.reducePow, Int.reduceSub, Int.reduceToNat, Nat.reduceAdd, Nat.reduceEqDiff, Nat.reduceLT, Nat.reduceLeDiff, Nat.reduceMul, reduceCtorEq, he']
    refine ⟨_, fillTlv0, ?_⟩
    simp (disch := omega) only [wu64, wu32, wu8, fdiv_nn, EO, ↓EP, EQ, EM, ↓reduceIte, Int.reduceAdd, Int.reduceEq, Int.reduceLE, Int.reduceLT, Int.reduceMul, Int.reduceNeg, Int.reducePow, Int.reduceSub, Int.reduceToNat, Nat.reduceAdd, Nat.reduceEqDiff, Nat.reduceLT, Nat.reduceLeDiff, Nat.reduceMul, reduceCtorEq, he']
    refine st_whole Z rfl rfl (tcells_one _ _ _ _ _ _ _) fun w3 p3 => ?_
    simp (disch := omega) only [wu64, wu32, wu8, fdiv_nn, EO, ↓EP, EQ, EM, ↓reduceIte, Int.reduceAdd, Int.reduceEq, Int.reduceLE, Int.reduceLT, Int.reduceMul, Int.reduceNeg, Int.reducePow, Int.reduceSub, Int.reduceToNat, Nat.reduceAdd, Nat.reduceEqDiff, Nat.reduceLT, Nat.reduceLeDiff, Nat.reduceMul, reduceCtorEq, he']
    refine p3.blk.ldAgg rfl ?_
    simp (disch := omega) only [wu64, wu32, wu8, fdiv_nn, EO, ↓EP, EQ, EM, ↓reduceIte, Int.reduceAdd, Int.reduceEq, Int.reduceLE, Int.reduceLT, Int.reduceMul, Int.reduceNeg, Int.reducePow, Int.reduceSub, Int.reduceToNat, Nat.reduceAdd, Nat.reduceEqDiff, Nat.reduceLT, Nat.reduceLeDiff, Nat.reduceMul, reduceCtorEq, he']
    exact hK none 0 none 0 w3 (frNew p3.fr (Nat.le_refl _) (f1.nb T.g.fr)) (.inl rfl) (.inl rfl) (Nat.le_refl _) (Nat.le_refl _)
  rw [if_neg (by simpa using he)] at hK
  match ts, hK, T, TX with
  | [], hK, T, TX =>
    simp (disch := omega) only [wu64, wu32, wu8, fdiv_nn, EO, ↓EP, EQ, EM, ↓reduceIte, Int.reduceAdd, Int.reduceEq, Int.reduceLE, Int.reduceLT, Int.reduceMul, Int.reduceNeg, Int.reducePow, Int.reduceSub, Int.reduceToNat, Nat.reduceAdd, Nat.reduceEqDiff, Nat.reduceLT, Nat.reduceLeDiff, Nat.reduceMul, reduceCtorEq, he, List.length_nil, Int.natCast_zero]
    refine ⟨_, fillTlv0, ?_⟩
    simp (disch := omega) only [wu64, wu32, wu8, fdiv_nn, EO, ↓EP, EQ, EM, ↓reduceIte, Int.reduceAdd, Int.reduceEq, Int.reduceLE, Int.reduceLT, Int.reduceMul, Int.reduceNeg, Int.reducePow, Int.reduceSub, Int.reduceToNat, Nat.reduceAdd, Nat.reduceEqDiff, Nat.reduceLT, Nat.reduceLeDiff, Nat.reduceMul, reduceCtorEq, he]
    refine st_whole Z rfl rfl (tcells_one _ _ _ _ _ _ _) fun w3 p3 => ?_
    simp (disch := omega) only [wu64, wu32, wu8, fdiv_nn, EO, ↓EP, EQ, EM, ↓reduceIte, Int.reduceAdd, Int.reduceEq, Int.reduceLE, Int.reduceLT, Int.reduceMul, Int.reduceNeg, Int.reducePow, Int.reduceSub, Int.reduceToNat, Nat.reduceAdd, Nat.reduceEqDiff, Nat.reduceLT, Nat.reduceLeDiff, Nat.reduceMul, reduceCtorEq, he]
    refine p3.blk.ldAgg rfl ?_
    simp (disch := omega) only [wu64, wu32, wu8, fdiv_nn, EO, ↓EP, EQ, EM, ↓reduceIte, Int.reduceAdd, Int.reduceEq, Int.reduceLE, Int.reduceLT, Int.reduceMul, Int.reduceNeg, Int.reducePow, Int.reduceSub, Int.reduceToNat, Nat.reduceAdd, Nat.reduceEqDiff, Nat.reduceLT, Nat.reduceLeDiff, Nat.reduceMul, reduceCtorEq, he]
    exact hK none 0 none 0 w3 (frNew p3.fr (Nat.le_refl _) (f1.nb T.g.fr)) (.inl rfl) (.inl rfl) (Nat.le_refl _) (Nat.le_refl _)
  | [t], hK, T, TX =>
    have hvl := T.vlen
    obtain ⟨d, r, rfl⟩ : ∃ d r, vs = [d, r] := by
      match vs, hvl with
      | [d, r], _ => exact ⟨d, r, rfl⟩
    obtain ⟨dA, dc, rfl, hdc, hdA⟩ := readn (T.r.each 0 d t.data rfl rfl) rfl
    obtain ⟨rA, rc, rfl, hrc, hrA⟩ := readn (T.r.each 1 r t.raw rfl rfl) rfl
    obtain ⟨A', c', e', _, hrd⟩ := T.g.sl.read
    cases e'
    obtain ⟨ad, rfl, _, hcx⟩ := hrd.get (by simp [cellsT, tcells])
    have offd : offA dA (fun x => x = w.heap.size) := fun q hq h => by
      have h1 := (T.r.up 0 (.slice dA t.data.length dc) q.block rfl (by rw [hq]; rfl)).1
      have h2 := n1.blk.lt
      have h3 : q.block = w.heap.size := h
      omega
    have offr : offA rA (fun x => x = w.heap.size) := fun q hq h => by
      have h1 := (T.r.up 1 (.slice rA t.raw.length rc) q.block rfl (by rw [hq]; rfl)).1
      have h2 := n1.blk.lt
      have h3 : q.block = w.heap.size := h
      omega
    simp (disch := omega) only [wu64, wu32, wu8, fdiv_nn, EO, ↓EP, EQ, EM, ↓reduceIte, Int.reduceAdd, Int.reduceEq, Int.reduceLE, Int.reduceLT, Int.reduceMul, Int.reduceNeg, Int.reducePow, Int.reduceSub, Int.reduceToNat, Nat.reduceAdd, Nat.reduceEqDiff, Nat.reduceLT, Nat.reduceLeDiff, Nat.reduceMul, reduceCtorEq, he, List.length_cons, List.length_nil]
    refine ⟨tcells t (.slice dA t.data.length dc) (.slice rA t.raw.length rc), rfl, ?_, ?_⟩
    · rw [add_zero']
      simpa [cellsT] using hcx
    simp (disch := omega) only [wu64, wu32, wu8, fdiv_nn, EO, ↓EP, EQ, EM, ↓reduceIte, Int.reduceAdd, Int.reduceEq, Int.reduceLE, Int.reduceLT, Int.reduceMul, Int.reduceNeg, Int.reducePow, Int.reduceSub, Int.reduceToNat, Nat.reduceAdd, Nat.reduceEqDiff, Nat.reduceLT, Nat.reduceLeDiff, Nat.reduceMul, reduceCtorEq, he]
    refine st_whole Z rfl rfl (tcells_one _ _ _ _ _ _ _) fun w3 p3 => ?_
    have f3 := frNew p3.fr (Nat.le_refl w.heap.size) (f1.nb T.g.fr)
    simp (disch := omega) only [wu64, wu32, wu8, fdiv_nn, EO, ↓EP, EQ, EM, ↓reduceIte, Int.reduceAdd, Int.reduceEq, Int.reduceLE, Int.reduceLT, Int.reduceMul, Int.reduceNeg, Int.reducePow, Int.reduceSub, Int.reduceToNat, Nat.reduceAdd, Nat.reduceEqDiff, Nat.reduceLT, Nat.reduceLeDiff, Nat.reduceMul, reduceCtorEq, he]
    refine p3.blk.ldAgg rfl ?_
    simp (disch := omega) only [wu64, wu32, wu8, fdiv_nn, EO, ↓EP, EQ, EM, ↓reduceIte, Int.reduceAdd, Int.reduceEq, Int.reduceLE, Int.reduceLT, Int.reduceMul, Int.reduceNeg, Int.reducePow, Int.reduceSub, Int.reduceToNat, Nat.reduceAdd, Nat.reduceEqDiff, Nat.reduceLT, Nat.reduceLeDiff, Nat.reduceMul, reduceCtorEq, he]
    exact hK dA dc rA rc w3 f3 (hdA.fr p3.fr (.inr offd)) (hrA.fr p3.fr (.inr offr)) hdc hrc
  | t :: u :: r, hK, T, TX =>
    simp (disch := omega) only [wu64, wu32, wu8, fdiv_nn, EO, ↓EP, EQ, EM, ↓reduceIte, Int.reduceAdd, Int.reduceEq, Int.reduceLE, Int.reduceLT, Int.reduceMul, Int.reduceNeg, Int.reducePow, Int.reduceSub, Int.reduceToNat, Nat.reduceAdd, Nat.reduceEqDiff, Nat.reduceLT, Nat.reduceLeDiff, Nat.reduceMul, reduceCtorEq, he, List.length_cons]
    refine ⟨_, fillTlv0, ?_⟩
    simp (disch := omega) only [wu64, wu32, wu8, fdiv_nn, EO, ↓EP, EQ, EM, ↓reduceIte, Int.reduceAdd, Int.reduceEq, Int.reduceLE, Int.reduceLT, Int.reduceMul, Int.reduceNeg, Int.reducePow, Int.reduceSub, Int.reduceToNat, Nat.reduceAdd, Nat.reduceEqDiff, Nat.reduceLT, Nat.reduceLeDiff, Nat.reduceMul, reduceCtorEq, he]
    refine st_whole Z rfl rfl (tcells_one _ _ _ _ _ _ _) fun w3 p3 => ?_
    simp (disch := omega) only [wu64, wu32, wu8, fdiv_nn, EO, ↓EP, EQ, EM, ↓reduceIte, Int.reduceAdd, Int.reduceEq, Int.reduceLE, Int.reduceLT, Int.reduceMul, Int.reduceNeg, Int.reducePow, Int.reduceSub, Int.reduceToNat, Nat.reduceAdd, Nat.reduceEqDiff, Nat.reduceLT, Nat.reduceLeDiff, Nat.reduceMul, reduceCtorEq, he]
    refine p3.blk.ldAgg rfl ?_
    simp (disch := omega) only [wu64, wu32, wu8, fdiv_nn, EO, ↓EP, EQ, EM, ↓reduceIte, Int.reduceAdd, Int.reduceEq, Int.reduceLE, Int.reduceLT, Int.reduceMul, Int.reduceNeg, Int.reducePow, Int.reduceSub, Int.reduceToNat, Nat.reduceAdd, Nat.reduceEqDiff, Nat.reduceLT, Nat.reduceLeDiff, Nat.reduceMul, reduceCtorEq, he]
    exact hK none 0 none 0 w3 (frNew p3.fr (Nat.le_refl _) (f1.nb T.g.fr)) (.inl rfl) (.inl rfl) (Nat.le_refl _) (Nat.le_refl _)
end Go.Proofs.YtcflokckfjkdpaaDoor.Der

/- The statement on rows of elements, walked. -/
set_option linter.unusedVariables false
set_option linter.unusedSimpArgs false
namespace Go.Proofs.YtcflokckfjkdpaaDoor.Der
open Go Go.RowKit Go.Proofs Go.Proofs.YtcflokckfjkdpaaDoor.Eng Go.Proofs.YtcflokckfjkdpaaDoor.Code
set_option maxRecDepth 100000
attribute [local irreducible] callK S.W opsW scrW scrT

def Fit (b : List Int) (t : Tlv) : Prop := t.data.length ≤ b.length ∧ t.raw.length ≤ b.length
theorem splitGo_bd (b : List Int) : ∀ (f p : Nat) (acc : List Tlv), (∀ t ∈ acc, Fit b t) → acc.length ≤ 65536 → (∀ t ∈ (splitGo b f p acc).1, Fit b t) ∧ (splitGo b f p acc).1.length ≤ 65536
  | 0, p, acc, h, hl => ⟨h, hl⟩
  | f + 1, p, acc, h, hl => by
    rw [splitGo]
    split
    · exact ⟨h, hl⟩
    · split
      · exact ⟨by simp, by simp⟩
      · split
        · exact ⟨by simp, by simp⟩
        · split
          · exact ⟨by simp, by simp⟩
          · refine splitGo_bd b f _ _ (fun t ht => ?_) (by simp; omega)
            rw [List.mem_append] at ht
            rcases ht with ht | ht
            · exact h t ht
            · simp only [List.mem_singleton] at ht
              subst ht
              exact ⟨by simp; omega, by simp; omega⟩
theorem split_bd (b : List Int) : (∀ t ∈ (splitR b).1, Fit b t) ∧ (splitR b).1.length ≤ 65536 := by
  unfold splitR
  split
  · exact ⟨by simp, by simp⟩
  · exact splitGo_bd b _ _ _ (by simp) (by simp)
theorem one_bd (b : List Int) : Fit b (oneR b).1 := by
  have h := (split_bd b).1
  unfold oneR
  split
  · exact ⟨by simp [noTlv], by simp [noTlv]⟩
  · split
    · exact ⟨by simp [noTlv], by simp [noTlv]⟩
    · rename_i t ht
      exact h t (by rw [ht]; simp)
    · exact ⟨by simp [noTlv], by simp [noTlv]⟩
theorem tr_one {w w' : World} {t : Tlv} {dA rA : Option Addr} {dc rc : Nat} (n : New w w' (tcells t (.slice dA t.data.length dc) (.slice rA t.raw.length rc))) (hd : Rd w' dA (nums .u8 t.data)) (hr : Rd w' rA (nums .u8 t.raw)) (hdc : t.data.length ≤ dc) (hrc : t.raw.length ≤ rc) :
    TR w' (.slice (some ⟨w.heap.size, 0, none⟩) 1 1) [t] := by
  refine ⟨_, _, [.slice dA t.data.length dc, .slice rA t.raw.length rc], rfl, by simp, by simpa [cellsT] using n.rdv, rfl, fun i v l h1 h2 => ?_⟩
  match i, h1, h2 with
  | 0, h1, h2 =>
    simp at h1
    simp [tflat] at h2
    subst h1 h2
    exact Vw.of rfl hdc hd
  | 1, h1, h2 =>
    simp at h1
    simp [tflat] at h2
    subst h1 h2
    exact Vw.of rfl hrc hr
  | i + 2, h1, h2 => simp at h1
set_option maxHeartbeats 4000000 in
theorem dersplits_vw {w : World} (hT : TbP w) {A : Option Addr} {n c : Nat} {l : List Int} (hn : l.length = n) (hc : n ≤ c) (hl : Rd w A (nums .u8 l)) (hb : ByteL l) (K : Value → World → Prop)
    (hK : ∀ w', Fr w w' nob → K (.bool true) w') : callK Tryd.prog 6 [.slice A n c] w K := by
  subst hn
  refine call_of Tryd.func6 Code.h6 (by simp [Code.c6]) ?_
  by_cases hm : (16384 : Int) < (l.length : Int)
  · simp (disch := omega) only [wu64, wu32, wu8, fdiv_nn, EO, ↓EP, EQ, EM, ↓reduceIte, Int.reduceAdd, Int.reduceEq, Int.reduceLE, Int.reduceLT, Int.reduceMul, Int.reduceNeg, Int.reducePow, Int.reduceSub, Int.reduceToNat, Nat.reduceAdd, Nat.reduceEqDiff, Nat.reduceLT, Nat.reduceLeDiff, Nat.reduceMul, reduceCtorEq, Code.c6]
    refine live_vw hT _ fun w1 f1 => ?_
    simp (disch := omega) only [wu64, wu32, wu8, fdiv_nn, EO, ↓EP, EQ, EM, ↓reduceIte, Int.reduceAdd, Int.reduceEq, Int.reduceLE, Int.reduceLT, Int.reduceMul, Int.reduceNeg, Int.reducePow, Int.reduceSub, Int.reduceToNat, Nat.reduceAdd, Nat.reduceEqDiff, Nat.reduceLT, Nat.reduceLeDiff, Nat.reduceMul, reduceCtorEq]
    exact hK w1 f1
  have sbd := split_bd l
  have obd := one_bd l
  simp (disch := omega) only [wu64, wu32, wu8, fdiv_nn, EO, ↓EP, EQ, EM, ↓reduceIte, Int.reduceAdd, Int.reduceEq, Int.reduceLE, Int.reduceLT, Int.reduceMul, Int.reduceNeg, Int.reducePow, Int.reduceSub, Int.reduceToNat, Nat.reduceAdd, Nat.reduceEqDiff, Nat.reduceLT, Nat.reduceLeDiff, Nat.reduceMul, reduceCtorEq, Code.c6]
  refine Spec.lent_spec rfl hl (by omega) _ fun v1 w1 L1 f1 => ?_
  have lr := L1.read
  obtain ⟨bb, d, e, hd, _, hr1⟩ := lr
  subst e
  simp (disch := omega) only [wu64, wu32, wu8, fdiv_nn, EO, ↓EP, EQ, EM, ↓reduceIte, Int.reduceAdd, Int.reduceEq, Int.reduceLE, Int.reduceLT, Int.reduceMul, Int.reduceNeg, Int.reducePow, Int.reduceSub, Int.reduceToNat, Nat.reduceAdd, Nat.reduceEqDiff, Nat.reduceLT, Nat.reduceLeDiff, Nat.reduceMul, reduceCtorEq]
  refine split_vw (Vw.of rfl (by omega) hr1) hb (by omega) _ fun X2 vs2 w2 T2 => ?_
  simp only [tup3]
  have f2 := f1.nb T2.g.fr
  simp (disch := omega) only [wu64, wu32, wu8, fdiv_nn, EO, ↓EP, EQ, EM, ↓reduceIte, Int.reduceAdd, Int.reduceEq, Int.reduceLE, Int.reduceLT, Int.reduceMul, Int.reduceNeg, Int.reducePow, Int.reduceSub, Int.reduceToNat, Nat.reduceAdd, Nat.reduceEqDiff, Nat.reduceLT, Nat.reduceLeDiff, Nat.reduceMul, reduceCtorEq]
  refine rsplit_vw (Vw.of rfl hc (hl.nb f2)) hb (by omega) _ fun X3 vs3 w3 T3 => ?_
  simp only [tup3]
  have f3 := f2.nb T3.g.fr
  simp (disch := omega) only [wu64, wu32, wu8, fdiv_nn, EO, ↓EP, EQ, EM, ↓reduceIte, Int.reduceAdd, Int.reduceEq, Int.reduceLE, Int.reduceLT, Int.reduceMul, Int.reduceNeg, Int.reducePow, Int.reduceSub, Int.reduceToNat, Nat.reduceAdd, Nat.reduceEqDiff, Nat.reduceLT, Nat.reduceLeDiff, Nat.reduceMul, reduceCtorEq]
  have R2 := T2.tr.nb T3.g.fr
  have R3 := T3.tr
  have f23 := T2.g.fr.nb T3.g.fr
  clear T2 T3
  refine one_vw (Vw.of rfl (by omega) (hr1.nb f23)) hb (by omega) _ fun d4A d4c r4A r4c w4 f4 h4d h4r h4dc h4rc => ?_
  simp only [one_val]
  have F4 := f3.nb f4
  simp (disch := omega) only [wu64, wu32, wu8, fdiv_nn, EO, ↓EP, EQ, EM, ↓reduceIte, Int.reduceAdd, Int.reduceEq, Int.reduceLE, Int.reduceLT, Int.reduceMul, Int.reduceNeg, Int.reducePow, Int.reduceSub, Int.reduceToNat, Nat.reduceAdd, Nat.reduceEqDiff, Nat.reduceLT, Nat.reduceLeDiff, Nat.reduceMul, reduceCtorEq]
  refine al_k _ rfl fun w5 n5 => ?_
  have g5 := n5.fr nob
  simp (disch := omega) only [wu64, wu32, wu8, fdiv_nn, EO, ↓EP, EQ, EM, ↓reduceIte, Int.reduceAdd, Int.reduceEq, Int.reduceLE, Int.reduceLT, Int.reduceMul, Int.reduceNeg, Int.reducePow, Int.reduceSub, Int.reduceToNat, Nat.reduceAdd, Nat.reduceEqDiff, Nat.reduceLT, Nat.reduceLeDiff, Nat.reduceMul, reduceCtorEq]
  refine st_whole n5.blk rfl rfl (tcells_one _ _ _ _ _ _ _) fun w6 p6 => ?_
  have f6 := frNew p6.fr (Nat.le_refl w4.heap.size) g5
  have F6 := F4.nb f6
  have B6 := p6.blk
  simp (disch := omega) only [wu64, wu32, wu8, fdiv_nn, EO, ↓EP, EQ, EM, ↓reduceIte, Int.reduceAdd, Int.reduceEq, Int.reduceLE, Int.reduceLT, Int.reduceMul, Int.reduceNeg, Int.reducePow, Int.reduceSub, Int.reduceToNat, Nat.reduceAdd, Nat.reduceEqDiff, Nat.reduceLT, Nat.reduceLeDiff, Nat.reduceMul, reduceCtorEq]
  refine rone_vw (Vw.of rfl hc (hl.nb F6)) hb (by omega) _ fun d7A d7c r7A r7c w7 f7 h7d h7r h7dc h7rc => ?_
  simp only [one_val]
  simp (disch := omega) only [wu64, wu32, wu8, fdiv_nn, EO, ↓EP, EQ, EM, ↓reduceIte, Int.reduceAdd, Int.reduceEq, Int.reduceLE, Int.reduceLT, Int.reduceMul, Int.reduceNeg, Int.reducePow, Int.reduceSub, Int.reduceToNat, Nat.reduceAdd, Nat.reduceEqDiff, Nat.reduceLT, Nat.reduceLeDiff, Nat.reduceMul, reduceCtorEq]
  refine al_k _ rfl fun w8 n8 => ?_
  have g8 := n8.fr nob
  simp (disch := omega) only [wu64, wu32, wu8, fdiv_nn, EO, ↓EP, EQ, EM, ↓reduceIte, Int.reduceAdd, Int.reduceEq, Int.reduceLE, Int.reduceLT, Int.reduceMul, Int.reduceNeg, Int.reducePow, Int.reduceSub, Int.reduceToNat, Nat.reduceAdd, Nat.reduceEqDiff, Nat.reduceLT, Nat.reduceLeDiff, Nat.reduceMul, reduceCtorEq]
  refine st_whole n8.blk rfl rfl (tcells_one _ _ _ _ _ _ _) fun w9 p9 => ?_
  have f9 := frNew p9.fr (Nat.le_refl w7.heap.size) g8
  have F9 := (F6.nb f7).nb f9
  have B9 := p9.blk
  have B69 := (B6.fr f7 (fun e => e)).fr f9 (fun e => e)
  have k39 := ((f4.nb f6).nb f7).nb f9
  simp (disch := omega) only [wu64, wu32, wu8, fdiv_nn, EO, ↓EP, EQ, EM, ↓reduceIte, Int.reduceAdd, Int.reduceEq, Int.reduceLE, Int.reduceLT, Int.reduceMul, Int.reduceNeg, Int.reducePow, Int.reduceSub, Int.reduceToNat, Nat.reduceAdd, Nat.reduceEqDiff, Nat.reduceLT, Nat.reduceLeDiff, Nat.reduceMul, reduceCtorEq]
  refine rsame_yes (R2.nb k39) (R3.nb k39) (fun t ht => by have := sbd.1 t ht; unfold Fit at this; omega) (by omega) _ fun w10 f10 => ?_
  simp (disch := omega) only [wu64, wu32, wu8, fdiv_nn, EO, ↓EP, EQ, EM, ↓reduceIte, Int.reduceAdd, Int.reduceEq, Int.reduceLE, Int.reduceLT, Int.reduceMul, Int.reduceNeg, Int.reducePow, Int.reduceSub, Int.reduceToNat, Nat.reduceAdd, Nat.reduceEqDiff, Nat.reduceLT, Nat.reduceLeDiff, Nat.reduceMul, reduceCtorEq]
  refine num_vw _ ?_
  simp (disch := omega) only [wu64, wu32, wu8, fdiv_nn, EO, ↓EP, EQ, EM, ↓reduceIte, Int.reduceAdd, Int.reduceEq, Int.reduceLE, Int.reduceLT, Int.reduceMul, Int.reduceNeg, Int.reducePow, Int.reduceSub, Int.reduceToNat, Nat.reduceAdd, Nat.reduceEqDiff, Nat.reduceLT, Nat.reduceLeDiff, Nat.reduceMul, reduceCtorEq]
  refine (B69.fr f10 (fun e => e)).ldAgg rfl ?_
  simp (disch := omega) only [wu64, wu32, wu8, fdiv_nn, EO, ↓EP, EQ, EM, ↓reduceIte, Int.reduceAdd, Int.reduceEq, Int.reduceLE, Int.reduceLT, Int.reduceMul, Int.reduceNeg, Int.reducePow, Int.reduceSub, Int.reduceToNat, Nat.reduceAdd, Nat.reduceEqDiff, Nat.reduceLT, Nat.reduceLeDiff, Nat.reduceMul, reduceCtorEq]
  refine bslTlv rfl rfl fun w11 n11 => ?_
  have g11 := n11.fr nob
  simp (disch := omega) only [wu64, wu32, wu8, fdiv_nn, EO, ↓EP, EQ, EM, ↓reduceIte, Int.reduceAdd, Int.reduceEq, Int.reduceLE, Int.reduceLT, Int.reduceMul, Int.reduceNeg, Int.reducePow, Int.reduceSub, Int.reduceToNat, Nat.reduceAdd, Nat.reduceEqDiff, Nat.reduceLT, Nat.reduceLeDiff, Nat.reduceMul, reduceCtorEq]
  refine ((B9.fr f10 (fun e => e)).fr g11 (fun e => e)).ldAgg rfl ?_
  simp (disch := omega) only [wu64, wu32, wu8, fdiv_nn, EO, ↓EP, EQ, EM, ↓reduceIte, Int.reduceAdd, Int.reduceEq, Int.reduceLE, Int.reduceLT, Int.reduceMul, Int.reduceNeg, Int.reducePow, Int.reduceSub, Int.reduceToNat, Nat.reduceAdd, Nat.reduceEqDiff, Nat.reduceLT, Nat.reduceLeDiff, Nat.reduceMul, reduceCtorEq]
  refine bslTlv rfl rfl fun w12 n12 => ?_
  have g12 := n12.fr nob
  simp (disch := omega) only [wu64, wu32, wu8, fdiv_nn, EO, ↓EP, EQ, EM, ↓reduceIte, Int.reduceAdd, Int.reduceEq, Int.reduceLE, Int.reduceLT, Int.reduceMul, Int.reduceNeg, Int.reducePow, Int.reduceSub, Int.reduceToNat, Nat.reduceAdd, Nat.reduceEqDiff, Nat.reduceLT, Nat.reduceLeDiff, Nat.reduceMul, reduceCtorEq]
  have k4 := (((f6.nb f7).nb f9).nb f10)
  have TA := tr_one n11 (h4d.nb (k4.nb g11)) (h4r.nb (k4.nb g11)) h4dc h4rc
  have TB := tr_one n12 (h7d.nb (((f9.nb f10).nb g11).nb g12)) (h7r.nb (((f9.nb f10).nb g11).nb g12)) h7dc h7rc
  refine rsame_yes (TA.nb g12) TB (fun t ht => by simp only [List.mem_singleton] at ht; subst ht; unfold Fit at obd; omega) (by simp) _ fun w13 f13 => ?_
  simp (disch := omega) only [wu64, wu32, wu8, fdiv_nn, EO, ↓EP, EQ, EM, ↓reduceIte, Int.reduceAdd, Int.reduceEq, Int.reduceLE, Int.reduceLT, Int.reduceMul, Int.reduceNeg, Int.reducePow, Int.reduceSub, Int.reduceToNat, Nat.reduceAdd, Nat.reduceEqDiff, Nat.reduceLT, Nat.reduceLeDiff, Nat.reduceMul, reduceCtorEq]
  refine num_vw _ ?_
  simp (disch := omega) only [wu64, wu32, wu8, fdiv_nn, EO, ↓EP, EQ, EM, ↓reduceIte, Int.reduceAdd, Int.reduceEq, Int.reduceLE, Int.reduceLT, Int.reduceMul, Int.reduceNeg, Int.reducePow, Int.reduceSub, Int.reduceToNat, Nat.reduceAdd, Nat.reduceEqDiff, Nat.reduceLT, Nat.reduceLeDiff, Nat.reduceMul, reduceCtorEq]
  have F13 := ((((F9.nb f10).nb g11).nb g12).nb f13)
  have k1 := ((((f23.nb k39).nb f10).nb g11).nb g12).nb f13
  refine Spec.kept_spec (L1.fr k1 (fun _ _ x => x)) rfl (hl.nb F13) (by omega) _ fun w14 f14 => ?_
  simp (disch := omega) only [wu64, wu32, wu8, fdiv_nn, EO, ↓EP, EQ, EM, ↓reduceIte, Int.reduceAdd, Int.reduceEq, Int.reduceLE, Int.reduceLT, Int.reduceMul, Int.reduceNeg, Int.reducePow, Int.reduceSub, Int.reduceToNat, Nat.reduceAdd, Nat.reduceEqDiff, Nat.reduceLT, Nat.reduceLeDiff, Nat.reduceMul, reduceCtorEq]
  refine live_vw (hT.nb (F13.nb f14)) _ fun w15 f15 => ?_
  simp (disch := omega) only [wu64, wu32, wu8, fdiv_nn, EO, ↓EP, EQ, EM, ↓reduceIte, Int.reduceAdd, Int.reduceEq, Int.reduceLE, Int.reduceLT, Int.reduceMul, Int.reduceNeg, Int.reducePow, Int.reduceSub, Int.reduceToNat, Nat.reduceAdd, Nat.reduceEqDiff, Nat.reduceLT, Nat.reduceLeDiff, Nat.reduceMul, reduceCtorEq]
  exact hK w15 ((F13.nb f14).nb f15)
end Go.Proofs.YtcflokckfjkdpaaDoor.Der

/- The helpers of the statements: bytes that are written over. -/
set_option linter.unusedVariables false
set_option linter.unusedSimpArgs false
namespace Go.Proofs.YtcflokckfjkdpaaDoor.Spec
open Go Go.RowKit Go.Proofs Go.Proofs.YtcflokckfjkdpaaDoor.Eng Go.Proofs.YtcflokckfjkdpaaDoor.Code
set_option maxRecDepth 100000

def spoilt (l : List Int) : List Int := l.map fun x => bits .xor .u8 x 60
theorem spoil_step (l r : List Int) (k : Nat) (h : k < l.length) : (spoilt (l.take k) ++ l.drop k ++ r).set k (bits .xor .u8 (at' l k) 60) = spoilt (l.take (k + 1)) ++ l.drop (k + 1) ++ r := by
  have hk : (spoilt (l.take k)).length = k := by simp [spoilt]; omega
  rw [List.append_assoc, List.set_append_right _ _ (by omega), hk, Nat.sub_self, List.drop_eq_getElem_cons h]
  simp only [List.cons_append, List.set_cons_zero]
  rw [List.take_add_one, List.getElem?_eq_getElem h]
  have e : at' l k = l[k] := by simp [at', h]
  rw [e]
  simp only [spoilt, Option.toList_some, List.map_append, List.map_cons, List.map_nil, List.append_assoc, List.cons_append, List.nil_append]
theorem spoil_spec {w : World} {v : Value} {l : List Int} (hl : Sl .u8 w v l) (h63 : l.length ≤ 4611686018427387904) (K : Value → World → Prop)
    (hK : ∀ w', Sl .u8 w' v (spoilt l) → Fr w w' (fun b => blkOf v = some b) → K (.tuple #[]) w') : callK Tryd.prog 26 [v] w K := by
  refine call_of Tryd.func26 Code.h26 (by simp [Code.c26]) ?_
  rcases hl with ⟨rfl, rfl⟩ | ⟨b, pad, rfl, hB⟩
  · simp (disch := omega) only [EO, ↓EP, EQ, EM, ↓reduceIte, Int.reduceAdd, Int.reduceEq, Int.reduceLE, Int.reduceLT, Int.reduceMul, Int.reduceNeg, Int.reducePow, Int.reduceSub, Int.reduceToNat, Nat.reduceAdd, Nat.reduceEqDiff, Nat.reduceLT, Nat.reduceLeDiff, Nat.reduceMul, reduceCtorEq, Code.c26]
    refine loop_inv (fun t ρ w' => w' = w ∧ ρ 2 = .int .i64 0) 0 ⟨rfl, by simp (disch := omega) only [EO, ↓EP, EQ, EM, ↓reduceIte, Int.reduceAdd, Int.reduceEq, Int.reduceLE, Int.reduceLT, Int.reduceMul, Int.reduceNeg, Int.reducePow, Int.reduceSub, Int.reduceToNat, Nat.reduceAdd, Nat.reduceEqDiff, Nat.reduceLT, Nat.reduceLeDiff, Nat.reduceMul, reduceCtorEq]⟩ ?_
    rintro t ρ w' hf ⟨rfl, h2⟩ N hN
    have r0 : ρ 0 = .slice none 0 0 := by rw [hf 0 rfl]; simp only [↓EP, EQ, EM, ↓reduceIte, Int.reduceAdd, Int.reduceEq, Int.reduceLE, Int.reduceLT, Int.reduceMul, Int.reduceNeg, Int.reducePow, Int.reduceSub, Int.reduceToNat, Nat.reduceAdd, Nat.reduceEqDiff, Nat.reduceLT, Nat.reduceLeDiff, Nat.reduceMul, reduceCtorEq]
    simp (disch := omega) only [EO, ↓EP, EQ, EM, ↓reduceIte, Int.reduceAdd, Int.reduceEq, Int.reduceLE, Int.reduceLT, Int.reduceMul, Int.reduceNeg, Int.reducePow, Int.reduceSub, Int.reduceToNat, Nat.reduceAdd, Nat.reduceEqDiff, Nat.reduceLT, Nat.reduceLeDiff, Nat.reduceMul, reduceCtorEq, h2, r0]
    exact hK w' (Sl.nil _ _) (Fr.refl _ _)
  · simp (disch := omega) only [EO, ↓EP, EQ, EM, ↓reduceIte, Int.reduceAdd, Int.reduceEq, Int.reduceLE, Int.reduceLT, Int.reduceMul, Int.reduceNeg, Int.reducePow, Int.reduceSub, Int.reduceToNat, Nat.reduceAdd, Nat.reduceEqDiff, Nat.reduceLT, Nat.reduceLeDiff, Nat.reduceMul, reduceCtorEq, Code.c26]
    refine loop_inv (fun t ρ w' => ∃ k : Nat, ρ 2 = .int .i64 k ∧ k ≤ l.length ∧ t = l.length - k ∧ Blk w' b (nums .u8 (spoilt (l.take k) ++ l.drop k ++ pad)) ∧ Fr w w' (fun x => x = b)) _ ⟨0, by simp (disch := omega) only [EO, ↓EP, EQ, EM, ↓reduceIte, Int.reduceAdd, Int.reduceEq, Int.reduceLE, Int.reduceLT, Int.reduceMul, Int.reduceNeg, Int.reducePow, Int.reduceSub, Int.reduceToNat, Nat.reduceAdd, Nat.reduceEqDiff, Nat.reduceLT, Nat.reduceLeDiff, Nat.reduceMul, reduceCtorEq], by omega, rfl, by simpa [spoilt] using hB, Fr.refl _ _⟩ ?_
    rintro t ρ w' hf ⟨k, h2, hk, rfl, hB', f⟩ N hN
    have r0 : ρ 0 = .slice (some ⟨b, 0, none⟩) l.length (l.length + pad.length) := by rw [hf 0 rfl]; simp only [↓EP, EQ, EM, ↓reduceIte, Int.reduceAdd, Int.reduceEq, Int.reduceLE, Int.reduceLT, Int.reduceMul, Int.reduceNeg, Int.reducePow, Int.reduceSub, Int.reduceToNat, Nat.reduceAdd, Nat.reduceEqDiff, Nat.reduceLT, Nat.reduceLeDiff, Nat.reduceMul, reduceCtorEq]
    clear hf
    have hlen : (spoilt (l.take k) ++ l.drop k ++ pad).length = l.length + pad.length := by simp [spoilt]; omega
    by_cases hkl : (k : Int) < (l.length : Int)
    · have c0 := hB'.numN (j := k) (by omega)
      have e0 : at' (spoilt (l.take k) ++ l.drop k ++ pad) k = at' l k := by
        unfold at'
        rw [Int.toNat_natCast, List.getD_eq_getElem?_getD, List.append_assoc, List.getElem?_append_right (by simp [spoilt]; omega), List.getElem?_append_left (by simp [spoilt]; omega)]
        simp [spoilt, List.getElem?_drop, Nat.min_eq_left hk]
      rw [e0] at c0
      simp (disch := omega) only [EO, ↓EP, EQ, EM, ↓reduceIte, Int.reduceAdd, Int.reduceEq, Int.reduceLE, Int.reduceLT, Int.reduceMul, Int.reduceNeg, Int.reducePow, Int.reduceSub, Int.reduceToNat, Nat.reduceAdd, Nat.reduceEqDiff, Nat.reduceLT, Nat.reduceLeDiff, Nat.reduceMul, reduceCtorEq, h2, r0, c0]
      refine st_num hB' (by omega) fun w2 p2 => ?_
      rw [spoil_step l pad k (by omega)] at p2
      simp (disch := omega) only [EO, ↓EP, EQ, EM, ↓reduceIte, Int.reduceAdd, Int.reduceEq, Int.reduceLE, Int.reduceLT, Int.reduceMul, Int.reduceNeg, Int.reducePow, Int.reduceSub, Int.reduceToNat, Nat.reduceAdd, Nat.reduceEqDiff, Nat.reduceLT, Nat.reduceLeDiff, Nat.reduceMul, reduceCtorEq, h2]
      exact hN (l.length - (k + 1)) _ _ (by omega) ⟨k + 1, by simp (disch := omega) only [EO, ↓EP, EQ, EM, ↓reduceIte, Int.reduceAdd, Int.reduceEq, Int.reduceLE, Int.reduceLT, Int.reduceMul, Int.reduceNeg, Int.reducePow, Int.reduceSub, Int.reduceToNat, Nat.reduceAdd, Nat.reduceEqDiff, Nat.reduceLT, Nat.reduceLeDiff, Nat.reduceMul, reduceCtorEq, h2, Int.natCast_add], by omega, rfl, p2.blk, f.trans p2.fr fun _ _ x => x⟩
    · simp (disch := omega) only [EO, ↓EP, EQ, EM, ↓reduceIte, Int.reduceAdd, Int.reduceEq, Int.reduceLE, Int.reduceLT, Int.reduceMul, Int.reduceNeg, Int.reducePow, Int.reduceSub, Int.reduceToNat, Nat.reduceAdd, Nat.reduceEqDiff, Nat.reduceLT, Nat.reduceLeDiff, Nat.reduceMul, reduceCtorEq, h2, r0]
      have hkl : k = l.length := by omega
      subst hkl
      refine hK w' (.inr ⟨b, pad, by simp [spoilt], by simpa using hB'⟩) (f.mono fun x _ e => by subst e; rfl)
end Go.Proofs.YtcflokckfjkdpaaDoor.Spec

/- The statement on new memory, walked. -/
set_option linter.unusedVariables false
set_option linter.unusedSimpArgs false
namespace Go.Proofs.YtcflokckfjkdpaaDoor.Der
open Go Go.RowKit Go.Proofs Go.Proofs.YtcflokckfjkdpaaDoor.Eng Go.Proofs.YtcflokckfjkdpaaDoor.Code
set_option maxRecDepth 100000
attribute [local irreducible] callK S.W opsW scrW scrT

/-- An append: in the row's own block, or in a new one. -/
structure Apk (k : IntKind) (w : World) (A : Option Addr) (n c : Nat) (l : List Int) (v : Value) (w' : World) : Prop where
  sl : Sl k w' v l
  or : (v = .slice A l.length c ∧ Fr w w' (fun b => blkOf (.slice A n c) = some b)) ∨ (freshV w v ∧ Fr w w' nob)
theorem app_keep {k : IntKind} {e bytes : Nat} {w : World} {A B : Option Addr} {n c m d : Nat} {l l' : List Int} {K : Value → World → Prop} (hx : Sl k w (.slice A n c) l) (hm : l'.length = m) (hy : Rd w B (nums k l'))
    (hs : (l.length + l'.length) * bytes ≤ 140737488355328) (hb : 0 < bytes) (hK : ∀ v w', Apk k w A n c (l ++ l') v w' → K v w') : appK e 1 bytes #[.int k 0] (.slice A n c) (.slice B m d) w K := by
  refine ⟨nums k l', by rw [nums_length]; omega, fun h0 => hy.cells (by rw [nums_length]; omega), ?_⟩
  have hn : n = l.length := by
    rcases hx with ⟨rfl, e⟩ | ⟨b, pad, e, _⟩ <;> cases e <;> rfl
  subst hn
  subst hm
  constructor
  · intro hc
    by_cases h0 : l'.length = 0
    · refine .inl ⟨h0, hK _ _ ⟨?_, .inl ⟨?_, Fr.refl _ _⟩⟩⟩
      · rw [List.length_eq_zero_iff.1 h0, List.append_nil]; exact hx
      · rw [List.length_eq_zero_iff.1 h0, List.append_nil]
    · rcases hx with ⟨rfl, e⟩ | ⟨b, pad, e, hB⟩
      · cases e; exact absurd hc (by simp only [List.length_nil]; omega)
      · cases e
        have hlp : l'.length ≤ pad.length := by omega
        refine .inr ⟨b, 0, rfl, nums_one _ _, fun j hj => ?_, fun j hj => hB.frozen _, hK _ _ ?_⟩
        · rw [nums_length] at hj
          exact hB.isSome (by rw [nums_length, List.length_append]; omega)
        · have hp := put_cells hB (0 + l.length * 1) (nums k l') (by simp only [nums_length, List.length_append]; omega)
          have e : (nums k (l ++ pad)).take (0 + l.length * 1) ++ nums k l' ++ (nums k (l ++ pad)).drop (0 + l.length * 1 + (nums k l').length) = nums k ((l ++ l') ++ pad.drop l'.length) := by
            rw [nums_length, nums_take, nums_drop, nums_append k (l ++ l'), nums_append k l l']
            have e1 : (l ++ pad).take (0 + l.length * 1) = l := by simp
            have e2 : (l ++ pad).drop (0 + l.length * 1 + l'.length) = pad.drop l'.length := by rw [List.drop_append]; simp
            rw [e1, e2]
          rw [e] at hp
          refine ⟨.inr ⟨b, pad.drop l'.length, ?_, hp.blk⟩, .inl ⟨?_, ?_⟩⟩
          · simp only [List.length_append, List.length_drop]
            congr 1; omega
          · simp only [List.length_append]
          · exact hp.fr.mono fun x _ hx => by subst hx; rfl
  · intro hc
    refine ⟨nums k l, by simp [nums_length], fun h0 => ?_, by omega, ?_, hb, fun c' h1 h2 => hK _ _ ?_⟩
    · rcases hx with ⟨rfl, e⟩ | ⟨b, pad, e, hB⟩
      · simp at h0
      · cases e
        have : Rd w (some ⟨b, 0, none⟩) (nums k l) := hB.rd 0 (n := l.length) (by rw [List.drop_zero, nums_take]; simp)
        exact this.cells (by rw [nums_length]; exact h0)
    · have : l.length + l'.length ≤ (l.length + l'.length) * bytes := Nat.le_mul_of_pos_right _ hb
      omega
    · have hz : ((nums k l ++ nums k l').toArray ++ Builtin.zeroCells #[.int k 0] (c' - (l.length + l'.length))).toList = nums k ((l ++ l') ++ List.replicate (c' - (l.length + l'.length)) 0) := by
        rw [Array.toList_append, zeroCells_list, nums_append, nums_append, nums_replicate]
      have hN := new_of (w := w.drew) (t := e) rfl hz
      refine ⟨.inr ⟨w.heap.size, List.replicate (c' - (l.length + l'.length)) 0, ?_, hN.blk⟩, .inr ⟨fun b hb => ?_, ?_⟩⟩
      · simp only [List.length_append, List.length_replicate]
        congr 1; omega
      · cases hb; exact Nat.le_refl _
      · have f := hN.fr nob
        exact ⟨(below_drewN' (Below.refl 0 w) 1).trans f.base, fun b h1 h2 => f.block b h1 h2⟩
theorem Apk.fr {k : IntKind} {w w' : World} {A : Option Addr} {n c : Nat} {l : List Int} {v : Value} (a : Apk k w A n c l v w') : Fr w w' (fun b => blkOf (.slice A n c) = some b) := by
  rcases a.or with ⟨_, f⟩ | ⟨_, f⟩
  · exact f
  · exact f.mono fun b _ h => h.elim
/-- Behind the append and a change of what it gave, the row is a row still. -/
theorem Apk.still {w w1 w2 : World} {A : Option Addr} {n c : Nat} {l l2 : List Int} {v : Value} (h : Sl .u8 w (.slice A n c) l) (a : Apk .u8 w A n c (l ++ [1, 2, 3]) v w1) (s : Sl .u8 w2 v l2) (hl : l2.length = l.length + 3) (f : Fr w1 w2 (fun b => blkOf v = some b)) :
    ∃ q, q.length = l.length ∧ Sl .u8 w2 (.slice A n c) q := by
  have hn : n = l.length := by
    rcases h with ⟨rfl, e⟩ | ⟨b, pad, e, _⟩ <;> cases e <;> rfl
  rcases a.or with ⟨rfl, _⟩ | ⟨hf, f1⟩
  · rcases s with ⟨rfl, _⟩ | ⟨b, pad, e, hB⟩
    · simp at hl
    · have e1 := e
      simp only [Value.slice.injEq] at e1
      obtain ⟨rfl, e2, e3⟩ := e1
      refine ⟨(l2 ++ pad).take l.length, by simp; omega, .inr ⟨b, (l2 ++ pad).drop l.length, ?_, by rw [List.take_append_drop]; exact hB⟩⟩
      rw [hn, e3]
      congr 1
      · simp; omega
      · simp; omega
  · refine ⟨l, rfl, (h.nb f1).fr f fun b hb hv => ?_⟩
    have h1 := hf b hv
    have h2 := h.lt hb
    omega
theorem blkOf_n (A : Option Addr) (n c m d : Nat) : blkOf (.slice A n c) = blkOf (.slice A m d) := by cases A <;> rfl
theorem spoilt_len (l : List Int) : (Spec.spoilt l).length = l.length := by simp [Spec.spoilt]
/-- The blocks that may have changed when i elements are spoilt. -/
def Hit (cv : Value) (vs : List Value) (i : Nat) (b : Nat) : Prop := blkOf cv = some b ∨ ∃ k v, k < i ∧ vs[k]? = some v ∧ blkOf v = some b
theorem Hit.mono {cv : Value} {vs : List Value} {i j b : Nat} (h : i ≤ j) (x : Hit cv vs i b) : Hit cv vs j b := by
  rcases x with x | ⟨k, v, hk, h1, h2⟩
  · exact .inl x
  · exact .inr ⟨k, v, by omega, h1, h2⟩
theorem updO_some (ρ : Env) (d : Nat) (v : Value) : updO ρ (some d) v = upd ρ d v := rfl
theorem r_pick (c a b : Operand) (ρ : Env) (w : World) (K : Value → Prop) : rW (.pick c a b) ρ w K = boolK (ev ρ c) fun t => letK (if t then ev ρ a else ev ρ b) K := rfl
theorem bsl3' {e : Nat} {w : World} {K : Value → World → Prop} (hK : ∀ w', New w w' (nums .u8 [1, 2, 3]) → K (.slice (some ⟨w.heap.size, 0, none⟩) 3 3) w') : bslT e 1 3 #[.int .u8 0] [(0, .int .u8 1), (1, .int .u8 2), (2, .int .u8 3)] w K .mk := bsl3 hK
set_option maxHeartbeats 4000000 in
theorem derown_vw {w : World} (hT : TbP w) {A : Option Addr} {n c : Nat} {l : List Int} (hn : l.length = n) (hc : n ≤ c) (hl : Rd w A (nums .u8 l)) (hb : ByteL l) (K : Value → World → Prop)
    (hK : ∀ w', Fr w w' nob → K (.bool true) w') : callK Tryd.prog 5 [.slice A n c] w K := by
  subst hn
  refine call_of Tryd.func5 Code.h5 (by simp [Code.c5]) ?_
  by_cases hm : (2000 : Int) < (l.length : Int)
  · simp (disch := omega) only [wu64, wu32, wu8, fdiv_nn, EO, ↓EP, EQ, EM, ↓reduceIte, Int.reduceAdd, Int.reduceEq, Int.reduceLE, Int.reduceLT, Int.reduceMul, Int.reduceNeg, Int.reducePow, Int.reduceSub, Int.reduceToNat, Nat.reduceAdd, Nat.reduceEqDiff, Nat.reduceLT, Nat.reduceLeDiff, Nat.reduceMul, reduceCtorEq, Code.c5]
    refine live_vw hT _ fun w1 f1 => ?_
    simp (disch := omega) only [wu64, wu32, wu8, fdiv_nn, EO, ↓EP, EQ, EM, ↓reduceIte, Int.reduceAdd, Int.reduceEq, Int.reduceLE, Int.reduceLT, Int.reduceMul, Int.reduceNeg, Int.reducePow, Int.reduceSub, Int.reduceToNat, Nat.reduceAdd, Nat.reduceEqDiff, Nat.reduceLT, Nat.reduceLeDiff, Nat.reduceMul, reduceCtorEq]
    exact hK w1 f1
  have sbd := split_bd l
  simp (disch := omega) only [wu64, wu32, wu8, fdiv_nn, EO, ↓EP, EQ, EM, ↓reduceIte, Int.reduceAdd, Int.reduceEq, Int.reduceLE, Int.reduceLT, Int.reduceMul, Int.reduceNeg, Int.reducePow, Int.reduceSub, Int.reduceToNat, Nat.reduceAdd, Nat.reduceEqDiff, Nat.reduceLT, Nat.reduceLeDiff, Nat.reduceMul, reduceCtorEq, Code.c5]
  refine al_k (nums .u8 []) rfl fun wa na => ?_
  have ga := new_gw na
  simp (disch := omega) only [wu64, wu32, wu8, fdiv_nn, EO, ↓EP, EQ, EM, ↓reduceIte, Int.reduceAdd, Int.reduceEq, Int.reduceLE, Int.reduceLT, Int.reduceMul, Int.reduceNeg, Int.reducePow, Int.reduceSub, Int.reduceToNat, Nat.reduceAdd, Nat.reduceEqDiff, Nat.reduceLT, Nat.reduceLeDiff, Nat.reduceMul, reduceCtorEq]
  refine app_ns ga.sl rfl (hl.nb ga.fr) (by simp; omega) (by omega) (N := l.length) (by simp) fun cA cc w1 a1 => ?_
  have g1 := ga.apd a1
  rw [List.nil_append] at g1
  simp (disch := omega) only [wu64, wu32, wu8, fdiv_nn, EO, ↓EP, EQ, EM, ↓reduceIte, Int.reduceAdd, Int.reduceEq, Int.reduceLE, Int.reduceLT, Int.reduceMul, Int.reduceNeg, Int.reducePow, Int.reduceSub, Int.reduceToNat, Nat.reduceAdd, Nat.reduceEqDiff, Nat.reduceLT, Nat.reduceLeDiff, Nat.reduceMul, reduceCtorEq]
  refine split_vw g1.vw hb (by omega) _ fun X vs w2 T2 => ?_
  simp only [tup3]
  simp (disch := omega) only [wu64, wu32, wu8, fdiv_nn, EO, ↓EP, EQ, EM, ↓reduceIte, Int.reduceAdd, Int.reduceEq, Int.reduceLE, Int.reduceLT, Int.reduceMul, Int.reduceNeg, Int.reducePow, Int.reduceSub, Int.reduceToNat, Nat.reduceAdd, Nat.reduceEqDiff, Nat.reduceLT, Nat.reduceLeDiff, Nat.reduceMul, reduceCtorEq]
  refine split_vw (Vw.of rfl hc (hl.nb (g1.fr.nb T2.g.fr))) hb (by omega) _ fun Y us w3 T3 => ?_
  simp only [tup3]
  simp (disch := omega) only [wu64, wu32, wu8, fdiv_nn, EO, ↓EP, EQ, EM, ↓reduceIte, Int.reduceAdd, Int.reduceEq, Int.reduceLE, Int.reduceLT, Int.reduceMul, Int.reduceNeg, Int.reducePow, Int.reduceSub, Int.reduceToNat, Nat.reduceAdd, Nat.reduceEqDiff, Nat.reduceLT, Nat.reduceLeDiff, Nat.reduceMul, reduceCtorEq]
  have f3 := (g1.fr.nb T2.g.fr).nb T3.g.fr
  have g3 := g1.sl.nb (T2.g.fr.nb T3.g.fr)
  have z1 := T2.g.fr.size
  have z2 := T3.g.fr.size
  have z0 := g1.fr.size
  refine Spec.spoil_spec g3 (by omega) _ fun w4 s4 f4 => ?_
  have cup : ∀ b, blkOf (.slice cA l.length cc) = some b → w.heap.size ≤ b ∧ b < w1.heap.size := fun b h => ⟨g1.up b h, g1.sl.lt h⟩
  generalize hsp : (splitR l).1 = ts at T2 T3 sbd
  generalize (splitR l).2.1 = e at *
  generalize (splitR l).2.2 = at_ at *
  -- what a world keeps in which only the blocks of i elements have changed
  have hitlt : ∀ i b, Hit (.slice cA l.length cc) vs i b → w.heap.size ≤ b ∧ b < w2.heap.size := fun i b h => by
    rcases h with h | ⟨k, v, _, h1, h2⟩
    · have := cup b h; omega
    · have := T2.r.up k v b h1 h2; omega
  have keepX : ∀ i w5, Fr w3 w5 (Hit (.slice cA l.length cc) vs i) → Sg 5 w5 X ts.length (cellsT ts vs) := fun i w5 f => by
    refine ((T2.g.sl.nb T3.g.fr)).fr f fun b hb h => ?_
    rcases h with h | ⟨k, v, _, h1, h2⟩
    · have := cup b h; have := T2.g.up b hb; omega
    · exact (T2.r.up k v b h1 h2).2.2 hb
  have keepV : ∀ i w5, Fr w3 w5 (Hit (.slice cA l.length cc) vs i) → ∀ k v q, i ≤ k → vs[k]? = some v → (tflat ts)[k]? = some q → Sl .u8 w5 v q := fun i w5 f k v q hk h1 h2 => by
    refine ((T2.r.each k v q h1 h2).nb T3.g.fr).fr f fun b hb h => ?_
    rcases h with h | ⟨j, u, hj, h3, h4⟩
    · have := cup b h; have := (T2.r.up k v b h1 hb).1; omega
    · exact T2.r.apart j k u v b (by omega) h3 h1 h4 hb
  have keepY : ∀ i w5, Fr w3 w5 (Hit (.slice cA l.length cc) vs i) → TR w5 Y ts := fun i w5 f => by
    have hy := T3.g.sl.fr f fun b hb h => by have := T3.g.up b hb; have := hitlt i b h; omega
    obtain ⟨YA, yc, e, hyc, hyr⟩ := hy.read
    exact ⟨YA, yc, us, e, hyc, hyr, T3.vlen, fun k v q h1 h2 => ((T3.r.each k v q h1 h2).fr f fun b hb h => by have := (T3.r.up k v b h1 hb).1; have := hitlt i b h; omega).vw⟩
  have keepL : ∀ i w5, Fr w3 w5 (Hit (.slice cA l.length cc) vs i) → Fr w w5 nob := fun i w5 f => f3.trans f fun x hx h => by have := hitlt i x h; omega
  have k4 : Fr w3 w4 (Hit (.slice cA l.length cc) vs 0) := f4.mono fun b _ h => .inl h
  have trX : ∀ w5, Fr w3 w5 (Hit (.slice cA l.length cc) vs 0) → TR w5 X ts := fun w5 f => by
    obtain ⟨XA, xc, e, hxc, hxr⟩ := (keepX 0 w5 f).read
    exact ⟨XA, xc, vs, e, hxc, hxr, T2.vlen, fun k v q h1 h2 => (keepV 0 w5 f k v q (by omega) h1 h2).vw⟩
  have hfit : ∀ t ∈ ts, t.data.length ≤ 4611686018427387904 ∧ t.raw.length ≤ 4611686018427387904 := fun t ht => by have := sbd.1 t ht; unfold Fit at this; omega
  have hvl := T2.vlen
  obtain ⟨XA, xc, rfl, hxc, _⟩ := T2.g.sl.read
  obtain ⟨YA, yc, rfl, hyc, _⟩ := T3.g.sl.read
  simp (disch := omega) only [wu64, wu32, wu8, fdiv_nn, EO, ↓EP, EQ, EM, ↓reduceIte, Int.reduceAdd, Int.reduceEq, Int.reduceLE, Int.reduceLT, Int.reduceMul, Int.reduceNeg, Int.reducePow, Int.reduceSub, Int.reduceToNat, Nat.reduceAdd, Nat.reduceEqDiff, Nat.reduceLT, Nat.reduceLeDiff, Nat.reduceMul, reduceCtorEq]
  refine rsame_yes (trX w4 k4) (keepY 0 w4 k4) hfit (by omega) _ fun w5 f5 => ?_
  have k5 : Fr w3 w5 (Hit (.slice cA l.length cc) vs 0) := k4.trans f5 fun _ _ h => h.elim
  simp (disch := omega) only [wu64, wu32, wu8, fdiv_nn, EO, ↓EP, EQ, EM, ↓reduceIte, Int.reduceAdd, Int.reduceEq, Int.reduceLE, Int.reduceLT, Int.reduceMul, Int.reduceNeg, Int.reducePow, Int.reduceSub, Int.reduceToNat, Nat.reduceAdd, Nat.reduceEqDiff, Nat.reduceLT, Nat.reduceLeDiff, Nat.reduceMul, reduceCtorEq, Bool.not_true]
  refine loop_inv (fun t ρ w6 => ∃ i : Nat, ρ 10 = .int .i64 i ∧ i ≤ ts.length ∧ t = ts.length - i ∧ Fr w3 w6 (Hit (.slice cA l.length cc) vs (2 * i))) ts.length ⟨0, by simp (disch := omega) only [wu64, wu32, wu8, fdiv_nn, EO, ↓EP, EQ, EM, ↓reduceIte, Int.reduceAdd, Int.reduceEq, Int.reduceLE, Int.reduceLT, Int.reduceMul, Int.reduceNeg, Int.reducePow, Int.reduceSub, Int.reduceToNat, Nat.reduceAdd, Nat.reduceEqDiff, Nat.reduceLT, Nat.reduceLeDiff, Nat.reduceMul, reduceCtorEq], by omega, by omega, k5⟩ ?_
  rintro t ρ w6 hf ⟨i, h10, hi, rfl, k6⟩ N hN
  have r0 : ρ 0 = .slice A l.length c := by rw [hf 0 rfl]; simp (disch := omega) only [wu64, wu32, wu8, fdiv_nn, EO, ↓EP, EQ, EM, ↓reduceIte, Int.reduceAdd, Int.reduceEq, Int.reduceLE, Int.reduceLT, Int.reduceMul, Int.reduceNeg, Int.reducePow, Int.reduceSub, Int.reduceToNat, Nat.reduceAdd, Nat.reduceEqDiff, Nat.reduceLT, Nat.reduceLeDiff, Nat.reduceMul, reduceCtorEq]
  have r4 : ρ 4 = .slice XA ts.length xc := by rw [hf 4 rfl]; simp (disch := omega) only [wu64, wu32, wu8, fdiv_nn, EO, ↓EP, EQ, EM, ↓reduceIte, Int.reduceAdd, Int.reduceEq, Int.reduceLE, Int.reduceLT, Int.reduceMul, Int.reduceNeg, Int.reducePow, Int.reduceSub, Int.reduceToNat, Nat.reduceAdd, Nat.reduceEqDiff, Nat.reduceLT, Nat.reduceLeDiff, Nat.reduceMul, reduceCtorEq]
  have r7 : ρ 7 = .slice YA ts.length yc := by rw [hf 7 rfl]; simp (disch := omega) only [wu64, wu32, wu8, fdiv_nn, EO, ↓EP, EQ, EM, ↓reduceIte, Int.reduceAdd, Int.reduceEq, Int.reduceLE, Int.reduceLT, Int.reduceMul, Int.reduceNeg, Int.reducePow, Int.reduceSub, Int.reduceToNat, Nat.reduceAdd, Nat.reduceEqDiff, Nat.reduceLT, Nat.reduceLeDiff, Nat.reduceMul, reduceCtorEq]
  clear hf
  by_cases hil : (i : Int) < (ts.length : Int)
  · obtain ⟨d, r, h1, h2, h3, h4, h5⟩ := cellsT_at ts vs i hvl (by omega)
    have hfi := sbd.1 ts[i] (List.getElem_mem (by omega))
    unfold Fit at hfi
    have Sd := keepV _ w6 k6 (2 * i) d _ (Nat.le_refl _) h1 h4
    have Sr := keepV _ w6 k6 (2 * i + 1) r _ (by omega) h2 h5
    obtain ⟨dA, dc, rfl, hdc, _⟩ := readn Sd rfl
    obtain ⟨rA, rc, rfl, hrc, _⟩ := readn Sr rfl
    have cellX : ∀ w7 j, Fr w3 w7 (Hit (.slice cA l.length cc) vs j) → ∃ ad, XA = some ad ∧ w7.cell? (ad.add (i * 5 + 3)) = some (.slice dA ts[i].data.length dc) ∧ w7.cell? (ad.add (i * 5 + 4)) = some (.slice rA ts[i].raw.length rc) := fun w7 j f => by
      obtain ⟨A', c', e, _, hr⟩ := (keepX j w7 f).read
      cases e
      have e3 := congrArg (fun q => q[3]?) h3
      have e4 := congrArg (fun q => q[4]?) h3
      simp only [List.getElem?_drop] at e3 e4
      obtain ⟨ad, ea, q3⟩ := hr.at (e3.trans rfl)
      obtain ⟨ad', ea', q4⟩ := hr.at (e4.trans rfl)
      cases ea
      cases ea'
      exact ⟨ad, rfl, q3, q4⟩
    obtain ⟨xad, rfl, c3, c4⟩ := cellX w6 _ k6
    have e1 : ((i : Int) + 1).toNat = i + 1 := by omega
    simp (disch := omega) only [wu64, wu32, wu8, fdiv_nn, EO, ↓EP, EQ, EM, ↓reduceIte, Int.reduceAdd, Int.reduceEq, Int.reduceLE, Int.reduceLT, Int.reduceMul, Int.reduceNeg, Int.reducePow, Int.reduceSub, Int.reduceToNat, Nat.reduceAdd, Nat.reduceEqDiff, Nat.reduceLT, Nat.reduceLeDiff, Nat.reduceMul, reduceCtorEq, h10, r4, r7, c3, addr_add]
    refine bsl3' fun w7 n7 => ?_
    have k7 := k6.trans (n7.fr nob) (fun _ _ h => h.elim)
    simp (disch := omega) only [wu64, wu32, wu8, fdiv_nn, EO, ↓EP, EQ, EM, ↓reduceIte, Int.reduceAdd, Int.reduceEq, Int.reduceLE, Int.reduceLT, Int.reduceMul, Int.reduceNeg, Int.reducePow, Int.reduceSub, Int.reduceToNat, Nat.reduceAdd, Nat.reduceEqDiff, Nat.reduceLT, Nat.reduceLeDiff, Nat.reduceMul, reduceCtorEq, h10, r4, r7]
    refine app_keep (Sd.nb (n7.fr nob)) rfl n7.rdv (by simp; omega) (by omega) fun v8 w8 a8 => ?_
    have z7 := k7.size
    have k8 : Fr w3 w8 (Hit (.slice cA l.length cc) vs (2 * i + 1)) := (k7.mono fun b _ h => h.mono (by omega)).trans a8.fr fun b hb h => .inr ⟨2 * i, _, by omega, h1, h⟩
    simp (disch := omega) only [wu64, wu32, wu8, fdiv_nn, EO, ↓EP, EQ, EM, ↓reduceIte, Int.reduceAdd, Int.reduceEq, Int.reduceLE, Int.reduceLT, Int.reduceMul, Int.reduceNeg, Int.reducePow, Int.reduceSub, Int.reduceToNat, Nat.reduceAdd, Nat.reduceEqDiff, Nat.reduceLT, Nat.reduceLeDiff, Nat.reduceMul, reduceCtorEq, h10, r4, r7]
    refine Spec.spoil_spec a8.sl (by simp; omega) _ fun w9 s9 f9 => ?_
    have k9 : Fr w3 w9 (Hit (.slice cA l.length cc) vs (2 * i + 1)) := k8.trans f9 fun b hb h => by
      rcases a8.or with ⟨hv, _⟩ | ⟨hv, _⟩
      · refine .inr ⟨2 * i, _, by omega, h1, ?_⟩
        rw [hv] at h
        rw [← h]
        exact blkOf_n _ _ _ _ _
      · have := hv b h
        omega
    obtain ⟨q, hq, Sq⟩ := Apk.still (Sd.nb (n7.fr nob)) a8 s9 (by rw [spoilt_len]; simp) f9
    obtain ⟨ad', e', c3', _⟩ := cellX w9 _ k9
    cases e'
    simp (disch := omega) only [wu64, wu32, wu8, fdiv_nn, EO, ↓EP, EQ, EM, ↓reduceIte, Int.reduceAdd, Int.reduceEq, Int.reduceLE, Int.reduceLT, Int.reduceMul, Int.reduceNeg, Int.reducePow, Int.reduceSub, Int.reduceToNat, Nat.reduceAdd, Nat.reduceEqDiff, Nat.reduceLT, Nat.reduceLeDiff, Nat.reduceMul, reduceCtorEq, h10, r4, r7, c3', addr_add]
    refine Spec.spoil_spec Sq (by omega) _ fun w10 s10 f10 => ?_
    have k10 : Fr w3 w10 (Hit (.slice cA l.length cc) vs (2 * i + 1)) := k9.trans f10 fun b hb h => .inr ⟨2 * i, _, by omega, h1, h⟩
    obtain ⟨ad', e', _, c4a⟩ := cellX w10 _ k10
    cases e'
    have Sr10 := keepV _ w10 k10 (2 * i + 1) _ _ (Nat.le_refl _) h2 h5
    obtain ⟨yad, eA, ec, sA, sc, e', _, _, hsc, _, hsR, hcy⟩ := (keepY _ w10 k10).at (i := i) (by omega)
    cases e'
    have cy : w10.cell? ((yad.add (i * 5)).add 4) = some (.slice sA ts[i].raw.length sc) := hcy 4 _ rfl
    rw [addr_add] at cy
    simp (disch := omega) only [wu64, wu32, wu8, fdiv_nn, EO, ↓EP, EQ, EM, ↓reduceIte, Int.reduceAdd, Int.reduceEq, Int.reduceLE, Int.reduceLT, Int.reduceMul, Int.reduceNeg, Int.reducePow, Int.reduceSub, Int.reduceToNat, Nat.reduceAdd, Nat.reduceEqDiff, Nat.reduceLT, Nat.reduceLeDiff, Nat.reduceMul, reduceCtorEq, h10, r4, r7, c4a, cy, addr_add, e1]
    intro m11
    have fm := Fr.drewN w10 (1 + m11) nob
    refine Spec.same_t rfl rfl (Sr10.rdOf.nb fm) (hsR.nb fm) (by omega) _ fun w11 f11 => ?_
    have k11 := k10.trans (fm.nb f11) (fun _ _ h => h.elim)
    obtain ⟨ad', e', _, c4b⟩ := cellX w11 _ k11
    cases e'
    have cy1 : w11.cell? ((yad.add (i * 5)).add 4) = some (.slice sA ts[i].raw.length sc) := (cellsAt.nb hcy (fm.nb f11)) 4 _ rfl
    rw [addr_add] at cy1
    simp (disch := omega) only [wu64, wu32, wu8, fdiv_nn, EO, ↓EP, EQ, EM, ↓reduceIte, Int.reduceAdd, Int.reduceEq, Int.reduceLE, Int.reduceLT, Int.reduceMul, Int.reduceNeg, Int.reducePow, Int.reduceSub, Int.reduceToNat, Nat.reduceAdd, Nat.reduceEqDiff, Nat.reduceLT, Nat.reduceLeDiff, Nat.reduceMul, reduceCtorEq, h10, r4, r7, c4b, cy1, addr_add, e1, Bool.not_true]
    intro m12
    have k12 := k11.trans (Fr.drewN w11 m12 nob) (fun _ _ h => h.elim)
    have TX : TR (w11.drewN m12) (.slice (subA (some xad) xc (i + 1) 5) (ts.length - (i + 1)) (xc - (i + 1))) (ts.drop (i + 1)) := by
      obtain ⟨A', c', e, hcc, hr⟩ := (keepX _ _ k12).read
      cases e
      exact rest_of hcc hr hvl (i + 1) (by omega) fun k v q hk h1 h2 => (keepV _ _ k12 k v q (by omega) h1 h2).vw
    have TY := (keepY _ _ k12).rest (i + 1) (by omega)
    refine rsame_yes TX TY (fun t ht => hfit t (List.mem_of_mem_drop ht)) (by simp; omega) _ fun w13 f13 => ?_
    have k13 := k12.trans f13 (fun _ _ h => h.elim)
    obtain ⟨ad', e', _, c4c⟩ := cellX w13 _ k13
    cases e'
    have cy2 : w13.cell? ((yad.add (i * 5)).add 4) = some (.slice sA ts[i].raw.length sc) := (cellsAt.nb hcy (((fm.nb f11).nb (Fr.drewN w11 m12 nob)).nb f13)) 4 _ rfl
    rw [addr_add] at cy2
    simp (disch := omega) only [wu64, wu32, wu8, fdiv_nn, EO, ↓EP, EQ, EM, ↓reduceIte, Int.reduceAdd, Int.reduceEq, Int.reduceLE, Int.reduceLT, Int.reduceMul, Int.reduceNeg, Int.reducePow, Int.reduceSub, Int.reduceToNat, Nat.reduceAdd, Nat.reduceEqDiff, Nat.reduceLT, Nat.reduceLeDiff, Nat.reduceMul, reduceCtorEq, h10, r4, r7, c4c, cy2, addr_add, e1, Bool.not_true, updO_some, r_pick]
    intro m14
    have k14 := k13.trans (Fr.drewN w13 m14 nob) (fun _ _ h => h.elim)
    have Sr14 := keepV _ _ k14 (2 * i + 1) _ _ (Nat.le_refl _) h2 h5
    refine Spec.spoil_spec Sr14 (by omega) _ fun w15 s15 f15 => ?_
    have k15 : Fr w3 w15 (Hit (.slice cA l.length cc) vs (2 * (i + 1))) := (k14.mono fun b _ h => h.mono (by omega)).trans f15 fun b hb h => .inr ⟨2 * i + 1, _, by omega, h2, h⟩
    simp (disch := omega) only [wu64, wu32, wu8, fdiv_nn, EO, ↓EP, EQ, EM, ↓reduceIte, Int.reduceAdd, Int.reduceEq, Int.reduceLE, Int.reduceLT, Int.reduceMul, Int.reduceNeg, Int.reducePow, Int.reduceSub, Int.reduceToNat, Nat.reduceAdd, Nat.reduceEqDiff, Nat.reduceLT, Nat.reduceLeDiff, Nat.reduceMul, reduceCtorEq, h10]
    exact hN (ts.length - (i + 1)) _ _ (by omega) ⟨i + 1, by simp (disch := omega) only [wu64, wu32, wu8, fdiv_nn, EO, ↓EP, EQ, EM, ↓reduceIte, Int.reduceAdd, Int.reduceEq, Int.reduceLE, Int.reduceLT, Int.reduceMul, Int.reduceNeg, Int.reducePow, Int.reduceSub, Int.reduceToNat, Nat.reduceAdd, Nat.reduceEqDiff, Nat.reduceLT, Nat.reduceLeDiff, Nat.reduceMul, reduceCtorEq, h10, Int.natCast_add], by omega, rfl, k15⟩
  · have hie : i = ts.length := by omega
    subst hie
    have F6 := keepL _ w6 k6
    have z6 := F6.size
    clear hN
    simp (disch := omega) only [wu64, wu32, wu8, fdiv_nn, EO, ↓EP, EQ, EM, ↓reduceIte, Int.reduceAdd, Int.reduceEq, Int.reduceLE, Int.reduceLT, Int.reduceMul, Int.reduceNeg, Int.reducePow, Int.reduceSub, Int.reduceToNat, Nat.reduceAdd, Nat.reduceEqDiff, Nat.reduceLT, Nat.reduceLeDiff, Nat.reduceMul, reduceCtorEq, h10, r4, r0]
    refine bits_vw (Vw.of rfl hc (hl.nb F6)) hb (by omega) _ fun v7 w7 g7 => ?_
    simp only [pr3]
    simp (disch := omega) only [wu64, wu32, wu8, fdiv_nn, EO, ↓EP, EQ, EM, ↓reduceIte, Int.reduceAdd, Int.reduceEq, Int.reduceLE, Int.reduceLT, Int.reduceMul, Int.reduceNeg, Int.reducePow, Int.reduceSub, Int.reduceToNat, Nat.reduceAdd, Nat.reduceEqDiff, Nat.reduceLT, Nat.reduceLeDiff, Nat.reduceMul, reduceCtorEq, r0]
    refine al_k (nums .u8 []) rfl fun w8 n8 => ?_
    have g8 := new_gw n8
    simp (disch := omega) only [wu64, wu32, wu8, fdiv_nn, EO, ↓EP, EQ, EM, ↓reduceIte, Int.reduceAdd, Int.reduceEq, Int.reduceLE, Int.reduceLT, Int.reduceMul, Int.reduceNeg, Int.reducePow, Int.reduceSub, Int.reduceToNat, Nat.reduceAdd, Nat.reduceEqDiff, Nat.reduceLT, Nat.reduceLeDiff, Nat.reduceMul, reduceCtorEq, r0]
    refine app_ns g8.sl rfl (hl.nb ((F6.nb g7.fr).nb g8.fr)) (by simp; omega) (by omega) (N := l.length) (by simp) fun dA dc w9 a9 => ?_
    have g9 := g8.apd a9
    rw [List.nil_append] at g9
    simp (disch := omega) only [wu64, wu32, wu8, fdiv_nn, EO, ↓EP, EQ, EM, ↓reduceIte, Int.reduceAdd, Int.reduceEq, Int.reduceLE, Int.reduceLT, Int.reduceMul, Int.reduceNeg, Int.reducePow, Int.reduceSub, Int.reduceToNat, Nat.reduceAdd, Nat.reduceEqDiff, Nat.reduceLT, Nat.reduceLeDiff, Nat.reduceMul, reduceCtorEq, r0]
    have bl : (bitsR l).1.length ≤ 4611686018427387904 := by
      unfold bitsR
      split
      · simp
      · split <;> simp; omega
    refine Spec.spoil_spec (g7.sl.nb g9.fr) bl _ fun w10 s10 f10 => ?_
    have F9 := (F6.nb g7.fr).nb g9.fr
    have F10 : Fr w w10 nob := F9.trans f10 fun b hb h => by have := g7.up b h; omega
    have Sd10 : Sl .u8 w10 (.slice dA l.length dc) l := g9.sl.fr f10 fun b hb h => by
      have h1 := g9.up b hb
      have h2 := g7.sl.lt h
      omega
    simp (disch := omega) only [wu64, wu32, wu8, fdiv_nn, EO, ↓EP, EQ, EM, ↓reduceIte, Int.reduceAdd, Int.reduceEq, Int.reduceLE, Int.reduceLT, Int.reduceMul, Int.reduceNeg, Int.reducePow, Int.reduceSub, Int.reduceToNat, Nat.reduceAdd, Nat.reduceEqDiff, Nat.reduceLT, Nat.reduceLeDiff, Nat.reduceMul, reduceCtorEq, r0]
    refine Spec.same_t rfl rfl Sd10.rdOf (hl.nb F10) (by omega) _ fun w11 f11 => ?_
    simp (disch := omega) only [wu64, wu32, wu8, fdiv_nn, EO, ↓EP, EQ, EM, ↓reduceIte, Int.reduceAdd, Int.reduceEq, Int.reduceLE, Int.reduceLT, Int.reduceMul, Int.reduceNeg, Int.reducePow, Int.reduceSub, Int.reduceToNat, Nat.reduceAdd, Nat.reduceEqDiff, Nat.reduceLT, Nat.reduceLeDiff, Nat.reduceMul, reduceCtorEq]
    refine live_vw (hT.nb (F10.nb f11)) _ fun w12 f12 => ?_
    simp (disch := omega) only [wu64, wu32, wu8, fdiv_nn, EO, ↓EP, EQ, EM, ↓reduceIte, Int.reduceAdd, Int.reduceEq, Int.reduceLE, Int.reduceLT, Int.reduceMul, Int.reduceNeg, Int.reducePow, Int.reduceSub, Int.reduceToNat, Nat.reduceAdd, Nat.reduceEqDiff, Nat.reduceLT, Nat.reduceLeDiff, Nat.reduceMul, reduceCtorEq]
    exact hK w12 ((F10.nb f11).nb f12)
end Go.Proofs.YtcflokckfjkdpaaDoor.Der

/- DerOwn: the row and the tied card: whatever the bytes, what is split shares nothing; no condition. -/
namespace Go.Proofs.YtcflokckfjkdpaaDoor
open Go
set_option maxRecDepth 100000
theorem stand_of {P : Program} {fn : Func} (h : (fn.params.toList.all fun t => !P.wantsStandIn t) = true) : ∀ (j : Nat) t, fn.params[j]? = some t → P.wantsStandIn t = false := by
  intro j t hj
  have := List.all_eq_true.1 h t (by rw [Array.mem_toList_iff]; exact Array.mem_of_getElem? hj)
  simpa using this
open Go Go.ChangeShapes Go.WideShapes Go.ChangeAt Go.WideMaps Go.WideElems Go.RowKit Go.Proofs.YtcflokckfjkdpaaDoor.Eng Go.Proofs.YtcflokckfjkdpaaDoor.Der
theorem derOwn_walk {H : Type} {enc : TypeId × Value → H} (W : World) (base : Nat) (args : Array Value) (ds : List (DataW H)) (p : List MemPlace) (hA0 : DataW.TrodAll enc Tryd.prog W 0 (fun _ => true) true Tryd.f5.params.toList args.toList ds p)
    (hval : ∀ (j : Nat) t v, Tryd.f5.params[j]? = some t → args[j]? = some v → Value.okWide Tryd.prog W .any base t v) (hz : (DataW.weightsEach Tryd.prog Tryd.f5.params.toList ds).all (· ≤ reachBytes) = true) (hL : laidMetH Tryd.prog laid2 W) :
    callK Tryd.prog 5 args.toList W fun v w' => v = .bool true ∧ Fr W w' nob := by
  have hA : DataW.TrodAll enc Tryd.prog W 0 (fun _ => true) true Tryd.f5.params.toList args.toList ds p := hA0
  rw [Tryd.params5] at hA hval
  obtain ⟨v0, d0, rfl, rfl, h0⟩ := trodAll_one hA
  obtain ⟨A, c, l, m, rfl, hc, h63, -, hl, hw⟩ := Row.open_sl Tryd.underlying22 Tryd.underlying5 cells_u8 (hval 0 22 v0 rfl rfl) h0
  exact derown_vw (of_laid hL) rfl hc hl (byte_of hw) _ fun w' f => ⟨rfl, f⟩
theorem derOwn_lifted (os : Os) (started : os.Started) (H : Type) (enc : TypeId × Value → H) :
    ReturnsInHanded {} Tryd.checked os 5 .any (fun w args => (Rows.derOwnSpec.pre enc Tryd.prog Tryd.f5 [] false w args ∧ laidMetH Tryd.prog laid2 w) ∧ sizedMet enc Tryd.prog Tryd.f5 (OpenSpec.ofChange Rows.derOwnSpec) false w args)
      (Rows.derOwnSpec.post enc Tryd.prog Tryd.f5 false true false false) :=
  Row.lifted_of (C := Tryd.checked) (X := fun w _ => laidMetH Tryd.prog laid2 w) (fun _ _ _ hh h => h.of_heap hh) own started (by kernel_rfl) Tryd.func5
    (ChangeSpec.witness_shaped (enc := enc) (C := Tryd.checked) (os := os) (X := fun w _ => laidMetH Tryd.prog laid2 w) false (World.laidAll Tryd.prog os laid2) #[.slice none 0 0] 8 (World.laidAll_os _ _ _) (lay_shaped os) (by kernel_rfl) (by kernel_rfl) (by kernel_rfl) (door_met os _))
    laidOut (tb := 4) (by kernel_rfl) Tryd.underlying4 rfl (of_decide_eq_true (by kernel_rfl)) (fun ds h => by rw [show Tryd.f5.params.size = 1 by kernel_rfl] at h; obtain ⟨a, rfl⟩ := Row.len1 h; exact ⟨rfl, rfl, rfl⟩)
    (fun W base args ds p hA hval hz hL => derOwn_walk (enc := enc) W base args ds p hA hval hz hL)
theorem derOwn_holds : Rows.DerOwnSaid :=
  OpenClaim.holds_of_wide 5 Tryd.f5 rfl rfl rfl rfl rfl rfl rfl ⟨rfl, rfl, rfl, rfl, rfl⟩ rfl rfl rfl rfl rfl (by kernel_rfl) Tryd.func5 (by kernel_rfl)
    (of_decide_eq_true (by kernel_rfl)) (by unfold Func.isWrapper; first | (rw [if_pos (by decide +kernel)]; kernel_rfl) | (rw [if_neg (by decide +kernel)]; exact ⟨rfl, rfl⟩))
    (fun os started H enc _ => derOwn_lifted os started H enc)
theorem derOwn_card : Rows.DerOwnCardSaid :=
  Claim7.holds_tied_plain_at .later [] [.data, .data, .data, .data, .pinned] true (true, "b0f98ca86498d09aa392f72418b7d9cd37849646039c304add223e9f0f14904e") true
    derOwn_holds (fun _ h => by cases h) (by kernel_rfl) (fun _ h => by cases h) derOwn_row_tie rfl ⟨rfl, rfl⟩ (by kernel_rfl) rfl
    (fun f fn hf hfn => by
      obtain rfl : f = 5 := Option.some.inj ((show Tryd.prog.funcNamed "chirograph/chirographlaw04.DerOwn" = some 5 by kernel_rfl).symm.trans hf) |>.symm
      obtain rfl : fn = Tryd.f5 := (Option.some.inj (Tryd.func5.symm.trans hfn)).symm
      exact ⟨by kernel_rfl, stand_of (by kernel_rfl)⟩)
    (by kernel_rfl)
end Go.Proofs.YtcflokckfjkdpaaDoor
