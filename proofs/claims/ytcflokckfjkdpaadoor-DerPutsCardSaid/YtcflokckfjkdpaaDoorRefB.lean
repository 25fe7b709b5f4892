/- The helpers of the statements: the same bytes. -/
import Derived.Test.YtcflokckfjkdpaaDoorCode0
import Derived.Test.YtcflokckfjkdpaaDoorEngK
set_option linter.unusedVariables false
set_option linter.unusedSimpArgs false
namespace Go.Proofs.YtcflokckfjkdpaaDoor.Spec
open Go Go.RowKit Go.Proofs Go.Proofs.YtcflokckfjkdpaaDoor.Eng Go.Proofs.YtcflokckfjkdpaaDoor.Code
set_option maxRecDepth 100000

theorem take_at {l r : List Int} {k : Nat} (h : l.take k = r.take k) (h1 : k < l.length) (h2 : k < r.length) (e : at' l k = at' r k) : l.take (k + 1) = r.take (k + 1) := by
  rw [List.take_add_one, List.take_add_one, h, List.getElem?_eq_getElem h1, List.getElem?_eq_getElem h2]
  simp [at', h1, h2] at e
  rw [e]
theorem same_spec {w : World} {A B : Option Addr} {n m c d : Nat} {l r : List Int} (hn : l.length = n) (hm : r.length = m) (hl : Rd w A (nums .u8 l)) (hr : Rd w B (nums .u8 r)) (h63 : n ≤ 4611686018427387904) (K : Value → World → Prop)
    (hK : ∀ w', Fr w w' nob → K (.bool (decide (l = r))) w') : callK Tryd.prog 18 [.slice A n c, .slice B m d] w K := by
  refine call_of Tryd.func18 Code.h18 (by simp [Code.c18]) ?_
  subst hn
  subst hm
  by_cases hlen : (l.length : Int) = (r.length : Int)
  · simp (disch := omega) only [EO, ↓EP, EQ, EM, ↓reduceIte, Int.reduceAdd, Int.reduceEq, Int.reduceLE, Int.reduceLT, Int.reduceMul, Int.reduceNeg, Int.reducePow, Int.reduceSub, Int.reduceToNat, Nat.reduceAdd, Nat.reduceEqDiff, Nat.reduceLT, Nat.reduceLeDiff, Nat.reduceMul, reduceCtorEq, Code.c18, hlen]
    refine loop_inv (fun t ρ w' => ∃ k : Nat, ρ 5 = .int .i64 k ∧ k ≤ r.length ∧ t = r.length - k ∧ l.take k = r.take k ∧ ∃ j, w' = w.drewN j) _ ⟨0, by simp (disch := omega) only [EO, ↓EP, EQ, EM, ↓reduceIte, Int.reduceAdd, Int.reduceEq, Int.reduceLE, Int.reduceLT, Int.reduceMul, Int.reduceNeg, Int.reducePow, Int.reduceSub, Int.reduceToNat, Nat.reduceAdd, Nat.reduceEqDiff, Nat.reduceLT, Nat.reduceLeDiff, Nat.reduceMul, reduceCtorEq], by omega, rfl, by simp, 0, rfl⟩ ?_
    rintro t ρ w' hf ⟨k, h5, hk, rfl, ht, j, rfl⟩ N hN
    have r0 : ρ 0 = .slice A l.length c := by rw [hf 0 rfl]; simp only [↓EP, EQ, EM, ↓reduceIte, Int.reduceAdd, Int.reduceEq, Int.reduceLE, Int.reduceLT, Int.reduceMul, Int.reduceNeg, Int.reducePow, Int.reduceSub, Int.reduceToNat, Nat.reduceAdd, Nat.reduceEqDiff, Nat.reduceLT, Nat.reduceLeDiff, Nat.reduceMul, reduceCtorEq]
    have r1 : ρ 1 = .slice B r.length d := by rw [hf 1 rfl]; simp only [↓EP, EQ, EM, ↓reduceIte, Int.reduceAdd, Int.reduceEq, Int.reduceLE, Int.reduceLT, Int.reduceMul, Int.reduceNeg, Int.reducePow, Int.reduceSub, Int.reduceToNat, Nat.reduceAdd, Nat.reduceEqDiff, Nat.reduceLT, Nat.reduceLeDiff, Nat.reduceMul, reduceCtorEq]
    clear hf
    by_cases hkl : (k : Int) < (r.length : Int)
    · obtain ⟨p, rfl, _, hp⟩ := hl.get (by rw [nums_length]; omega)
      obtain ⟨q, rfl, _, hq⟩ := hr.get (by rw [nums_length]; omega)
      have cp := hp.numN (j := k) (by omega)
      have cq := hq.numN (j := k) (by omega)
      by_cases he : at' l k = at' r k
      · simp (disch := omega) only [EO, ↓EP, EQ, EM, ↓reduceIte, Int.reduceAdd, Int.reduceEq, Int.reduceLE, Int.reduceLT, Int.reduceMul, Int.reduceNeg, Int.reducePow, Int.reduceSub, Int.reduceToNat, Nat.reduceAdd, Nat.reduceEqDiff, Nat.reduceLT, Nat.reduceLeDiff, Nat.reduceMul, reduceCtorEq, h5, r0, r1, hlen, cp, cq, he]
        intro m
        exact hN (r.length - (k + 1)) _ _ (by omega) ⟨k + 1, by simp (disch := omega) only [EO, ↓EP, EQ, EM, ↓reduceIte, Int.reduceAdd, Int.reduceEq, Int.reduceLE, Int.reduceLT, Int.reduceMul, Int.reduceNeg, Int.reducePow, Int.reduceSub, Int.reduceToNat, Nat.reduceAdd, Nat.reduceEqDiff, Nat.reduceLT, Nat.reduceLeDiff, Nat.reduceMul, reduceCtorEq, h5, Int.natCast_add], by omega, rfl, take_at ht (by omega) (by omega) he, _, rfl⟩
      · have hf : (at' l k = at' r k) = False := eq_false he
        simp (disch := omega) only [EO, ↓EP, EQ, EM, ↓reduceIte, Int.reduceAdd, Int.reduceEq, Int.reduceLE, Int.reduceLT, Int.reduceMul, Int.reduceNeg, Int.reducePow, Int.reduceSub, Int.reduceToNat, Nat.reduceAdd, Nat.reduceEqDiff, Nat.reduceLT, Nat.reduceLeDiff, Nat.reduceMul, reduceCtorEq, h5, r0, r1, hlen, cp, cq, hf]
        intro m
        have hne : decide (l = r) = false := decide_eq_false fun e => he (by rw [e])
        have := hK (w.drewN (j + m)) (Fr.drewN w _ _)
        rwa [hne] at this
    · simp (disch := omega) only [EO, ↓EP, EQ, EM, ↓reduceIte, Int.reduceAdd, Int.reduceEq, Int.reduceLE, Int.reduceLT, Int.reduceMul, Int.reduceNeg, Int.reducePow, Int.reduceSub, Int.reduceToNat, Nat.reduceAdd, Nat.reduceEqDiff, Nat.reduceLT, Nat.reduceLeDiff, Nat.reduceMul, reduceCtorEq, h5, r0, hlen]
      have hall : l = r := by
        have hkr : k = r.length := by omega
        subst hkr
        rwa [List.take_of_length_le (by omega), List.take_of_length_le (Nat.le_refl _)] at ht
      have := hK (w.drewN j) (Fr.drewN w _ _)
      rwa [decide_eq_true hall] at this
  · have hne : decide (l = r) = false := decide_eq_false fun e => hlen (by rw [e])
    have hf : ((l.length : Int) = (r.length : Int)) = False := eq_false hlen
    simp (disch := omega) only [EO, ↓EP, EQ, EM, ↓reduceIte, Int.reduceAdd, Int.reduceEq, Int.reduceLE, Int.reduceLT, Int.reduceMul, Int.reduceNeg, Int.reducePow, Int.reduceSub, Int.reduceToNat, Nat.reduceAdd, Nat.reduceEqDiff, Nat.reduceLT, Nat.reduceLeDiff, Nat.reduceMul, reduceCtorEq, Code.c18, hf]
    have := hK w (Fr.refl _ _)
    rwa [hne] at this
theorem same_t {w : World} {A B : Option Addr} {n m c d : Nat} {l : List Int} (hn : l.length = n) (hm : l.length = m) (hl : Rd w A (nums .u8 l)) (hr : Rd w B (nums .u8 l)) (h63 : n ≤ 4611686018427387904) (K : Value → World → Prop)
    (hK : ∀ w', Fr w w' nob → K (.bool true) w') : callK Tryd.prog 18 [.slice A n c, .slice B m d] w K :=
  same_spec hn hm hl hr h63 K fun w' f => by
    have := hK w' f
    have e : decide (l = l) = true := decide_eq_true rfl
    rwa [e]
end Go.Proofs.YtcflokckfjkdpaaDoor.Spec
