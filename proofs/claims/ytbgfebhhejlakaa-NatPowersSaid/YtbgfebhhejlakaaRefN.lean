/- The helpers of the statements, of limbs: the same limbs, limbs that are lent, and whether they were kept. -/
import Derived.Test.YtbgfebhhejlakaaRefL
set_option linter.unusedVariables false
set_option linter.unusedSimpArgs false
namespace Go.Proofs.Ytbgfebhhejlakaa.Spec
open Go Go.RowKit Go.Proofs Go.Proofs.Ytbgfebhhejlakaa.Eng Go.Proofs.Ytbgfebhhejlakaa.Code
set_option maxRecDepth 100000

theorem sameN_spec {w : World} {A B : Option Addr} {n m c d : Nat} {l r : List Int} (hn : l.length = n) (hm : r.length = m) (hl : Rd w A (nums .u32 l)) (hr : Rd w B (nums .u32 r)) (h63 : n ≤ 4611686018427387904) (K : Value → World → Prop)
    (hK : ∀ w', Fr w w' nob → K (.bool (decide (l = r))) w') : callK Try.prog 20 [.slice A n c, .slice B m d] w K := by
  refine call_of Try.func20 Code.h20 (by simp [Code.c20]) ?_
  subst hn
  subst hm
  by_cases hlen : (l.length : Int) = (r.length : Int)
  · simp (disch := omega) only [EO, ↓EP, EQ, EM, ↓reduceIte, Int.reduceAdd, Int.reduceEq, Int.reduceLE, Int.reduceLT, Int.reduceMul, Int.reduceNeg, Int.reducePow, Int.reduceSub, Int.reduceToNat, Nat.reduceAdd, Nat.reduceEqDiff, Nat.reduceLT, Nat.reduceLeDiff, Nat.reduceMul, reduceCtorEq, Code.c20, hlen]
    refine loop_inv (fun t ρ w' => ∃ k : Nat, ρ 5 = .int .i64 k ∧ k ≤ r.length ∧ t = r.length - k ∧ l.take k = r.take k ∧ ∃ j, w' = w.drewN j) _ ⟨0, by simp (disch := omega) only [EO, ↓EP, EQ, EM, ↓reduceIte, Int.reduceAdd, Int.reduceEq, Int.reduceLE, Int.reduceLT, Int.reduceMul, Int.reduceNeg, Int.reducePow, Int.reduceSub, Int.reduceToNat, Nat.reduceAdd, Nat.reduceEqDiff, Nat.reduceLT, Nat.reduceLeDiff, Nat.reduceMul, reduceCtorEq], by omega, rfl, by simp, 0, rfl⟩ ?_
    rintro t ρ w' hf ⟨k, h5, hk, rfl, ht, j, rfl⟩ N hN
    have r0 : ρ 0 = .slice A l.length c := by rw [hf 0 rfl]; simp only [↓EP, EQ, EM, ↓reduceIte, Int.reduceAdd, Int.reduceEq, Int.reduceLE, Int.reduceLT, Int.reduceMul, Int.reduceNeg, Int.reducePow, Int.reduceSub, Int.reduceToNat, Nat.reduceAdd, Nat.reduceEqDiff, Nat.reduceLT, Nat.reduceLeDiff, Nat.reduceMul, reduceCtorEq]
    have r1 : ρ 1 = .slice B r.length d := by rw [hf 1 rfl]; simp only [↓EP, EQ, EM, ↓reduceIte, Int.reduceAdd, Int.reduceEq, Int.reduceLE, Int.reduceLT, Int.reduceMul, Int.reduceNeg, Int.reducePow, Int.reduceSub, Int.reduceToNat, Nat.reduceAdd, Nat.reduceEqDiff, Nat.reduceLT, Nat.reduceLeDiff, Nat.reduceMul, reduceCtorEq]
    clear hf
    by_cases hkl : (k : Int) < (r.length : Int)
    · obtain ⟨p, rfl, _, hp⟩ := hl.get (by rw [nums_length]; omega)
      obtain ⟨q, rfl, _, hq⟩ := hr.get (by rw [nums_length]; omega)
      have cp := hp.numN (j := k) (by omega)
      have cq := hq.numN (j := k) (by omega)
      by_cases he : at' l k = at' r k
      · simp (disch := omega) only [EO, ↓EP, EQ, EM, ↓reduceIte, Int.reduceAdd, Int.reduceEq, Int.reduceLE, Int.reduceLT, Int.reduceMul, Int.reduceNeg, Int.reducePow, Int.reduceSub, Int.reduceToNat, Nat.reduceAdd, Nat.reduceEqDiff, Nat.reduceLT, Nat.reduceLeDiff, Nat.reduceMul, reduceCtorEq, h5, r0, r1, hlen, cp, cq, he]
        intro m
        exact hN (r.length - (k + 1)) _ _ (by omega) ⟨k + 1, by simp (disch := omega) only [EO, ↓EP, EQ, EM, ↓reduceIte, Int.reduceAdd, Int.reduceEq, Int.reduceLE, Int.reduceLT, Int.reduceMul, Int.reduceNeg, Int.reducePow, Int.reduceSub, Int.reduceToNat, Nat.reduceAdd, Nat.reduceEqDiff, Nat.reduceLT, Nat.reduceLeDiff, Nat.reduceMul, reduceCtorEq, h5, Int.natCast_add], by omega, rfl, take_at ht (by omega) (by omega) he, _, rfl⟩
      · have hf : (at' l k = at' r k) = False := eq_false he
        simp (disch := omega) only [EO, ↓EP, EQ, EM, ↓reduceIte, Int.reduceAdd, Int.reduceEq, Int.reduceLE, Int.reduceLT, Int.reduceMul, Int.reduceNeg, Int.reducePow, Int.reduceSub, Int.reduceToNat, Nat.reduceAdd, Nat.reduceEqDiff, Nat.reduceLT, Nat.reduceLeDiff, Nat.reduceMul, reduceCtorEq, h5, r0, r1, hlen, cp, cq, hf]
        intro m
        have hne : decide (l = r) = false := decide_eq_false fun e => he (by rw [e])
        have := hK (w.drewN (j + m)) (Fr.drewN w _ _)
        rwa [hne] at this
    · simp (disch := omega) only [EO, ↓EP, EQ, EM, ↓reduceIte, Int.reduceAdd, Int.reduceEq, Int.reduceLE, Int.reduceLT, Int.reduceMul, Int.reduceNeg, Int.reducePow, Int.reduceSub, Int.reduceToNat, Nat.reduceAdd, Nat.reduceEqDiff, Nat.reduceLT, Nat.reduceLeDiff, Nat.reduceMul, reduceCtorEq, h5, r0, hlen]
      have hall : l = r := by
        have hkr : k = r.length := by omega
        subst hkr
        rwa [List.take_of_length_le (by omega), List.take_of_length_le (Nat.le_refl _)] at ht
      have := hK (w.drewN j) (Fr.drewN w _ _)
      rwa [decide_eq_true hall] at this
  · have hne : decide (l = r) = false := decide_eq_false fun e => hlen (by rw [e])
    have hf : ((l.length : Int) = (r.length : Int)) = False := eq_false hlen
    simp (disch := omega) only [EO, ↓EP, EQ, EM, ↓reduceIte, Int.reduceAdd, Int.reduceEq, Int.reduceLE, Int.reduceLT, Int.reduceMul, Int.reduceNeg, Int.reducePow, Int.reduceSub, Int.reduceToNat, Nat.reduceAdd, Nat.reduceEqDiff, Nat.reduceLT, Nat.reduceLeDiff, Nat.reduceMul, reduceCtorEq, Code.c20, hf]
    have := hK w (Fr.refl _ _)
    rwa [hne] at this
theorem sameN_t {w : World} {A B : Option Addr} {n m c d : Nat} {l : List Int} (hn : l.length = n) (hm : l.length = m) (hl : Rd w A (nums .u32 l)) (hr : Rd w B (nums .u32 l)) (h63 : n ≤ 4611686018427387904) (K : Value → World → Prop)
    (hK : ∀ w', Fr w w' nob → K (.bool true) w') : callK Try.prog 20 [.slice A n c, .slice B m d] w K :=
  sameN_spec hn hm hl hr h63 K fun w' f => by
    have := hK w' f
    have e : decide (l = l) = true := decide_eq_true rfl
    rwa [e]
theorem lentN_spec {w : World} {A : Option Addr} {n c : Nat} {l : List Int} (hn : l.length = n) (hl : Rd w A (nums .u32 l)) (h47 : n ≤ 35184372088824) (K : Value → World → Prop)
    (hK : ∀ v w', Lnt .u32 w w' v l 57005 48879 → Fr w w' nob → K v w') : callK Try.prog 15 [.slice A n c] w K := by
  refine call_of Try.func15 Code.h15 (by simp [Code.c15]) ?_
  subst hn
  simp (disch := omega) only [EO, ↓EP, EQ, EM, ↓reduceIte, Int.reduceAdd, Int.reduceEq, Int.reduceLE, Int.reduceLT, Int.reduceMul, Int.reduceNeg, Int.reducePow, Int.reduceSub, Int.reduceToNat, Nat.reduceAdd, Nat.reduceEqDiff, Nat.reduceLT, Nat.reduceLeDiff, Nat.reduceMul, reduceCtorEq, Code.c15]
  refine al_k (nums .u32 []) rfl fun w1 n1 => ?_
  have g1 : Gw .u32 w w1 (.slice (some ⟨w.heap.size, 0, none⟩) 0 0) [] := ⟨n1.sl, fun b e => by cases e; exact Nat.le_refl _, n1.fr nob⟩
  simp (disch := omega) only [EO, ↓EP, EQ, EM, ↓reduceIte, Int.reduceAdd, Int.reduceEq, Int.reduceLE, Int.reduceLT, Int.reduceMul, Int.reduceNeg, Int.reducePow, Int.reduceSub, Int.reduceToNat, Nat.reduceAdd, Nat.reduceEqDiff, Nat.reduceLT, Nat.reduceLeDiff, Nat.reduceMul, reduceCtorEq]
  refine app_num g1.sl rfl (hl.fr (n1.fr nob) (.inr fun _ _ x => x)) (by rw [List.length_nil]; omega) (by omega) fun v2 w2 a2 => ?_
  have g2 := g1.apd a2
  rw [List.nil_append] at g2
  simp (disch := omega) only [EO, ↓EP, EQ, EM, ↓reduceIte, Int.reduceAdd, Int.reduceEq, Int.reduceLE, Int.reduceLT, Int.reduceMul, Int.reduceNeg, Int.reducePow, Int.reduceSub, Int.reduceToNat, Nat.reduceAdd, Nat.reduceEqDiff, Nat.reduceLT, Nat.reduceLeDiff, Nat.reduceMul, reduceCtorEq]
  refine bsl2 fun w3 n3 => ?_
  have g3 := g2.new n3
  simp (disch := omega) only [EO, ↓EP, EQ, EM, ↓reduceIte, Int.reduceAdd, Int.reduceEq, Int.reduceLE, Int.reduceLT, Int.reduceMul, Int.reduceNeg, Int.reducePow, Int.reduceSub, Int.reduceToNat, Nat.reduceAdd, Nat.reduceEqDiff, Nat.reduceLT, Nat.reduceLeDiff, Nat.reduceMul, reduceCtorEq]
  refine app_num g3.sl rfl n3.rdl (by rw [List.length_cons, List.length_cons, List.length_nil]; omega) (by omega) fun v4 w4 a4 => ?_
  have g4 := g3.apd a4
  obtain ⟨A4, c4, rfl, hc4, _, _⟩ := g4.sl.read
  obtain ⟨h5, h6⟩ := sl_lnt g4
  simp (disch := omega) only [EO, ↓EP, EQ, EM, ↓reduceIte, Int.reduceAdd, Int.reduceEq, Int.reduceLE, Int.reduceLT, Int.reduceMul, Int.reduceNeg, Int.reducePow, Int.reduceSub, Int.reduceToNat, Nat.reduceAdd, Nat.reduceEqDiff, Nat.reduceLT, Nat.reduceLeDiff, Nat.reduceMul, reduceCtorEq]
  exact hK _ _ h5 g4.fr
theorem keptN_spec {w0 w : World} {v : Value} {B : Option Addr} {m d : Nat} {l : List Int} (hv : Lnt .u32 w0 w v l 57005 48879) (hm : l.length = m) (hr : Rd w B (nums .u32 l)) (h47 : m ≤ 35184372088824) (K : Value → World → Prop)
    (hK : ∀ w', Fr w w' nob → K (.bool true) w') : callK Try.prog 28 [v, .slice B m d] w K := by
  obtain ⟨b, pad, rfl, hB, hb⟩ := hv.ex
  refine call_of Try.func28 Code.h28 (by simp [Code.c28]) ?_
  subst hm
  simp (disch := omega) only [EO, ↓EP, EQ, EM, ↓reduceIte, Int.reduceAdd, Int.reduceEq, Int.reduceLE, Int.reduceLT, Int.reduceMul, Int.reduceNeg, Int.reducePow, Int.reduceSub, Int.reduceToNat, Nat.reduceAdd, Nat.reduceEqDiff, Nat.reduceLT, Nat.reduceLeDiff, Nat.reduceMul, reduceCtorEq, Code.c28]
  have hA : Rd w (some ⟨b, 0, none⟩) (nums .u32 l) := hB.rd 0 (n := l.length) (by rw [List.drop_zero, nums_take]; simp)
  refine sameN_spec rfl rfl hA hr (by omega) _ fun w' f => ?_
  rw [decide_eq_true rfl]
  have hB' := hB.fr f (fun x => x)
  have c0 : w'.cell? ⟨b, l.length, none⟩ = some (.int .u32 57005) := by
    rw [hB'.cell?]; simp [nums]
  have c1 : w'.cell? ⟨b, l.length + 1, none⟩ = some (.int .u32 48879) := by
    rw [hB'.cell?]; simp [nums]
  have e1 : ((l.length : Int) + 1).toNat = l.length + 1 := by omega
  simp (disch := omega) only [EO, ↓EP, EQ, EM, ↓reduceIte, Int.reduceAdd, Int.reduceEq, Int.reduceLE, Int.reduceLT, Int.reduceMul, Int.reduceNeg, Int.reducePow, Int.reduceSub, Int.reduceToNat, Nat.reduceAdd, Nat.reduceEqDiff, Nat.reduceLT, Nat.reduceLeDiff, Nat.reduceMul, reduceCtorEq, c0, c1, e1]
  exact hK w' f
end Go.Proofs.Ytbgfebhhejlakaa.Spec
