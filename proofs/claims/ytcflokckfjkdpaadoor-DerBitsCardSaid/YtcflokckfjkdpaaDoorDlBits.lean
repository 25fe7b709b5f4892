/- The statement on bits, walked. -/
import Derived.Test.YtcflokckfjkdpaaDoorDu2
import Derived.Test.YtcflokckfjkdpaaDoorDq2
import Derived.Test.YtcflokckfjkdpaaDoorRefL
set_option linter.unusedVariables false
set_option linter.unusedSimpArgs false
namespace Go.Proofs.YtcflokckfjkdpaaDoor.Der
open Go Go.RowKit Go.Proofs Go.Proofs.YtcflokckfjkdpaaDoor.Eng Go.Proofs.YtcflokckfjkdpaaDoor.Code
set_option maxRecDepth 100000
attribute [local irreducible] callK S.W opsW scrW scrT

theorem lnt_vw {w0 w : World} {v : Value} {l : List Int} (h : Spec.Lnt .u8 w0 w v l 90 165) : ∃ b c, v = .slice (some ⟨b, 0, none⟩) l.length c ∧ l.length ≤ c ∧ Rd w (some ⟨b, 0, none⟩) (nums .u8 l) := by
  obtain ⟨b, c, e, h1, _, hr⟩ := h.read
  exact ⟨b, c, e, by omega, hr⟩
set_option maxHeartbeats 2000000 in
theorem derbits_vw {w : World} (hT : TbP w) {A : Option Addr} {n c : Nat} {l : List Int} (hn : l.length = n) (hc : n ≤ c) (hl : Rd w A (nums .u8 l)) (hb : ByteL l) (K : Value → World → Prop)
    (hK : ∀ w', Fr w w' nob → K (.bool true) w') : callK Tryd.prog 3 [.slice A n c] w K := by
  subst hn
  refine call_of Tryd.func3 Code.h3 (by simp [Code.c3]) ?_
  by_cases hm : (16384 : Int) < (l.length : Int)
  · simp (disch := omega) only [wu64, wu32, wu8, fdiv_nn, EO, ↓EP, EQ, EM, ↓reduceIte, Int.reduceAdd, Int.reduceEq, Int.reduceLE, Int.reduceLT, Int.reduceMul, Int.reduceNeg, Int.reducePow, Int.reduceSub, Int.reduceToNat, Nat.reduceAdd, Nat.reduceEqDiff, Nat.reduceLT, Nat.reduceLeDiff, Nat.reduceMul, reduceCtorEq, Code.c3]
    refine live_vw hT _ fun w1 f1 => ?_
    simp (disch := omega) only [wu64, wu32, wu8, fdiv_nn, EO, ↓EP, EQ, EM, ↓reduceIte, Int.reduceAdd, Int.reduceEq, Int.reduceLE, Int.reduceLT, Int.reduceMul, Int.reduceNeg, Int.reducePow, Int.reduceSub, Int.reduceToNat, Nat.reduceAdd, Nat.reduceEqDiff, Nat.reduceLT, Nat.reduceLeDiff, Nat.reduceMul, reduceCtorEq]
    exact hK w1 f1
  simp (disch := omega) only [wu64, wu32, wu8, fdiv_nn, EO, ↓EP, EQ, EM, ↓reduceIte, Int.reduceAdd, Int.reduceEq, Int.reduceLE, Int.reduceLT, Int.reduceMul, Int.reduceNeg, Int.reducePow, Int.reduceSub, Int.reduceToNat, Nat.reduceAdd, Nat.reduceEqDiff, Nat.reduceLT, Nat.reduceLeDiff, Nat.reduceMul, reduceCtorEq, Code.c3]
  refine Spec.lent_spec rfl hl (by omega) _ fun v1 w1 L1 f1 => ?_
  obtain ⟨b, d, e, hd, hr1⟩ := lnt_vw L1
  subst e
  simp (disch := omega) only [wu64, wu32, wu8, fdiv_nn, EO, ↓EP, EQ, EM, ↓reduceIte, Int.reduceAdd, Int.reduceEq, Int.reduceLE, Int.reduceLT, Int.reduceMul, Int.reduceNeg, Int.reducePow, Int.reduceSub, Int.reduceToNat, Nat.reduceAdd, Nat.reduceEqDiff, Nat.reduceLT, Nat.reduceLeDiff, Nat.reduceMul, reduceCtorEq]
  refine bits_vw (Vw.of rfl hd hr1) hb (by omega) _ fun v2 w2 g2 => ?_
  obtain ⟨A2, c2, rfl, hc2, hr2⟩ := readn g2.sl rfl
  simp only [pr3]
  have f2 := f1.nb g2.fr
  simp (disch := omega) only [wu64, wu32, wu8, fdiv_nn, EO, ↓EP, EQ, EM, ↓reduceIte, Int.reduceAdd, Int.reduceEq, Int.reduceLE, Int.reduceLT, Int.reduceMul, Int.reduceNeg, Int.reducePow, Int.reduceSub, Int.reduceToNat, Nat.reduceAdd, Nat.reduceEqDiff, Nat.reduceLT, Nat.reduceLeDiff, Nat.reduceMul, reduceCtorEq]
  refine rbits_vw (Vw.of rfl hc (hl.nb f2)) hb (by omega) _ fun v3 w3 g3 => ?_
  obtain ⟨A3, c3, rfl, hc3, hr3⟩ := readn g3.sl rfl
  simp only [pr3]
  have f3 := f2.nb g3.fr
  simp (disch := omega) only [wu64, wu32, wu8, fdiv_nn, EO, ↓EP, EQ, EM, ↓reduceIte, Int.reduceAdd, Int.reduceEq, Int.reduceLE, Int.reduceLT, Int.reduceMul, Int.reduceNeg, Int.reducePow, Int.reduceSub, Int.reduceToNat, Nat.reduceAdd, Nat.reduceEqDiff, Nat.reduceLT, Nat.reduceLeDiff, Nat.reduceMul, reduceCtorEq]
  refine flags_vw (Vw.of rfl hd (hr1.nb (g2.fr.nb g3.fr))) hb (by omega) _ fun w4 f4 => ?_
  simp only [pr2]
  simp (disch := omega) only [wu64, wu32, wu8, fdiv_nn, EO, ↓EP, EQ, EM, ↓reduceIte, Int.reduceAdd, Int.reduceEq, Int.reduceLE, Int.reduceLT, Int.reduceMul, Int.reduceNeg, Int.reducePow, Int.reduceSub, Int.reduceToNat, Nat.reduceAdd, Nat.reduceEqDiff, Nat.reduceLT, Nat.reduceLeDiff, Nat.reduceMul, reduceCtorEq]
  have f4' := f3.nb f4
  refine rflags_vw (Vw.of rfl hc (hl.nb f4')) hb (by omega) _ fun w5 f5 => ?_
  simp only [pr2]
  simp (disch := omega) only [wu64, wu32, wu8, fdiv_nn, EO, ↓EP, EQ, EM, ↓reduceIte, Int.reduceAdd, Int.reduceEq, Int.reduceLE, Int.reduceLT, Int.reduceMul, Int.reduceNeg, Int.reducePow, Int.reduceSub, Int.reduceToNat, Nat.reduceAdd, Nat.reduceEqDiff, Nat.reduceLT, Nat.reduceLeDiff, Nat.reduceMul, reduceCtorEq]
  have bl : (bitsR l).1.length ≤ 4611686018427387904 := by
    unfold bitsR
    split
    · simp
    · split <;> simp; omega
  refine Spec.same_t rfl rfl (hr2.nb ((g3.fr.nb f4).nb f5)) (hr3.nb (f4.nb f5)) bl _ fun w6 f6 => ?_
  simp (disch := omega) only [wu64, wu32, wu8, fdiv_nn, EO, ↓EP, EQ, EM, ↓reduceIte, Int.reduceAdd, Int.reduceEq, Int.reduceLE, Int.reduceLT, Int.reduceMul, Int.reduceNeg, Int.reducePow, Int.reduceSub, Int.reduceToNat, Nat.reduceAdd, Nat.reduceEqDiff, Nat.reduceLT, Nat.reduceLeDiff, Nat.reduceMul, reduceCtorEq]
  refine num_vw _ ?_
  simp (disch := omega) only [wu64, wu32, wu8, fdiv_nn, EO, ↓EP, EQ, EM, ↓reduceIte, Int.reduceAdd, Int.reduceEq, Int.reduceLE, Int.reduceLT, Int.reduceMul, Int.reduceNeg, Int.reducePow, Int.reduceSub, Int.reduceToNat, Nat.reduceAdd, Nat.reduceEqDiff, Nat.reduceLT, Nat.reduceLeDiff, Nat.reduceMul, reduceCtorEq]
  refine num_vw _ ?_
  simp (disch := omega) only [wu64, wu32, wu8, fdiv_nn, EO, ↓EP, EQ, EM, ↓reduceIte, Int.reduceAdd, Int.reduceEq, Int.reduceLE, Int.reduceLT, Int.reduceMul, Int.reduceNeg, Int.reducePow, Int.reduceSub, Int.reduceToNat, Nat.reduceAdd, Nat.reduceEqDiff, Nat.reduceLT, Nat.reduceLeDiff, Nat.reduceMul, reduceCtorEq]
  have L6 := L1.fr ((((g2.fr.nb g3.fr).nb f4).nb f5).nb f6) (fun _ _ x => x)
  have f6' := (f4'.nb f5).nb f6
  refine Spec.kept_spec L6 rfl (hl.nb f6') (by omega) _ fun w7 f7 => ?_
  simp (disch := omega) only [wu64, wu32, wu8, fdiv_nn, EO, ↓EP, EQ, EM, ↓reduceIte, Int.reduceAdd, Int.reduceEq, Int.reduceLE, Int.reduceLT, Int.reduceMul, Int.reduceNeg, Int.reducePow, Int.reduceSub, Int.reduceToNat, Nat.reduceAdd, Nat.reduceEqDiff, Nat.reduceLT, Nat.reduceLeDiff, Nat.reduceMul, reduceCtorEq]
  refine live_vw (hT.nb (f6'.nb f7)) _ fun w8 f8 => ?_
  simp (disch := omega) only [wu64, wu32, wu8, fdiv_nn, EO, ↓EP, EQ, EM, ↓reduceIte, Int.reduceAdd, Int.reduceEq, Int.reduceLE, Int.reduceLT, Int.reduceMul, Int.reduceNeg, Int.reducePow, Int.reduceSub, Int.reduceToNat, Nat.reduceAdd, Nat.reduceEqDiff, Nat.reduceLT, Nat.reduceLeDiff, Nat.reduceMul, reduceCtorEq]
  exact hK w8 ((f6'.nb f7).nb f8)
end Go.Proofs.YtcflokckfjkdpaaDoor.Der
