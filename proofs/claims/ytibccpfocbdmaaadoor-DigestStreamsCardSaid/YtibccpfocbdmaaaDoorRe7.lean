/- The document's digests: the answer is the program's. -/
import Derived.Test.YtibccpfocbdmaaaDoorRe6
set_option linter.unusedVariables false
set_option linter.unusedSimpArgs false
namespace Go.Proofs.YtibccpfocbdmaaaDoor.Spec
open Go Go.RowKit Go.Proofs Go.Proofs.YtibccpfocbdmaaaDoor.Eng Go.Proofs.YtibccpfocbdmaaaDoor.Code
set_option maxRecDepth 100000
attribute [local irreducible] callK S.W opsW scrW one

theorem part_skip {bs q : Nat} {P T : List Int} (hP : P.length = q * bs) (j : Nat) : part bs (P ++ T) (q + j) = part bs T j := by
  unfold part
  rw [Nat.add_mul, ← hP, ← List.drop_drop, List.drop_left]
theorem runN_skip {alg : Int} {q : Nat} {P T : List Int} (hP : P.length = q * blockI alg) : ∀ j, runN alg (P ++ T) (q + j) = rounds (fun j s => mix alg s (part (blockI alg) T j)) j (runN alg P q)
  | 0 => by rw [Nat.add_zero, runN_app (by omega)]; rfl
  | j + 1 => by
    rw [← Nat.add_assoc, runN_succ, runN_skip hP j, rounds, part_skip hP]
theorem fill_tail {alg : Int} (a1 : 1 ≤ alg) (a4 : alg ≤ 4) (m : List Int) : fillF (blockI alg) m = m.take (m.length / blockI alg * blockI alg) ++ tailF alg m := by
  have hl : (rest alg m).length = m.length % blockI alg := by
    rw [rest_len a1 a4]
    have := Nat.div_add_mod m.length (blockI alg)
    rw [Nat.mul_comm] at this
    omega
  rw [tailF, hl, fillF, zT, rest]
  simp only [← List.append_assoc, List.take_append_drop, ← List.replicate_append_replicate]
theorem last_fill {alg : Int} (a1 : 1 ≤ alg) (a4 : alg ≤ 4) (m : List Int) : last alg m = runN alg (fillF (blockI alg) m) ((fillF (blockI alg) m).length / blockI alg) := by
  obtain ⟨d1, d2⟩ := div_facts a1 a4 m
  have hb := blockI_or a1 a4
  have hP : (m.take (m.length / blockI alg * blockI alg)).length = m.length / blockI alg * blockI alg := by simp; omega
  have hlen : (fillF (blockI alg) m).length / blockI alg = m.length / blockI alg + (tailF alg m).length / blockI alg := by
    rw [fill_tail a1 a4, List.length_append, hP, Nat.add_comm, Nat.add_mul_div_right _ _ (by omega), Nat.add_comm]
  rw [hlen, fill_tail a1 a4, runN_skip hP, last]
  have e : runN alg (m.take (m.length / blockI alg * blockI alg)) (m.length / blockI alg) = run alg m := by
    have h := runN_app (alg := alg) (m := m.take (m.length / blockI alg * blockI alg)) (p := m.drop (m.length / blockI alg * blockI alg)) (j := m.length / blockI alg) (by omega)
    rw [List.take_append_drop] at h
    rw [← h]; rfl
  rw [e]
theorem runN_wide {alg : Int} (h : alg = 3 ∨ alg = 4) (M : List Int) : ∀ j, (runN alg M j).2 = runW (st0 alg).2 M j
  | 0 => rfl
  | j + 1 => by
    have e : blockI alg = 128 := by rcases h with rfl | rfl <;> rfl
    rw [runN_succ, runW_succ, ← runN_wide h M j, mix, if_neg (by omega), if_neg (by omega), e]
theorem byteL_fill {bs : Nat} {m : List Int} (h : ∀ x ∈ m, 0 ≤ x ∧ x < 256) : byteL (fillF bs m) := by
  have h' : ∀ x ∈ fillF bs m, 0 ≤ x ∧ x < 256 := by
    intro x hx
    simp only [fillF, List.mem_append, List.mem_map, List.mem_replicate, List.mem_cons, List.not_mem_nil, or_false] at hx
    rcases hx with ((hx | rfl) | hx) | ⟨i, _, rfl⟩
    · exact h x hx
    · omega
    · omega
    · unfold lenB; rw [wu8_mod]; omega
  intro i
  rw [at_nat', List.getD_eq_getElem?_getD]
  cases e : (fillF bs m)[i]? with
  | none => simp
  | some x => exact h' x (List.mem_of_getElem? e)
theorem flat_head (f : Nat → List Int) {n : Nat} (h : ∀ i, (f i).length = n) {a : Nat} (b : Nat) : ((List.range (a + b)).flatMap f).take (a * n) = (List.range a).flatMap f := by
  induction b with
  | zero => rw [Nat.add_zero, List.take_of_length_le (by rw [flat_len h]; omega)]
  | succ b ih =>
    rw [← Nat.add_assoc, flat_succ, List.take_append_of_le_length (by rw [flat_len h, Nat.add_mul]; omega), ih]

set_option maxHeartbeats 1000000 in
theorem rdigest_vw {w : World} {v : Value} {m : List Int} {alg : Int} (a1 : 1 ≤ alg) (a4 : alg ≤ 4) (hv : Vw .u8 w v m) (hm : m.length ≤ 16777216) (hb : ∀ x ∈ m, 0 ≤ x ∧ x < 256) (K : Value → World → Prop)
    (hK : ∀ v' w', Gw .u8 w w' v' (dig alg m) → K v' w') : callK Tryd.prog 26 [.int .i64 alg, v] w K := by
  refine call_of Tryd.func26 Code.h26 (by simp [Code.c26]) ?_
  have hl := last_fill a1 a4 m
  have hF := fill_len (blockI_or a1 a4) m
  have hbl := byteL_fill (bs := blockI alg) hb
  have c : alg = 1 ∨ alg = 2 ∨ alg = 3 ∨ alg = 4 := by omega
  rcases c with rfl | rfl | rfl | rfl
  · rw [show blockI 1 = 64 by rfl] at hF hbl
    simp (disch := omega) only [EO, ↓EP, EQ, EM, ↓reduceIte, Int.reduceAdd, Int.reduceEq, Int.reduceLE, Int.reduceLT, Int.reduceMul, Int.reduceNeg, Int.reducePow, Int.reduceSub, Int.reduceToNat, Nat.reduceAdd, Nat.reduceEqDiff, Nat.reduceLT, Nat.reduceLeDiff, Nat.reduceMul, reduceCtorEq, W_join, Code.c26]
    refine filled_vw (bs := 64) hv (.inl rfl) hm _ fun v1 w1 g1 => ?_
    simp (disch := omega) only [EO, ↓EP, EQ, EM, ↓reduceIte, Int.reduceAdd, Int.reduceEq, Int.reduceLE, Int.reduceLT, Int.reduceMul, Int.reduceNeg, Int.reducePow, Int.reduceSub, Int.reduceToNat, Nat.reduceAdd, Nat.reduceEqDiff, Nat.reduceLT, Nat.reduceLeDiff, Nat.reduceMul, reduceCtorEq]
    refine sha1_vw g1.vw hF.1 (by omega) hbl _ fun v2 w2 g2 => ?_
    simp (disch := omega) only [EO, ↓EP, EQ, EM, ↓reduceIte, Int.reduceAdd, Int.reduceEq, Int.reduceLE, Int.reduceLT, Int.reduceMul, Int.reduceNeg, Int.reducePow, Int.reduceSub, Int.reduceToNat, Nat.reduceAdd, Nat.reduceEqDiff, Nat.reduceLT, Nat.reduceLeDiff, Nat.reduceMul, reduceCtorEq]
    refine hK v2 w2 ?_
    have e : dig 1 m = (List.range 5).flatMap fun (i : Nat) => w4 (at' (runN 1 (fillF 64 m) ((fillF 64 m).length / 64)).1 (i : Int)) := by
      rw [dig, hl, outF, if_pos (by rfl)]
      exact flat_head (fun (i : Nat) => w4 (at' (runN 1 (fillF 64 m) ((fillF 64 m).length / 64)).1 (i : Int))) (n := 4) (fun _ => rfl) (a := 5) 3
    rw [e]
    exact g2.from g1.fr
  · rw [show blockI 2 = 64 by rfl] at hF hbl
    simp (disch := omega) only [EO, ↓EP, EQ, EM, ↓reduceIte, Int.reduceAdd, Int.reduceEq, Int.reduceLE, Int.reduceLT, Int.reduceMul, Int.reduceNeg, Int.reducePow, Int.reduceSub, Int.reduceToNat, Nat.reduceAdd, Nat.reduceEqDiff, Nat.reduceLT, Nat.reduceLeDiff, Nat.reduceMul, reduceCtorEq, W_join, Code.c26]
    refine filled_vw (bs := 64) hv (.inl rfl) hm _ fun v1 w1 g1 => ?_
    simp (disch := omega) only [EO, ↓EP, EQ, EM, ↓reduceIte, Int.reduceAdd, Int.reduceEq, Int.reduceLE, Int.reduceLT, Int.reduceMul, Int.reduceNeg, Int.reducePow, Int.reduceSub, Int.reduceToNat, Nat.reduceAdd, Nat.reduceEqDiff, Nat.reduceLT, Nat.reduceLeDiff, Nat.reduceMul, reduceCtorEq]
    refine sha256_vw g1.vw hF.1 (by omega) hbl _ fun v2 w2 g2 => ?_
    simp (disch := omega) only [EO, ↓EP, EQ, EM, ↓reduceIte, Int.reduceAdd, Int.reduceEq, Int.reduceLE, Int.reduceLT, Int.reduceMul, Int.reduceNeg, Int.reducePow, Int.reduceSub, Int.reduceToNat, Nat.reduceAdd, Nat.reduceEqDiff, Nat.reduceLT, Nat.reduceLeDiff, Nat.reduceMul, reduceCtorEq]
    refine hK v2 w2 ?_
    have e : dig 2 m = (List.range 8).flatMap fun (i : Nat) => w4 (at' (runN 2 (fillF 64 m) ((fillF 64 m).length / 64)).1 (i : Int)) := by
      rw [dig, hl, outF, if_pos (by rfl)]
      exact flat_head (fun (i : Nat) => w4 (at' (runN 2 (fillF 64 m) ((fillF 64 m).length / 64)).1 (i : Int))) (n := 4) (fun _ => rfl) (a := 8) 0
    rw [e]
    exact g2.from g1.fr
  · rw [show blockI 3 = 128 by rfl] at hF hbl
    simp (disch := omega) only [EO, ↓EP, EQ, EM, ↓reduceIte, Int.reduceAdd, Int.reduceEq, Int.reduceLE, Int.reduceLT, Int.reduceMul, Int.reduceNeg, Int.reducePow, Int.reduceSub, Int.reduceToNat, Nat.reduceAdd, Nat.reduceEqDiff, Nat.reduceLT, Nat.reduceLeDiff, Nat.reduceMul, reduceCtorEq, W_join, Code.c26]
    refine filled_vw (bs := 128) hv (.inr rfl) hm _ fun v1 w1 g1 => ?_
    simp (disch := omega) only [EO, ↓EP, EQ, EM, ↓reduceIte, Int.reduceAdd, Int.reduceEq, Int.reduceLE, Int.reduceLT, Int.reduceMul, Int.reduceNeg, Int.reducePow, Int.reduceSub, Int.reduceToNat, Nat.reduceAdd, Nat.reduceEqDiff, Nat.reduceLT, Nat.reduceLeDiff, Nat.reduceMul, reduceCtorEq]
    refine ⟨_, fill8 _ _ _ _ _ _ _ _ _, ?_⟩
    simp (disch := omega) only [EO, ↓EP, EQ, EM, ↓reduceIte, Int.reduceAdd, Int.reduceEq, Int.reduceLE, Int.reduceLT, Int.reduceMul, Int.reduceNeg, Int.reducePow, Int.reduceSub, Int.reduceToNat, Nat.reduceAdd, Nat.reduceEqDiff, Nat.reduceLT, Nat.reduceLeDiff, Nat.reduceMul, reduceCtorEq]
    refine sha512_vw (s := (st0 3).2) g1.vw rfl hF.1 (by omega) hbl _ fun v2 w2 g2 => ?_
    have e : dig 3 m = ((List.range 8).flatMap fun (i : Nat) => v8 (at' (runW (st0 3).2 (fillF 128 m) ((fillF 128 m).length / 128)) (i : Int))).take 48 := by
      rw [dig, hl, outF, if_neg (by decide), runN_wide (.inl rfl)]; rfl
    have hl8 := flat_len (f := fun (i : Nat) => v8 (at' (runW (st0 3).2 (fillF 128 m) ((fillF 128 m).length / 128)) (i : Int))) (n := 8) (fun _ => by simp [v8]) 8
    generalize (List.range 8).flatMap (fun (i : Nat) => v8 (at' (runW (st0 3).2 (fillF 128 m) ((fillF 128 m).length / 128)) (i : Int))) = L at g2 e hl8
    obtain ⟨A2, c2, rfl, hc2, hR2⟩ := readn g2.sl hl8
    simp (disch := omega) only [EO, ↓EP, EQ, EM, ↓reduceIte, Int.reduceAdd, Int.reduceEq, Int.reduceLE, Int.reduceLT, Int.reduceMul, Int.reduceNeg, Int.reducePow, Int.reduceSub, Int.reduceToNat, Nat.reduceAdd, Nat.reduceEqDiff, Nat.reduceLT, Nat.reduceLeDiff, Nat.reduceMul, reduceCtorEq]
    refine hK _ w2 ?_
    rw [e]
    exact ⟨g2.sl.cut (by omega) (by omega), fun b h => Nat.le_trans g1.fr.size (g2.up b (by cases A2 with | none => cases h | some p => exact h)), g1.fr.nb g2.fr⟩
  · rw [show blockI 4 = 128 by rfl] at hF hbl
    simp (disch := omega) only [EO, ↓EP, EQ, EM, ↓reduceIte, Int.reduceAdd, Int.reduceEq, Int.reduceLE, Int.reduceLT, Int.reduceMul, Int.reduceNeg, Int.reducePow, Int.reduceSub, Int.reduceToNat, Nat.reduceAdd, Nat.reduceEqDiff, Nat.reduceLT, Nat.reduceLeDiff, Nat.reduceMul, reduceCtorEq, W_join, Code.c26]
    refine filled_vw (bs := 128) hv (.inr rfl) hm _ fun v1 w1 g1 => ?_
    simp (disch := omega) only [EO, ↓EP, EQ, EM, ↓reduceIte, Int.reduceAdd, Int.reduceEq, Int.reduceLE, Int.reduceLT, Int.reduceMul, Int.reduceNeg, Int.reducePow, Int.reduceSub, Int.reduceToNat, Nat.reduceAdd, Nat.reduceEqDiff, Nat.reduceLT, Nat.reduceLeDiff, Nat.reduceMul, reduceCtorEq]
    refine ⟨_, fill8 _ _ _ _ _ _ _ _ _, ?_⟩
    simp (disch := omega) only [EO, ↓EP, EQ, EM, ↓reduceIte, Int.reduceAdd, Int.reduceEq, Int.reduceLE, Int.reduceLT, Int.reduceMul, Int.reduceNeg, Int.reducePow, Int.reduceSub, Int.reduceToNat, Nat.reduceAdd, Nat.reduceEqDiff, Nat.reduceLT, Nat.reduceLeDiff, Nat.reduceMul, reduceCtorEq]
    refine sha512_vw (s := (st0 4).2) g1.vw rfl hF.1 (by omega) hbl _ fun v2 w2 g2 => ?_
    simp (disch := omega) only [EO, ↓EP, EQ, EM, ↓reduceIte, Int.reduceAdd, Int.reduceEq, Int.reduceLE, Int.reduceLT, Int.reduceMul, Int.reduceNeg, Int.reducePow, Int.reduceSub, Int.reduceToNat, Nat.reduceAdd, Nat.reduceEqDiff, Nat.reduceLT, Nat.reduceLeDiff, Nat.reduceMul, reduceCtorEq]
    refine hK v2 w2 ?_
    have e : dig 4 m = (List.range 8).flatMap fun (i : Nat) => v8 (at' (runW (st0 4).2 (fillF 128 m) ((fillF 128 m).length / 128)) (i : Int)) := by
      rw [dig, hl, outF, if_neg (by decide), runN_wide (.inr rfl)]
      exact flat_head (fun (i : Nat) => v8 (at' (runW (st0 4).2 (fillF 128 m) ((fillF 128 m).length / 128)) (i : Int))) (n := 8) (fun _ => by simp [v8]) (a := 8) 0
    rw [e]
    exact g2.from g1.fr
end Go.Proofs.YtibccpfocbdmaaaDoor.Spec
