/- The document's digests: SHA-1. -/
import Derived.Test.YtibccpfocbdmaaaDoorRe3
set_option linter.unusedVariables false
set_option linter.unusedSimpArgs false
namespace Go.Proofs.YtibccpfocbdmaaaDoor.Spec
open Go Go.RowKit Go.Proofs Go.Proofs.YtibccpfocbdmaaaDoor.Eng Go.Proofs.YtibccpfocbdmaaaDoor.Code
set_option maxRecDepth 100000
attribute [local irreducible] callK S.W opsW scrW one

theorem fill55 (a0 a1 a2 a3 a4 : Int) : fillL [(0, 1), (1, 1), (2, 1), (3, 1), (4, 1)] (Array.replicate 5 (Value.int .u32 0)) [(0, .int .u32 a0), (1, .int .u32 a1), (2, .int .u32 a2), (3, .int .u32 a3), (4, .int .u32 a4)] = some (nums .u32 [a0, a1, a2, a3, a4]).toArray := by kernel_rfl
theorem byteL_part {bs : Nat} {M : List Int} (h : byteL M) (j : Nat) : byteL (part bs M j) := by
  intro i
  rw [at_nat', part, List.getD_eq_getElem?_getD, List.getElem?_take]
  split
  · rw [List.getElem?_drop, ← List.getD_eq_getElem?_getD, ← at_nat']; exact h _
  · simp
theorem part_at {bs : Nat} {M : List Int} {j i : Nat} (h : i < bs) : at' (part bs M j) (i : Int) = at' M ((j * bs + i : Nat) : Int) := by
  rw [at_nat', at_nat', part, List.getD_eq_getElem?_getD, List.getElem?_take, if_pos h, List.getElem?_drop, ← List.getD_eq_getElem?_getD]
theorem take_at' {l : List Int} {n i : Nat} (h : i < n) : at' (l.take n) (i : Int) = at' l (i : Int) := by
  rw [at_nat', at_nat', List.getD_eq_getElem?_getD, List.getElem?_take, if_pos h, ← List.getD_eq_getElem?_getD]
/-- Four bytes that are read. -/
theorem four_at {w : World} {A : Option Addr} {M : List Int} {c lo : Nat} (h : Rd w A (nums .u8 M)) (hc : M.length ≤ c) (hl : lo + 4 ≤ M.length) :
    ∃ ad, subA A c lo 1 = some ad ∧ w.cell? (ad.add 0) = some (.int .u8 (at' M (lo : Int))) ∧ w.cell? (ad.add 1) = some (.int .u8 (at' M ((lo + 1 : Nat) : Int))) ∧ w.cell? (ad.add 2) = some (.int .u8 (at' M ((lo + 2 : Nat) : Int))) ∧ w.cell? (ad.add 3) = some (.int .u8 (at' M ((lo + 3 : Nat) : Int))) := by
  have h1 := h.subA c lo hc
  obtain ⟨ad, e, _, hcl⟩ := h1.get (by simp [nums_length]; omega)
  have g : ∀ i : Nat, i < 4 → w.cell? (ad.add i) = some (.int .u8 (at' M ((lo + i : Nat) : Int))) := fun i hi => by
    rw [hcl.numN (j := i) (by simp; omega)]
    congr 2
    rw [at_nat', at_nat', List.getD_eq_getElem?_getD, List.getElem?_drop, ← List.getD_eq_getElem?_getD]
  exact ⟨ad, e, g 0 (by omega), g 1 (by omega), g 2 (by omega), g 3 (by omega)⟩
theorem oneWd_read {M : List Int} {j k : Nat} (hb : byteL M) (hk : k < 16) :
    IntKind.u32.wrap (IntKind.u32.wrap (IntKind.u32.wrap (IntKind.u32.wrap (IntKind.u32.wrap (at' M ((64 * j + 4 * k : Nat) : Int)) * 16777216) + IntKind.u32.wrap (IntKind.u32.wrap (at' M ((64 * j + 4 * k + 1 : Nat) : Int)) * 65536)) + IntKind.u32.wrap (IntKind.u32.wrap (at' M ((64 * j + 4 * k + 2 : Nat) : Int)) * 256)) + IntKind.u32.wrap (at' M ((64 * j + 4 * k + 3 : Nat) : Int))) = wordAt (part 64 M j) k := by
  rw [word_sum (hb _) (hb _) (hb _) (hb _), wordAt]
  rw [show (4 * (k : Int)) = ((4 * k : Nat) : Int) by omega, show ((4 * k : Nat) : Int) + 1 = ((4 * k + 1 : Nat) : Int) by omega, show ((4 * k : Nat) : Int) + 2 = ((4 * k + 2 : Nat) : Int) by omega, show ((4 * k : Nat) : Int) + 3 = ((4 * k + 3 : Nat) : Int) by omega]
  rw [part_at (by omega), part_at (by omega), part_at (by omega), part_at (by omega)]
  rw [show j * 64 + 4 * k = 64 * j + 4 * k by omega, show j * 64 + (4 * k + 1) = 64 * j + 4 * k + 1 by omega, show j * 64 + (4 * k + 2) = 64 * j + 4 * k + 2 by omega, show j * 64 + (4 * k + 3) = 64 * j + 4 * k + 3 by omega]

theorem run1_succ (M : List Int) (j : Nat) : (runN 1 M (j + 1)).1 = one (runN 1 M j).1 (part 64 M j) := by
  rw [runN_succ, mix, if_pos rfl]; rfl
theorem run1_len (M : List Int) : ∀ j, (runN 1 M j).1.length = 8
  | 0 => rfl
  | j + 1 => by rw [run1_succ]; exact one_len _ _
def oneJ (w : World) (hb b5 : Nat) (H p : List Int) (m : Nat) (ρ : Env) (w' : World) : Prop :=
  ∃ k : Nat, ρ 13 = .int .i64 k ∧ k ≤ 80 ∧ m = 80 - k ∧ ρ 8 = .int .u32 (rounds oneStep k (oneInit H p)).a ∧ ρ 9 = .int .u32 (rounds oneStep k (oneInit H p)).b ∧ ρ 10 = .int .u32 (rounds oneStep k (oneInit H p)).c ∧ ρ 11 = .int .u32 (rounds oneStep k (oneInit H p)).d ∧ ρ 12 = .int .u32 (rounds oneStep k (oneInit H p)).e ∧
    Blk w' hb (nums .u32 (H.take 5)) ∧ Blk w' b5 (nums .u32 (rowN (oneWd p) 80 80)) ∧ Below w.heap.size w w'
theorem not_u32 (n : Int) : bits .xor .u32 (if IntKind.u32.signed = true then -1 else IntKind.u32.max) n = bits .xor .u32 4294967295 n := rfl

set_option maxHeartbeats 4000000 in
theorem sha1_vw {w : World} {v : Value} {M : List Int} (hv : Vw .u8 w v M) (h64 : M.length % 64 = 0) (hm : M.length ≤ 16777600) (hb : byteL M) (K : Value → World → Prop)
    (hK : ∀ v' w', Gw .u8 w w' v' ((List.range 5).flatMap fun (i : Nat) => w4 (at' (runN 1 M (M.length / 64)).1 (i : Int))) → K v' w') : callK Tryd.prog 29 [v] w K := by
  obtain ⟨A, c, rfl, hc, hr⟩ := hv
  refine call_of Tryd.func29 Code.h29 (by simp [Code.c29]) ?_
  simp (disch := omega) only [EO, ↓EP, EQ, EM, ↓reduceIte, Int.reduceAdd, Int.reduceEq, Int.reduceLE, Int.reduceLT, Int.reduceMul, Int.reduceNeg, Int.reducePow, Int.reduceSub, Int.reduceToNat, Nat.reduceAdd, Nat.reduceEqDiff, Nat.reduceLT, Nat.reduceLeDiff, Nat.reduceMul, reduceCtorEq, Code.c29]
  refine ⟨_, fill55 _ _ _ _ _, ?_⟩
  simp (disch := omega) only [EO, ↓EP, EQ, EM, ↓reduceIte, Int.reduceAdd, Int.reduceEq, Int.reduceLE, Int.reduceLT, Int.reduceMul, Int.reduceNeg, Int.reducePow, Int.reduceSub, Int.reduceToNat, Nat.reduceAdd, Nat.reduceEqDiff, Nat.reduceLT, Nat.reduceLeDiff, Nat.reduceMul, reduceCtorEq]
  refine al_k (nums .u32 (zs 5)) rfl fun w1 n1 => ?_
  simp (disch := omega) only [EO, ↓EP, EQ, EM, ↓reduceIte, Int.reduceAdd, Int.reduceEq, Int.reduceLE, Int.reduceLT, Int.reduceMul, Int.reduceNeg, Int.reducePow, Int.reduceSub, Int.reduceToNat, Nat.reduceAdd, Nat.reduceEqDiff, Nat.reduceLT, Nat.reduceLeDiff, Nat.reduceMul, reduceCtorEq]
  refine st_whole n1.blk rfl rfl (nums_one _ _) fun w2 p2 => ?_
  simp (disch := omega) only [EO, ↓EP, EQ, EM, ↓reduceIte, Int.reduceAdd, Int.reduceEq, Int.reduceLE, Int.reduceLT, Int.reduceMul, Int.reduceNeg, Int.reducePow, Int.reduceSub, Int.reduceToNat, Nat.reduceAdd, Nat.reduceEqDiff, Nat.reduceLT, Nat.reduceLeDiff, Nat.reduceMul, reduceCtorEq]
  have s1 := n1.size
  have s2 := p2.size
  have b2 : Below w.heap.size w w2 := p2.below (Nat.le_refl _) (n1.below (Nat.le_refl _) (Below.refl _ _))
  refine loop_inv (fun t ρ w' => ∃ j : Nat, ρ 4 = .int .i64 (64 * (j : Int)) ∧ 64 * j ≤ M.length ∧ t = M.length - 64 * j ∧ Blk w' w.heap.size (nums .u32 ((runN 1 M j).1.take 5)) ∧ Below w.heap.size w w') M.length ⟨0, by simp (disch := omega) only [EO, ↓EP, EQ, EM, ↓reduceIte, Int.reduceAdd, Int.reduceEq, Int.reduceLE, Int.reduceLT, Int.reduceMul, Int.reduceNeg, Int.reducePow, Int.reduceSub, Int.reduceToNat, Nat.reduceAdd, Nat.reduceEqDiff, Nat.reduceLT, Nat.reduceLeDiff, Nat.reduceMul, reduceCtorEq], by omega, by omega, p2.blk, b2⟩ ?_
  clear b2 n1 p2 s1 s2 w1
  rintro t ρ w3 hf ⟨j, h4, hj, rfl, hH, b3⟩ N hN
  have r0 : ρ 0 = .slice A M.length c := by rw [hf 0 rfl]; simp (disch := omega) only [EO, ↓EP, EQ, EM, ↓reduceIte, Int.reduceAdd, Int.reduceEq, Int.reduceLE, Int.reduceLT, Int.reduceMul, Int.reduceNeg, Int.reducePow, Int.reduceSub, Int.reduceToNat, Nat.reduceAdd, Nat.reduceEqDiff, Nat.reduceLT, Nat.reduceLeDiff, Nat.reduceMul, reduceCtorEq]
  have r3 : ρ 3 = .pointer (some ⟨w.heap.size, 0, none⟩) := by rw [hf 3 rfl]; simp (disch := omega) only [EO, ↓EP, EQ, EM, ↓reduceIte, Int.reduceAdd, Int.reduceEq, Int.reduceLE, Int.reduceLT, Int.reduceMul, Int.reduceNeg, Int.reducePow, Int.reduceSub, Int.reduceToNat, Nat.reduceAdd, Nat.reduceEqDiff, Nat.reduceLT, Nat.reduceLeDiff, Nat.reduceMul, reduceCtorEq]
  clear hf
  have lt3 := hH.lt
  by_cases hjl : 64 * (j : Int) < (M.length : Int)
  · have hM0 : 0 < M.length := by omega
    simp (disch := omega) only [EO, ↓EP, EQ, EM, ↓reduceIte, Int.reduceAdd, Int.reduceEq, Int.reduceLE, Int.reduceLT, Int.reduceMul, Int.reduceNeg, Int.reducePow, Int.reduceSub, Int.reduceToNat, Nat.reduceAdd, Nat.reduceEqDiff, Nat.reduceLT, Nat.reduceLeDiff, Nat.reduceMul, reduceCtorEq, h4, r0, r3]
    refine al_k (nums .u32 (zs 80)) rfl fun w4 n4 => ?_
    have b4 := n4.below (by have := b3.size; omega) b3
    have hH4 := n4.keep hH
    have hp : Rd w4 A (nums .u8 M) := hr.below b4
    generalize hpp : part 64 M j = p
    have hpb : byteL p := by rw [← hpp]; exact byteL_part hb j
    simp (disch := omega) only [EO, ↓EP, EQ, EM, ↓reduceIte, Int.reduceAdd, Int.reduceEq, Int.reduceLE, Int.reduceLT, Int.reduceMul, Int.reduceNeg, Int.reducePow, Int.reduceSub, Int.reduceToNat, Nat.reduceAdd, Nat.reduceEqDiff, Nat.reduceLT, Nat.reduceLeDiff, Nat.reduceMul, reduceCtorEq, h4, r0, r3]
    refine loop_inv (fun t ρ' w' => ∃ k : Nat, ρ' 6 = .int .i64 k ∧ k ≤ 80 ∧ t = 80 - k ∧ Blk w' w.heap.size (nums .u32 ((runN 1 M j).1.take 5)) ∧ Blk w' w3.heap.size (nums .u32 (rowN (oneWd p) 80 k)) ∧ Below w.heap.size w w') 80 ⟨0, by simp (disch := omega) only [EO, ↓EP, EQ, EM, ↓reduceIte, Int.reduceAdd, Int.reduceEq, Int.reduceLE, Int.reduceLT, Int.reduceMul, Int.reduceNeg, Int.reducePow, Int.reduceSub, Int.reduceToNat, Nat.reduceAdd, Nat.reduceEqDiff, Nat.reduceLT, Nat.reduceLeDiff, Nat.reduceMul, reduceCtorEq], by omega, by omega, hH4, n4.blk, b4⟩ ?_
    rintro t ρ5 w5 hf ⟨k, h6, hk, rfl, hH5, hW5, b5⟩ N5 hN5
    have q0 : ρ5 0 = .slice A M.length c := by rw [hf 0 rfl]; simp (disch := omega) only [EO, ↓EP, EQ, EM, ↓reduceIte, Int.reduceAdd, Int.reduceEq, Int.reduceLE, Int.reduceLT, Int.reduceMul, Int.reduceNeg, Int.reducePow, Int.reduceSub, Int.reduceToNat, Nat.reduceAdd, Nat.reduceEqDiff, Nat.reduceLT, Nat.reduceLeDiff, Nat.reduceMul, reduceCtorEq, r0]
    have q3 : ρ5 3 = .pointer (some ⟨w.heap.size, 0, none⟩) := by rw [hf 3 rfl]; simp (disch := omega) only [EO, ↓EP, EQ, EM, ↓reduceIte, Int.reduceAdd, Int.reduceEq, Int.reduceLE, Int.reduceLT, Int.reduceMul, Int.reduceNeg, Int.reducePow, Int.reduceSub, Int.reduceToNat, Nat.reduceAdd, Nat.reduceEqDiff, Nat.reduceLT, Nat.reduceLeDiff, Nat.reduceMul, reduceCtorEq, r3]
    have q4 : ρ5 4 = .int .i64 (64 * (j : Int)) := by rw [hf 4 rfl]; simp (disch := omega) only [EO, ↓EP, EQ, EM, ↓reduceIte, Int.reduceAdd, Int.reduceEq, Int.reduceLE, Int.reduceLT, Int.reduceMul, Int.reduceNeg, Int.reducePow, Int.reduceSub, Int.reduceToNat, Nat.reduceAdd, Nat.reduceEqDiff, Nat.reduceLT, Nat.reduceLeDiff, Nat.reduceMul, reduceCtorEq, h4]
    have q5 : ρ5 5 = .pointer (some ⟨w3.heap.size, 0, none⟩) := by rw [hf 5 rfl]; simp (disch := omega) only [EO, ↓EP, EQ, EM, ↓reduceIte, Int.reduceAdd, Int.reduceEq, Int.reduceLE, Int.reduceLT, Int.reduceMul, Int.reduceNeg, Int.reducePow, Int.reduceSub, Int.reduceToNat, Nat.reduceAdd, Nat.reduceEqDiff, Nat.reduceLT, Nat.reduceLeDiff, Nat.reduceMul, reduceCtorEq]
    clear hf
    have hp5 : Rd w5 A (nums .u8 M) := hr.below b5
    have hl5 := rowN_len (oneWd p) hk
    by_cases hk80 : (k : Int) < 80
    · have st : ∀ (x : Int) (m : Nat) (ρ6 : Env), x = oneWd p k → ρ6 6 = .int .i64 ((k + 1 : Nat) : Int) → (∀ w', Put (w5.drewN m) w' w3.heap.size (nums .u32 ((rowN (oneWd p) 80 k).set k x)) → endK N5 ρ6 w') := by
        intro x m ρ6 hx h6' w' pt
        rw [hx, rowN_set _ (by omega)] at pt
        exact hN5 (80 - (k + 1)) _ _ (by omega) ⟨k + 1, h6', by omega, rfl, pt.keep (by omega) (hH5.drewN m), pt.blk, pt.below (by have := b3.size; omega) (below_drewN' b5 m)⟩
      by_cases hk16 : (k : Int) < 16
      · obtain ⟨ad, e, c0, c1, c2, c3⟩ := four_at hp5 hc (lo := 64 * j + 4 * k) (by omega)
        have elo : (64 * (j : Int) + 4 * (k : Int)).toNat = 64 * j + 4 * k := by omega
        simp (disch := omega) only [EO, ↓EP, EQ, EM, ↓reduceIte, Int.reduceAdd, Int.reduceEq, Int.reduceLE, Int.reduceLT, Int.reduceMul, Int.reduceNeg, Int.reducePow, Int.reduceSub, Int.reduceToNat, Nat.reduceAdd, Nat.reduceEqDiff, Nat.reduceLT, Nat.reduceLeDiff, Nat.reduceMul, reduceCtorEq, W_join, h6, q0, q3, q4, q5, elo, e, c0, c1, c2, c3]
        intro m
        refine st_num (hW5.drewN m) (by omega) fun w6 p6 => ?_
        simp (disch := omega) only [EO, ↓EP, EQ, EM, ↓reduceIte, Int.reduceAdd, Int.reduceEq, Int.reduceLE, Int.reduceLT, Int.reduceMul, Int.reduceNeg, Int.reducePow, Int.reduceSub, Int.reduceToNat, Nat.reduceAdd, Nat.reduceEqDiff, Nat.reduceLT, Nat.reduceLeDiff, Nat.reduceMul, reduceCtorEq, h6]
        refine st _ m _ ?_ (by simp (disch := omega) only [EO, ↓EP, EQ, EM, ↓reduceIte, Int.reduceAdd, Int.reduceEq, Int.reduceLE, Int.reduceLT, Int.reduceMul, Int.reduceNeg, Int.reducePow, Int.reduceSub, Int.reduceToNat, Nat.reduceAdd, Nat.reduceEqDiff, Nat.reduceLT, Nat.reduceLeDiff, Nat.reduceMul, reduceCtorEq, h6, Int.natCast_add]) w6 p6
        rw [oneWd_lo (by omega), ← hpp]
        exact oneWd_read hb (by omega)
      · have e3 : ((k : Int) - 3).toNat = k - 3 := by omega
        have e8 : ((k : Int) - 8).toNat = k - 8 := by omega
        have e14 : ((k : Int) - 14).toNat = k - 14 := by omega
        have e16 : ((k : Int) - 16).toNat = k - 16 := by omega
        have g : ∀ i, i < k → w5.cell? ⟨w3.heap.size, i, none⟩ = some (.int .u32 (oneWd p i)) := fun i hi => by rw [hW5.numN (j := i) (by omega), rowN_at _ hi]
        have g3 := g (k - 3) (by omega)
        have g8 := g (k - 8) (by omega)
        have g14 := g (k - 14) (by omega)
        have g16 := g (k - 16) (by omega)
        simp (disch := omega) only [EO, ↓EP, EQ, EM, ↓reduceIte, Int.reduceAdd, Int.reduceEq, Int.reduceLE, Int.reduceLT, Int.reduceMul, Int.reduceNeg, Int.reducePow, Int.reduceSub, Int.reduceToNat, Nat.reduceAdd, Nat.reduceEqDiff, Nat.reduceLT, Nat.reduceLeDiff, Nat.reduceMul, reduceCtorEq, W_join, h6, q0, q3, q4, q5, e3, e8, e14, e16, g3, g8, g14, g16]
        refine left_q _ 1 (by omega) (by omega) _ _ ?_
        simp (disch := omega) only [EO, ↓EP, EQ, EM, ↓reduceIte, Int.reduceAdd, Int.reduceEq, Int.reduceLE, Int.reduceLT, Int.reduceMul, Int.reduceNeg, Int.reducePow, Int.reduceSub, Int.reduceToNat, Nat.reduceAdd, Nat.reduceEqDiff, Nat.reduceLT, Nat.reduceLeDiff, Nat.reduceMul, reduceCtorEq, h6, q5]
        intro m
        refine st_num (hW5.drewN m) (by omega) fun w6 p6 => ?_
        simp (disch := omega) only [EO, ↓EP, EQ, EM, ↓reduceIte, Int.reduceAdd, Int.reduceEq, Int.reduceLE, Int.reduceLT, Int.reduceMul, Int.reduceNeg, Int.reducePow, Int.reduceSub, Int.reduceToNat, Nat.reduceAdd, Nat.reduceEqDiff, Nat.reduceLT, Nat.reduceLeDiff, Nat.reduceMul, reduceCtorEq, h6]
        refine st _ m _ ?_ (by simp (disch := omega) only [EO, ↓EP, EQ, EM, ↓reduceIte, Int.reduceAdd, Int.reduceEq, Int.reduceLE, Int.reduceLT, Int.reduceMul, Int.reduceNeg, Int.reducePow, Int.reduceSub, Int.reduceToNat, Nat.reduceAdd, Nat.reduceEqDiff, Nat.reduceLT, Nat.reduceLeDiff, Nat.reduceMul, reduceCtorEq, h6, Int.natCast_add]) w6 p6
        rw [oneWd_hi (t := k) (by omega)]; rfl
    · have hk80 : k = 80 := by omega
      subst hk80
      clear hN5
      have hH8 : ((runN 1 M j).1.take 5).length = 5 := by rw [List.length_take, run1_len]; rfl
      have hc5 := fun (i : Nat) (g : i < 5) => hH5.numN (by omega : i < ((runN 1 M j).1.take 5).length)
      have a0 := take_at' (l := (runN 1 M j).1) (n := 5) (i := 0) (by omega)
      have a1 := take_at' (l := (runN 1 M j).1) (n := 5) (i := 1) (by omega)
      have a2 := take_at' (l := (runN 1 M j).1) (n := 5) (i := 2) (by omega)
      have a3 := take_at' (l := (runN 1 M j).1) (n := 5) (i := 3) (by omega)
      have a4 := take_at' (l := (runN 1 M j).1) (n := 5) (i := 4) (by omega)
      have h0 := hc5 0 (by omega)
      have h1 := hc5 1 (by omega)
      have h2 := hc5 2 (by omega)
      have h3 := hc5 3 (by omega)
      have h5 := hc5 4 (by omega)
      rw [a0] at h0
      rw [a1] at h1
      rw [a2] at h2
      rw [a3] at h3
      rw [a4] at h5
      clear hc5 a0 a1 a2 a3 a4
      simp (disch := omega) only [EO, ↓EP, EQ, EM, ↓reduceIte, Int.reduceAdd, Int.reduceEq, Int.reduceLE, Int.reduceLT, Int.reduceMul, Int.reduceNeg, Int.reducePow, Int.reduceSub, Int.reduceToNat, Nat.reduceAdd, Nat.reduceEqDiff, Nat.reduceLT, Nat.reduceLeDiff, Nat.reduceMul, reduceCtorEq, h6, q0, q3, q4, q5, h0, h1, h2, h3, h5]
      intro m
      refine loop_inv (oneJ w w.heap.size w3.heap.size (runN 1 M j).1 p) 80 ⟨0, by simp (disch := omega) only [EO, ↓EP, EQ, EM, ↓reduceIte, Int.reduceAdd, Int.reduceEq, Int.reduceLE, Int.reduceLT, Int.reduceMul, Int.reduceNeg, Int.reducePow, Int.reduceSub, Int.reduceToNat, Nat.reduceAdd, Nat.reduceEqDiff, Nat.reduceLT, Nat.reduceLeDiff, Nat.reduceMul, reduceCtorEq], by omega, by omega, ?_⟩ ?_
      · simp only [oneInit_0]
        simp (disch := omega) only [EO, ↓EP, EQ, EM, ↓reduceIte, Int.reduceAdd, Int.reduceEq, Int.reduceLE, Int.reduceLT, Int.reduceMul, Int.reduceNeg, Int.reducePow, Int.reduceSub, Int.reduceToNat, Nat.reduceAdd, Nat.reduceEqDiff, Nat.reduceLT, Nat.reduceLeDiff, Nat.reduceMul, reduceCtorEq]
        exact ⟨hH5.drewN m, hW5.drewN m, below_drewN' b5 m⟩
      clear h0 h1 h2 h3 h5 hl5 b4 hH4 hp n4
      rintro t ρ7 w7 hf ⟨k, h13, hk, rfl, h8, h9, h10, h11, h12, hH7, hW7, b7⟩ N7 hN7
      have y0 : ρ7 0 = .slice A M.length c := by rw [hf 0 rfl]; simp (disch := omega) only [EO, ↓EP, EQ, EM, ↓reduceIte, Int.reduceAdd, Int.reduceEq, Int.reduceLE, Int.reduceLT, Int.reduceMul, Int.reduceNeg, Int.reducePow, Int.reduceSub, Int.reduceToNat, Nat.reduceAdd, Nat.reduceEqDiff, Nat.reduceLT, Nat.reduceLeDiff, Nat.reduceMul, reduceCtorEq, q0]
      have y3 : ρ7 3 = .pointer (some ⟨w.heap.size, 0, none⟩) := by rw [hf 3 rfl]; simp (disch := omega) only [EO, ↓EP, EQ, EM, ↓reduceIte, Int.reduceAdd, Int.reduceEq, Int.reduceLE, Int.reduceLT, Int.reduceMul, Int.reduceNeg, Int.reducePow, Int.reduceSub, Int.reduceToNat, Nat.reduceAdd, Nat.reduceEqDiff, Nat.reduceLT, Nat.reduceLeDiff, Nat.reduceMul, reduceCtorEq, q3]
      have y4 : ρ7 4 = .int .i64 (64 * (j : Int)) := by rw [hf 4 rfl]; simp (disch := omega) only [EO, ↓EP, EQ, EM, ↓reduceIte, Int.reduceAdd, Int.reduceEq, Int.reduceLE, Int.reduceLT, Int.reduceMul, Int.reduceNeg, Int.reducePow, Int.reduceSub, Int.reduceToNat, Nat.reduceAdd, Nat.reduceEqDiff, Nat.reduceLT, Nat.reduceLeDiff, Nat.reduceMul, reduceCtorEq, q4]
      have y5 : ρ7 5 = .pointer (some ⟨w3.heap.size, 0, none⟩) := by rw [hf 5 rfl]; simp (disch := omega) only [EO, ↓EP, EQ, EM, ↓reduceIte, Int.reduceAdd, Int.reduceEq, Int.reduceLE, Int.reduceLT, Int.reduceMul, Int.reduceNeg, Int.reducePow, Int.reduceSub, Int.reduceToNat, Nat.reduceAdd, Nat.reduceEqDiff, Nat.reduceLT, Nat.reduceLeDiff, Nat.reduceMul, reduceCtorEq, q5]
      clear hf q0 q3 q4 q5
      have hx := oneWd_step (runN 1 M j).1 p k
      generalize hst : rounds oneStep k (oneInit (runN 1 M j).1 p) = st at h8 h9 h10 h11 h12 hx
      by_cases hk80 : (k : Int) < 80
      · have gk : w7.cell? ⟨w3.heap.size, k, none⟩ = some (.int .u32 (oneWd p k)) := by rw [hW7.numN (j := k) (by rw [rowN_len _ (Nat.le_refl _)]; omega), rowN_at _ (by omega)]
        have fin : ∀ (w8 : World) (ρ8 : Env), ρ8 13 = .int .i64 ((k + 1 : Nat) : Int) → ρ8 8 = .int .u32 (s32 (s32 (s32 (s32 (rl32 st.a 5) (oneF k st.b st.c st.d)) st.e) (oneK k)) (oneWd p k)) → ρ8 9 = .int .u32 st.a → ρ8 10 = .int .u32 (rl32 st.b 30) → ρ8 11 = .int .u32 st.c → ρ8 12 = .int .u32 st.d →
            Blk w8 w.heap.size (nums .u32 ((runN 1 M j).1.take 5)) → Blk w8 w3.heap.size (nums .u32 (rowN (oneWd p) 80 80)) → Below w.heap.size w w8 → endK N7 ρ8 w8 := by
          intro w8 ρ8 g1 g2 g3 g4 g5 g6 g7 g8 g9
          refine hN7 (80 - (k + 1)) _ _ (by omega) ⟨k + 1, g1, by omega, rfl, ?_⟩
          rw [rounds, hst, oneStep, hx]
          exact ⟨g2, g3, g4, g5, g6, g7, g8, g9⟩
        clear hN7
        have c : (k : Int) < 20 ∨ (20 ≤ (k : Int) ∧ (k : Int) < 40) ∨ (40 ≤ (k : Int) ∧ (k : Int) < 60) ∨ 60 ≤ (k : Int) := by omega
        rcases c with c | c | c | c
        · have hF : oneF k st.b st.c st.d = x32 st.d (a32 st.b (x32 st.c st.d)) := by rw [oneF, if_pos (by omega)]
          have hKK : oneK k = 1518500249 := by rw [oneK, if_pos (by omega)]
          rw [hF, hKK] at fin
          simp (disch := omega) only [EO, ↓EP, EQ, EM, ↓reduceIte, Int.reduceAdd, Int.reduceEq, Int.reduceLE, Int.reduceLT, Int.reduceMul, Int.reduceNeg, Int.reducePow, Int.reduceSub, Int.reduceToNat, Nat.reduceAdd, Nat.reduceEqDiff, Nat.reduceLT, Nat.reduceLeDiff, Nat.reduceMul, reduceCtorEq, W_join, h13, y3, y5, h8, h9, h10, h11, h12, gk]
          refine left_q _ 5 (by omega) (by omega) _ _ ?_
          simp (disch := omega) only [EO, ↓EP, EQ, EM, ↓reduceIte, Int.reduceAdd, Int.reduceEq, Int.reduceLE, Int.reduceLT, Int.reduceMul, Int.reduceNeg, Int.reducePow, Int.reduceSub, Int.reduceToNat, Nat.reduceAdd, Nat.reduceEqDiff, Nat.reduceLT, Nat.reduceLeDiff, Nat.reduceMul, reduceCtorEq, h13, y5, h8, h9, h10, h11, h12, gk]
          intro m1
          refine left_d _ 30 (by omega) (by omega) _ _ fun m2 => ?_
          simp (disch := omega) only [EO, ↓EP, EQ, EM, ↓reduceIte, Int.reduceAdd, Int.reduceEq, Int.reduceLE, Int.reduceLT, Int.reduceMul, Int.reduceNeg, Int.reducePow, Int.reduceSub, Int.reduceToNat, Nat.reduceAdd, Nat.reduceEqDiff, Nat.reduceLT, Nat.reduceLeDiff, Nat.reduceMul, reduceCtorEq, h13, h8, h9, h10, h11, h12]
          refine fin _ _ ?_ ?_ ?_ ?_ ?_ ?_ (hH7.drewN _) (hW7.drewN _) (below_drewN' b7 _)
          all_goals (simp (disch := omega) only [EO, ↓EP, EQ, EM, ↓reduceIte, Int.reduceAdd, Int.reduceEq, Int.reduceLE, Int.reduceLT, Int.reduceMul, Int.reduceNeg, Int.reducePow, Int.reduceSub, Int.reduceToNat, Nat.reduceAdd, Nat.reduceEqDiff, Nat.reduceLT, Nat.reduceLeDiff, Nat.reduceMul, reduceCtorEq, h13, h8, h9, h10, h11, h12, s32, Int.natCast_add, not_u32, ch32])
        · have hF : oneF k st.b st.c st.d = x32 (x32 st.b st.c) st.d := by rw [oneF, if_neg (by omega), if_pos (by omega)]
          have hKK : oneK k = 1859775393 := by rw [oneK, if_neg (by omega), if_pos (by omega)]
          rw [hF, hKK] at fin
          simp (disch := omega) only [EO, ↓EP, EQ, EM, ↓reduceIte, Int.reduceAdd, Int.reduceEq, Int.reduceLE, Int.reduceLT, Int.reduceMul, Int.reduceNeg, Int.reducePow, Int.reduceSub, Int.reduceToNat, Nat.reduceAdd, Nat.reduceEqDiff, Nat.reduceLT, Nat.reduceLeDiff, Nat.reduceMul, reduceCtorEq, W_join, h13, y3, y5, h8, h9, h10, h11, h12, gk]
          refine left_q _ 5 (by omega) (by omega) _ _ ?_
          simp (disch := omega) only [EO, ↓EP, EQ, EM, ↓reduceIte, Int.reduceAdd, Int.reduceEq, Int.reduceLE, Int.reduceLT, Int.reduceMul, Int.reduceNeg, Int.reducePow, Int.reduceSub, Int.reduceToNat, Nat.reduceAdd, Nat.reduceEqDiff, Nat.reduceLT, Nat.reduceLeDiff, Nat.reduceMul, reduceCtorEq, h13, y5, h8, h9, h10, h11, h12, gk]
          intro m1
          refine left_d _ 30 (by omega) (by omega) _ _ fun m2 => ?_
          simp (disch := omega) only [EO, ↓EP, EQ, EM, ↓reduceIte, Int.reduceAdd, Int.reduceEq, Int.reduceLE, Int.reduceLT, Int.reduceMul, Int.reduceNeg, Int.reducePow, Int.reduceSub, Int.reduceToNat, Nat.reduceAdd, Nat.reduceEqDiff, Nat.reduceLT, Nat.reduceLeDiff, Nat.reduceMul, reduceCtorEq, h13, h8, h9, h10, h11, h12]
          refine fin _ _ ?_ ?_ ?_ ?_ ?_ ?_ (hH7.drewN _) (hW7.drewN _) (below_drewN' b7 _)
          all_goals (simp (disch := omega) only [EO, ↓EP, EQ, EM, ↓reduceIte, Int.reduceAdd, Int.reduceEq, Int.reduceLE, Int.reduceLT, Int.reduceMul, Int.reduceNeg, Int.reducePow, Int.reduceSub, Int.reduceToNat, Nat.reduceAdd, Nat.reduceEqDiff, Nat.reduceLT, Nat.reduceLeDiff, Nat.reduceMul, reduceCtorEq, h13, h8, h9, h10, h11, h12, s32, Int.natCast_add, x32])
        · have hF : oneF k st.b st.c st.d = o32 (a32 st.b st.c) (a32 st.d (o32 st.b st.c)) := by rw [oneF, if_neg (by omega), if_neg (by omega), if_pos (by omega)]
          have hKK : oneK k = 2400959708 := by rw [oneK, if_neg (by omega), if_neg (by omega), if_pos (by omega)]
          rw [hF, hKK] at fin
          simp (disch := omega) only [EO, ↓EP, EQ, EM, ↓reduceIte, Int.reduceAdd, Int.reduceEq, Int.reduceLE, Int.reduceLT, Int.reduceMul, Int.reduceNeg, Int.reducePow, Int.reduceSub, Int.reduceToNat, Nat.reduceAdd, Nat.reduceEqDiff, Nat.reduceLT, Nat.reduceLeDiff, Nat.reduceMul, reduceCtorEq, W_join, h13, y3, y5, h8, h9, h10, h11, h12, gk]
          refine left_q _ 5 (by omega) (by omega) _ _ ?_
          simp (disch := omega) only [EO, ↓EP, EQ, EM, ↓reduceIte, Int.reduceAdd, Int.reduceEq, Int.reduceLE, Int.reduceLT, Int.reduceMul, Int.reduceNeg, Int.reducePow, Int.reduceSub, Int.reduceToNat, Nat.reduceAdd, Nat.reduceEqDiff, Nat.reduceLT, Nat.reduceLeDiff, Nat.reduceMul, reduceCtorEq, h13, y5, h8, h9, h10, h11, h12, gk]
          intro m1
          refine left_d _ 30 (by omega) (by omega) _ _ fun m2 => ?_
          simp (disch := omega) only [EO, ↓EP, EQ, EM, ↓reduceIte, Int.reduceAdd, Int.reduceEq, Int.reduceLE, Int.reduceLT, Int.reduceMul, Int.reduceNeg, Int.reducePow, Int.reduceSub, Int.reduceToNat, Nat.reduceAdd, Nat.reduceEqDiff, Nat.reduceLT, Nat.reduceLeDiff, Nat.reduceMul, reduceCtorEq, h13, h8, h9, h10, h11, h12]
          refine fin _ _ ?_ ?_ ?_ ?_ ?_ ?_ (hH7.drewN _) (hW7.drewN _) (below_drewN' b7 _)
          all_goals (simp (disch := omega) only [EO, ↓EP, EQ, EM, ↓reduceIte, Int.reduceAdd, Int.reduceEq, Int.reduceLE, Int.reduceLT, Int.reduceMul, Int.reduceNeg, Int.reducePow, Int.reduceSub, Int.reduceToNat, Nat.reduceAdd, Nat.reduceEqDiff, Nat.reduceLT, Nat.reduceLeDiff, Nat.reduceMul, reduceCtorEq, h13, h8, h9, h10, h11, h12, s32, Int.natCast_add, maj32])
        · have hF : oneF k st.b st.c st.d = x32 (x32 st.b st.c) st.d := by rw [oneF, if_neg (by omega), if_neg (by omega), if_neg (by omega)]
          have hKK : oneK k = 3395469782 := by rw [oneK, if_neg (by omega), if_neg (by omega), if_neg (by omega)]
          rw [hF, hKK] at fin
          simp (disch := omega) only [EO, ↓EP, EQ, EM, ↓reduceIte, Int.reduceAdd, Int.reduceEq, Int.reduceLE, Int.reduceLT, Int.reduceMul, Int.reduceNeg, Int.reducePow, Int.reduceSub, Int.reduceToNat, Nat.reduceAdd, Nat.reduceEqDiff, Nat.reduceLT, Nat.reduceLeDiff, Nat.reduceMul, reduceCtorEq, W_join, h13, y3, y5, h8, h9, h10, h11, h12, gk]
          refine left_q _ 5 (by omega) (by omega) _ _ ?_
          simp (disch := omega) only [EO, ↓EP, EQ, EM, ↓reduceIte, Int.reduceAdd, Int.reduceEq, Int.reduceLE, Int.reduceLT, Int.reduceMul, Int.reduceNeg, Int.reducePow, Int.reduceSub, Int.reduceToNat, Nat.reduceAdd, Nat.reduceEqDiff, Nat.reduceLT, Nat.reduceLeDiff, Nat.reduceMul, reduceCtorEq, h13, y5, h8, h9, h10, h11, h12, gk]
          intro m1
          refine left_d _ 30 (by omega) (by omega) _ _ fun m2 => ?_
          simp (disch := omega) only [EO, ↓EP, EQ, EM, ↓reduceIte, Int.reduceAdd, Int.reduceEq, Int.reduceLE, Int.reduceLT, Int.reduceMul, Int.reduceNeg, Int.reducePow, Int.reduceSub, Int.reduceToNat, Nat.reduceAdd, Nat.reduceEqDiff, Nat.reduceLT, Nat.reduceLeDiff, Nat.reduceMul, reduceCtorEq, h13, h8, h9, h10, h11, h12]
          refine fin _ _ ?_ ?_ ?_ ?_ ?_ ?_ (hH7.drewN _) (hW7.drewN _) (below_drewN' b7 _)
          all_goals (simp (disch := omega) only [EO, ↓EP, EQ, EM, ↓reduceIte, Int.reduceAdd, Int.reduceEq, Int.reduceLE, Int.reduceLT, Int.reduceMul, Int.reduceNeg, Int.reducePow, Int.reduceSub, Int.reduceToNat, Nat.reduceAdd, Nat.reduceEqDiff, Nat.reduceLT, Nat.reduceLeDiff, Nat.reduceMul, reduceCtorEq, h13, h8, h9, h10, h11, h12, s32, Int.natCast_add, x32])
      · have hk80' : k = 80 := by omega
        subst hk80'
        clear hN7
        have g : ∀ i : Nat, i < 5 → w7.cell? ⟨w.heap.size, i, none⟩ = some (.int .u32 (at' (runN 1 M j).1 (i : Int))) := fun i hi => by rw [hH7.numN (j := i) (by rw [hH8]; exact hi), take_at' hi]
        have h0 := g 0 (by omega)
        have h1 := g 1 (by omega)
        have h2 := g 2 (by omega)
        have h3 := g 3 (by omega)
        have h5 := g 4 (by omega)
        simp (disch := omega) only [EO, ↓EP, EQ, EM, ↓reduceIte, Int.reduceAdd, Int.reduceEq, Int.reduceLE, Int.reduceLT, Int.reduceMul, Int.reduceNeg, Int.reducePow, Int.reduceSub, Int.reduceToNat, Nat.reduceAdd, Nat.reduceEqDiff, Nat.reduceLT, Nat.reduceLeDiff, Nat.reduceMul, reduceCtorEq, h13, y0, y3, y4, y5, h8, h9, h10, h11, h12, h0, h1, h2, h3, h5]
        refine ⟨_, fill55 _ _ _ _ _, ?_⟩
        simp (disch := omega) only [EO, ↓EP, EQ, EM, ↓reduceIte, Int.reduceAdd, Int.reduceEq, Int.reduceLE, Int.reduceLT, Int.reduceMul, Int.reduceNeg, Int.reducePow, Int.reduceSub, Int.reduceToNat, Nat.reduceAdd, Nat.reduceEqDiff, Nat.reduceLT, Nat.reduceLeDiff, Nat.reduceMul, reduceCtorEq, y0, y3, y4]
        refine st_whole hH7 (by rw [nums_length]; rfl) (by rw [nums_length, hH8]) (nums_one _ _) fun w8 p8 => ?_
        simp (disch := omega) only [EO, ↓EP, EQ, EM, ↓reduceIte, Int.reduceAdd, Int.reduceEq, Int.reduceLE, Int.reduceLT, Int.reduceMul, Int.reduceNeg, Int.reducePow, Int.reduceSub, Int.reduceToNat, Nat.reduceAdd, Nat.reduceEqDiff, Nat.reduceLT, Nat.reduceLeDiff, Nat.reduceMul, reduceCtorEq, y4]
        refine hN (M.length - 64 * (j + 1)) _ _ (by omega) ⟨j + 1, by simp (disch := omega) only [EO, ↓EP, EQ, EM, ↓reduceIte, Int.reduceAdd, Int.reduceEq, Int.reduceLE, Int.reduceLT, Int.reduceMul, Int.reduceNeg, Int.reducePow, Int.reduceSub, Int.reduceToNat, Nat.reduceAdd, Nat.reduceEqDiff, Nat.reduceLT, Nat.reduceLeDiff, Nat.reduceMul, reduceCtorEq, y4]; congr 1, by omega, rfl, ?_, p8.below (Nat.le_refl _) b7⟩
        have e := run1_succ M j
        rw [hpp] at e
        rw [e, one, hst]
        exact p8.blk
  · have hje : M.length / 64 = j := by omega
    simp (disch := omega) only [EO, ↓EP, EQ, EM, ↓reduceIte, Int.reduceAdd, Int.reduceEq, Int.reduceLE, Int.reduceLT, Int.reduceMul, Int.reduceNeg, Int.reducePow, Int.reduceSub, Int.reduceToNat, Nat.reduceAdd, Nat.reduceEqDiff, Nat.reduceLT, Nat.reduceLeDiff, Nat.reduceMul, reduceCtorEq, h4, r0, r3]
    clear hN
    rw [hje] at hK
    have hH8 : ((runN 1 M j).1.take 5).length = 5 := by rw [List.length_take, run1_len]; rfl
    have f3 : Fr w w3 nob := fr_of b3 rfl
    refine loop_inv (fun t ρ w' => ∃ (i : Nat) (O : Value), ρ 18 = .int .i64 i ∧ ρ 17 = O ∧ i ≤ 5 ∧ t = 5 - i ∧ Gw .u8 w3 w' O ((List.range i).flatMap fun (i : Nat) => w4 (at' (runN 1 M j).1 (i : Int)))) 5 ⟨0, .slice none 0 0, by simp (disch := omega) only [EO, ↓EP, EQ, EM, ↓reduceIte, Int.reduceAdd, Int.reduceEq, Int.reduceLE, Int.reduceLT, Int.reduceMul, Int.reduceNeg, Int.reducePow, Int.reduceSub, Int.reduceToNat, Nat.reduceAdd, Nat.reduceEqDiff, Nat.reduceLT, Nat.reduceLeDiff, Nat.reduceMul, reduceCtorEq], by simp (disch := omega) only [EO, ↓EP, EQ, EM, ↓reduceIte, Int.reduceAdd, Int.reduceEq, Int.reduceLE, Int.reduceLT, Int.reduceMul, Int.reduceNeg, Int.reducePow, Int.reduceSub, Int.reduceToNat, Nat.reduceAdd, Nat.reduceEqDiff, Nat.reduceLT, Nat.reduceLeDiff, Nat.reduceMul, reduceCtorEq], by omega, by omega, Gw.nil _ _⟩ ?_
    rintro t ρ8 w8 hf ⟨i, O, h18, h17, hi, rfl, G⟩ N hN
    have q3 : ρ8 3 = .pointer (some ⟨w.heap.size, 0, none⟩) := by rw [hf 3 rfl]; simp (disch := omega) only [EO, ↓EP, EQ, EM, ↓reduceIte, Int.reduceAdd, Int.reduceEq, Int.reduceLE, Int.reduceLT, Int.reduceMul, Int.reduceNeg, Int.reducePow, Int.reduceSub, Int.reduceToNat, Nat.reduceAdd, Nat.reduceEqDiff, Nat.reduceLT, Nat.reduceLeDiff, Nat.reduceMul, reduceCtorEq, r3]
    clear hf
    by_cases hi5 : (i : Int) < 5
    · have hcw : w8.cell? ⟨w.heap.size, i, none⟩ = some (.int .u32 (at' (runN 1 M j).1 (i : Int))) := by rw [(hH.nb G.fr).numN (j := i) (by omega), take_at' (by omega)]
      have hgl := flat_len (f := fun (i : Nat) => w4 (at' (runN 1 M j).1 (i : Int))) (n := 4) (fun _ => rfl) i
      simp (disch := omega) only [EO, ↓EP, EQ, EM, ↓reduceIte, Int.reduceAdd, Int.reduceEq, Int.reduceLE, Int.reduceLT, Int.reduceMul, Int.reduceNeg, Int.reducePow, Int.reduceSub, Int.reduceToNat, Nat.reduceAdd, Nat.reduceEqDiff, Nat.reduceLT, Nat.reduceLeDiff, Nat.reduceMul, reduceCtorEq, h18, h17, q3, hcw]
      intro m1
      have G1 := G.drewN (1 + m1)
      refine bsl4 fun w9 n9 => ?_
      have G2 := G1.new n9
      simp (disch := omega) only [EO, ↓EP, EQ, EM, ↓reduceIte, Int.reduceAdd, Int.reduceEq, Int.reduceLE, Int.reduceLT, Int.reduceMul, Int.reduceNeg, Int.reducePow, Int.reduceSub, Int.reduceToNat, Nat.reduceAdd, Nat.reduceEqDiff, Nat.reduceLT, Nat.reduceLeDiff, Nat.reduceMul, reduceCtorEq, h17]
      intro m2
      refine app_num (G2.drewN m2).sl rfl (n9.rdl.drewN m2) (by rw [hgl]; simp only [List.length_cons, List.length_nil]; omega) (by omega) fun v10 w10 a10 => ?_
      have G3 := (G2.drewN m2).apd a10
      simp (disch := omega) only [EO, ↓EP, EQ, EM, ↓reduceIte, Int.reduceAdd, Int.reduceEq, Int.reduceLE, Int.reduceLT, Int.reduceMul, Int.reduceNeg, Int.reducePow, Int.reduceSub, Int.reduceToNat, Nat.reduceAdd, Nat.reduceEqDiff, Nat.reduceLT, Nat.reduceLeDiff, Nat.reduceMul, reduceCtorEq, h18]
      intro m3
      refine hN (5 - (i + 1)) _ _ (by omega) ⟨i + 1, v10, by simp (disch := omega) only [EO, ↓EP, EQ, EM, ↓reduceIte, Int.reduceAdd, Int.reduceEq, Int.reduceLE, Int.reduceLT, Int.reduceMul, Int.reduceNeg, Int.reducePow, Int.reduceSub, Int.reduceToNat, Nat.reduceAdd, Nat.reduceEqDiff, Nat.reduceLT, Nat.reduceLeDiff, Nat.reduceMul, reduceCtorEq, h18, Int.natCast_add], by simp (disch := omega) only [EO, ↓EP, EQ, EM, ↓reduceIte, Int.reduceAdd, Int.reduceEq, Int.reduceLE, Int.reduceLT, Int.reduceMul, Int.reduceNeg, Int.reducePow, Int.reduceSub, Int.reduceToNat, Nat.reduceAdd, Nat.reduceEqDiff, Nat.reduceLT, Nat.reduceLeDiff, Nat.reduceMul, reduceCtorEq], by omega, rfl, ?_⟩
      rw [flat_succ]
      exact G3.drewN m3
    · have hie : i = 5 := by omega
      subst hie
      simp (disch := omega) only [EO, ↓EP, EQ, EM, ↓reduceIte, Int.reduceAdd, Int.reduceEq, Int.reduceLE, Int.reduceLT, Int.reduceMul, Int.reduceNeg, Int.reducePow, Int.reduceSub, Int.reduceToNat, Nat.reduceAdd, Nat.reduceEqDiff, Nat.reduceLT, Nat.reduceLeDiff, Nat.reduceMul, reduceCtorEq, h18, h17]
      exact hK O w8 (G.from f3)
end Go.Proofs.YtibccpfocbdmaaaDoor.Spec
