/- The document's digests: messages that are filled up. -/
import Derived.Test.YtibccpfocbdmaaaDoorRe2
import Derived.Test.YtibccpfocbdmaaaDoorEngM
set_option linter.unusedVariables false
set_option linter.unusedSimpArgs false
namespace Go.Proofs.YtibccpfocbdmaaaDoor.Spec
open Go Go.RowKit Go.Proofs Go.Proofs.YtibccpfocbdmaaaDoor.Eng Go.Proofs.YtibccpfocbdmaaaDoor.Code
set_option maxRecDepth 100000
attribute [local irreducible] callK S.W opsW scrW one

def zT (bs n : Nat) : Nat := zeros1 bs (n % bs) + zeros2 bs (n % bs)
def zA (bs n : Nat) : Nat := zT bs n - (bs / 8 - 8)
def fillF (bs : Nat) (m : List Int) : List Int := m ++ [128] ++ List.replicate (zT bs m.length) 0 ++ (List.range 8).map (lenB m.length)
def gB (r n j : Nat) : Int := if (r : Int) - 1 - j < 8 then lenB n (j - (r - 8)) else 0
theorem gB_all {r : Nat} (h : r = 8 ∨ r = 16) (n : Nat) : (List.range r).map (gB r n) = List.replicate (r - 8) 0 ++ (List.range 8).map (lenB n) := by
  rcases h with rfl | rfl <;> rfl
theorem zA_no {bs n z : Nat} (h : bs = 64 ∨ bs = 128) (hz : z < zA bs n) : (((n + 1 + z : Nat) : Int) + (bs / 8 : Nat)) % (bs : Int) ≠ 0 := by
  unfold zA zT zeros1 zeros2 at hz
  rcases h with rfl | rfl <;> split at hz <;> split at hz <;> omega
theorem zA_yes {bs n : Nat} (h : bs = 64 ∨ bs = 128) : (((n + 1 + zA bs n : Nat) : Int) + (bs / 8 : Nat)) % (bs : Int) = 0 := by
  unfold zA zT zeros1 zeros2
  rcases h with rfl | rfl <;> split <;> split <;> omega
theorem zA_le {bs n : Nat} (h : bs = 64 ∨ bs = 128) : zA bs n ≤ 260 ∧ zA bs n + (bs / 8 - 8) = zT bs n := by
  unfold zA zT zeros1 zeros2
  rcases h with rfl | rfl <;> split <;> split <;> omega
theorem fill_len {bs : Nat} (h : bs = 64 ∨ bs = 128) (m : List Int) : (fillF bs m).length % bs = 0 ∧ (fillF bs m).length ≤ m.length + 300 ∧ 0 < (fillF bs m).length := by
  simp only [fillF, List.length_append, List.length_replicate, List.length_map, List.length_range, List.length_cons, List.length_nil]
  unfold zT zeros1 zeros2
  rcases h with rfl | rfl <;> split <;> split <;> omega

set_option maxHeartbeats 1000000 in
theorem filled_vw {w : World} {v : Value} {m : List Int} {bs : Nat} (hv : Vw .u8 w v m) (hb : bs = 64 ∨ bs = 128) (hm : m.length ≤ 16777216) (K : Value → World → Prop)
    (hK : ∀ v' w', Gw .u8 w w' v' (fillF bs m) → K v' w') : callK Tryd.prog 30 [v, .int .i64 bs] w K := by
  obtain ⟨A, c, rfl, hc, hr⟩ := hv
  refine call_of Tryd.func30 Code.h30 (by simp [Code.c30]) ?_
  simp (disch := omega) only [EO, ↓EP, EQ, EM, ↓reduceIte, Int.reduceAdd, Int.reduceEq, Int.reduceLE, Int.reduceLT, Int.reduceMul, Int.reduceNeg, Int.reducePow, Int.reduceSub, Int.reduceToNat, Nat.reduceAdd, Nat.reduceEqDiff, Nat.reduceLT, Nat.reduceLeDiff, Nat.reduceMul, reduceCtorEq, Code.c30]
  have er : (bs : Int) / 8 = ((bs / 8 : Nat) : Int) := by omega
  have hr8 : bs / 8 = 8 ∨ bs / 8 = 16 := by omega
  obtain ⟨hz1, hz2⟩ := zA_le (n := m.length) hb
  refine al_k (nums .u8 []) rfl fun w1 n1 => ?_
  have g1 : Gw .u8 w w1 (.slice (some ⟨w.heap.size, 0, none⟩) 0 0) [] := ⟨n1.sl, fun b e => by cases e; exact Nat.le_refl _, n1.fr nob⟩
  simp (disch := omega) only [EO, ↓EP, EQ, EM, ↓reduceIte, Int.reduceAdd, Int.reduceEq, Int.reduceLE, Int.reduceLT, Int.reduceMul, Int.reduceNeg, Int.reducePow, Int.reduceSub, Int.reduceToNat, Nat.reduceAdd, Nat.reduceEqDiff, Nat.reduceLT, Nat.reduceLeDiff, Nat.reduceMul, reduceCtorEq]
  refine app_num g1.sl rfl (hr.nb (n1.fr nob)) (by rw [List.length_nil]; omega) (by omega) fun v2 w2 a2 => ?_
  have g2 := g1.apd a2
  rw [List.nil_append] at g2
  simp (disch := omega) only [EO, ↓EP, EQ, EM, ↓reduceIte, Int.reduceAdd, Int.reduceEq, Int.reduceLE, Int.reduceLT, Int.reduceMul, Int.reduceNeg, Int.reducePow, Int.reduceSub, Int.reduceToNat, Nat.reduceAdd, Nat.reduceEqDiff, Nat.reduceLT, Nat.reduceLeDiff, Nat.reduceMul, reduceCtorEq]
  refine bsl1 fun w3 n3 => ?_
  have g3 := g2.new n3
  simp (disch := omega) only [EO, ↓EP, EQ, EM, ↓reduceIte, Int.reduceAdd, Int.reduceEq, Int.reduceLE, Int.reduceLT, Int.reduceMul, Int.reduceNeg, Int.reducePow, Int.reduceSub, Int.reduceToNat, Nat.reduceAdd, Nat.reduceEqDiff, Nat.reduceLT, Nat.reduceLeDiff, Nat.reduceMul, reduceCtorEq]
  refine app_num g3.sl rfl n3.rdl (by simp; omega) (by omega) fun v4 w4 a4 => ?_
  have g4 := g3.apd a4
  simp (disch := omega) only [EO, ↓EP, EQ, EM, ↓reduceIte, Int.reduceAdd, Int.reduceEq, Int.reduceLE, Int.reduceLT, Int.reduceMul, Int.reduceNeg, Int.reducePow, Int.reduceSub, Int.reduceToNat, Nat.reduceAdd, Nat.reduceEqDiff, Nat.reduceLT, Nat.reduceLeDiff, Nat.reduceMul, reduceCtorEq]
  generalize hR : bs / 8 = R at *
  refine loop_inv (fun t ρ w' => ∃ (z : Nat) (T : Value), ρ 6 = T ∧ z ≤ zA bs m.length ∧ t = zA bs m.length - z ∧ Gw .u8 w w' T (m ++ [128] ++ List.replicate z 0)) (zA bs m.length) ⟨0, v4, by simp (disch := omega) only [EO, ↓EP, EQ, EM, ↓reduceIte, Int.reduceAdd, Int.reduceEq, Int.reduceLE, Int.reduceLT, Int.reduceMul, Int.reduceNeg, Int.reducePow, Int.reduceSub, Int.reduceToNat, Nat.reduceAdd, Nat.reduceEqDiff, Nat.reduceLT, Nat.reduceLeDiff, Nat.reduceMul, reduceCtorEq], Nat.zero_le _, rfl, by simpa using g4⟩ ?_
  clear g1 g2 g3 g4 a2 a4 n1 n3
  rintro t ρ w5 hf ⟨z, T, h6, hz, rfl, G⟩ N hN
  have r0 : ρ 0 = .slice A m.length c := by rw [hf 0 rfl]; simp (disch := omega) only [EO, ↓EP, EQ, EM, ↓reduceIte, Int.reduceAdd, Int.reduceEq, Int.reduceLE, Int.reduceLT, Int.reduceMul, Int.reduceNeg, Int.reducePow, Int.reduceSub, Int.reduceToNat, Nat.reduceAdd, Nat.reduceEqDiff, Nat.reduceLT, Nat.reduceLeDiff, Nat.reduceMul, reduceCtorEq]
  have r1 : ρ 1 = .int .i64 bs := by rw [hf 1 rfl]; simp (disch := omega) only [EO, ↓EP, EQ, EM, ↓reduceIte, Int.reduceAdd, Int.reduceEq, Int.reduceLE, Int.reduceLT, Int.reduceMul, Int.reduceNeg, Int.reducePow, Int.reduceSub, Int.reduceToNat, Nat.reduceAdd, Nat.reduceEqDiff, Nat.reduceLT, Nat.reduceLeDiff, Nat.reduceMul, reduceCtorEq]
  have r5 : ρ 5 = .int .i64 R := by rw [hf 5 rfl]; simp (disch := omega) only [EO, ↓EP, EQ, EM, ↓reduceIte, Int.reduceAdd, Int.reduceEq, Int.reduceLE, Int.reduceLT, Int.reduceMul, Int.reduceNeg, Int.reducePow, Int.reduceSub, Int.reduceToNat, Nat.reduceAdd, Nat.reduceEqDiff, Nat.reduceLT, Nat.reduceLeDiff, Nat.reduceMul, reduceCtorEq, er]
  clear hf
  obtain ⟨TA, tc, rfl, htc, hTd⟩ := readn G.sl (n := m.length + 1 + z) (by simp; omega)
  by_cases hzz : z < zA bs m.length
  · have hcond := eq_false (zA_no hb hzz)
    rw [hR] at hcond
    simp (disch := omega) only [EO, ↓EP, EQ, EM, ↓reduceIte, Int.reduceAdd, Int.reduceEq, Int.reduceLE, Int.reduceLT, Int.reduceMul, Int.reduceNeg, Int.reducePow, Int.reduceSub, Int.reduceToNat, Nat.reduceAdd, Nat.reduceEqDiff, Nat.reduceLT, Nat.reduceLeDiff, Nat.reduceMul, reduceCtorEq, h6, r1, r5, hcond]
    refine bsl1 fun w7 n7 => ?_
    have G7 := G.new n7
    simp (disch := omega) only [EO, ↓EP, EQ, EM, ↓reduceIte, Int.reduceAdd, Int.reduceEq, Int.reduceLE, Int.reduceLT, Int.reduceMul, Int.reduceNeg, Int.reducePow, Int.reduceSub, Int.reduceToNat, Nat.reduceAdd, Nat.reduceEqDiff, Nat.reduceLT, Nat.reduceLeDiff, Nat.reduceMul, reduceCtorEq, h6]
    refine app_num G7.sl rfl n7.rdl (by simp; omega) (by omega) fun v8 w8 a8 => ?_
    have G8 := G7.apd a8
    simp (disch := omega) only [EO, ↓EP, EQ, EM, ↓reduceIte, Int.reduceAdd, Int.reduceEq, Int.reduceLE, Int.reduceLT, Int.reduceMul, Int.reduceNeg, Int.reducePow, Int.reduceSub, Int.reduceToNat, Nat.reduceAdd, Nat.reduceEqDiff, Nat.reduceLT, Nat.reduceLeDiff, Nat.reduceMul, reduceCtorEq]
    refine hN (zA bs m.length - (z + 1)) _ _ (by omega) ⟨z + 1, v8, by simp (disch := omega) only [EO, ↓EP, EQ, EM, ↓reduceIte, Int.reduceAdd, Int.reduceEq, Int.reduceLE, Int.reduceLT, Int.reduceMul, Int.reduceNeg, Int.reducePow, Int.reduceSub, Int.reduceToNat, Nat.reduceAdd, Nat.reduceEqDiff, Nat.reduceLT, Nat.reduceLeDiff, Nat.reduceMul, reduceCtorEq], by omega, rfl, ?_⟩
    rw [List.replicate_succ', ← List.append_assoc]; exact G8
  have hze : z = zA bs m.length := by omega
  subst hze
  have hcond := zA_yes (n := m.length) hb
  rw [hR] at hcond
  simp (disch := omega) only [EO, ↓EP, EQ, EM, ↓reduceIte, Int.reduceAdd, Int.reduceEq, Int.reduceLE, Int.reduceLT, Int.reduceMul, Int.reduceNeg, Int.reducePow, Int.reduceSub, Int.reduceToNat, Nat.reduceAdd, Nat.reduceEqDiff, Nat.reduceLT, Nat.reduceLeDiff, Nat.reduceMul, reduceCtorEq, h6, r1, r5, hcond]
  clear hN hcond
  refine loop_inv (fun t ρ w' => ∃ (j : Nat) (T : Value), ρ 7 = .int .i64 ((R : Int) - 1 - j) ∧ ρ 6 = T ∧ j ≤ R ∧ t = R - j ∧ Gw .u8 w w' T (m ++ [128] ++ List.replicate (zA bs m.length) 0 ++ (List.range j).map (gB R m.length))) R ⟨0, .slice TA (m.length + 1 + zA bs m.length) tc, by simp (disch := omega) only [EO, ↓EP, EQ, EM, ↓reduceIte, Int.reduceAdd, Int.reduceEq, Int.reduceLE, Int.reduceLT, Int.reduceMul, Int.reduceNeg, Int.reducePow, Int.reduceSub, Int.reduceToNat, Nat.reduceAdd, Nat.reduceEqDiff, Nat.reduceLT, Nat.reduceLeDiff, Nat.reduceMul, reduceCtorEq]; rw [Int.sub_zero], by simp (disch := omega) only [EO, ↓EP, EQ, EM, ↓reduceIte, Int.reduceAdd, Int.reduceEq, Int.reduceLE, Int.reduceLT, Int.reduceMul, Int.reduceNeg, Int.reducePow, Int.reduceSub, Int.reduceToNat, Nat.reduceAdd, Nat.reduceEqDiff, Nat.reduceLT, Nat.reduceLeDiff, Nat.reduceMul, reduceCtorEq, h6], Nat.zero_le _, rfl, by simpa using G⟩ ?_
  clear G hTd
  rintro t ρ8 w8 hf ⟨j, T, h7, h6', hj, rfl, G⟩ N hN
  have q0 : ρ8 0 = .slice A m.length c := by rw [hf 0 rfl]; simp (disch := omega) only [EO, ↓EP, EQ, EM, ↓reduceIte, Int.reduceAdd, Int.reduceEq, Int.reduceLE, Int.reduceLT, Int.reduceMul, Int.reduceNeg, Int.reducePow, Int.reduceSub, Int.reduceToNat, Nat.reduceAdd, Nat.reduceEqDiff, Nat.reduceLT, Nat.reduceLeDiff, Nat.reduceMul, reduceCtorEq, r0]
  clear hf
  by_cases hjr : (0 : Int) ≤ (R : Int) - 1 - j
  · have fin : ∀ ρ9 : Env, ρ9 6 = T → ρ9 7 = .int .i64 ((R : Int) - 1 - j) → ρ9 8 = .int .u8 (gB R m.length j) → True := fun _ _ _ _ => trivial
    by_cases h8 : (R : Int) - 1 - j < 8
    · have e2 : min (8 * ((R : Int) - 1 - j)).toNat 64 = 56 - 8 * (j - (R - 8)) := by omega
      have eg : gB R m.length j = IntKind.u8.wrap ((IntKind.u64.wrap (8 * (m.length : Int))).fdiv (2 ^ (56 - 8 * (j - (R - 8))))) := by rw [gB, if_pos h8]; rfl
      simp (disch := omega) only [EO, ↓EP, EQ, EM, ↓reduceIte, Int.reduceAdd, Int.reduceEq, Int.reduceLE, Int.reduceLT, Int.reduceMul, Int.reduceNeg, Int.reducePow, Int.reduceSub, Int.reduceToNat, Nat.reduceAdd, Nat.reduceEqDiff, Nat.reduceLT, Nat.reduceLeDiff, Nat.reduceMul, reduceCtorEq, W_join, h7, h6', q0, e2]
      refine bsl1 fun w9 n9 => ?_
      have G9 := G.new n9
      simp (disch := omega) only [EO, ↓EP, EQ, EM, ↓reduceIte, Int.reduceAdd, Int.reduceEq, Int.reduceLE, Int.reduceLT, Int.reduceMul, Int.reduceNeg, Int.reducePow, Int.reduceSub, Int.reduceToNat, Nat.reduceAdd, Nat.reduceEqDiff, Nat.reduceLT, Nat.reduceLeDiff, Nat.reduceMul, reduceCtorEq, h7, h6', q0, e2]
      refine app_num G9.sl rfl n9.rdl (by simp; omega) (by omega) fun v10 w10 a10 => ?_
      have G10 := G9.apd a10
      simp (disch := omega) only [EO, ↓EP, EQ, EM, ↓reduceIte, Int.reduceAdd, Int.reduceEq, Int.reduceLE, Int.reduceLT, Int.reduceMul, Int.reduceNeg, Int.reducePow, Int.reduceSub, Int.reduceToNat, Nat.reduceAdd, Nat.reduceEqDiff, Nat.reduceLT, Nat.reduceLeDiff, Nat.reduceMul, reduceCtorEq, h7]
      refine hN (R - (j + 1)) _ _ (by omega) ⟨j + 1, v10, by simp (disch := omega) only [EO, ↓EP, EQ, EM, ↓reduceIte, Int.reduceAdd, Int.reduceEq, Int.reduceLE, Int.reduceLT, Int.reduceMul, Int.reduceNeg, Int.reducePow, Int.reduceSub, Int.reduceToNat, Nat.reduceAdd, Nat.reduceEqDiff, Nat.reduceLT, Nat.reduceLeDiff, Nat.reduceMul, reduceCtorEq, h7]; congr 1; omega, by simp (disch := omega) only [EO, ↓EP, EQ, EM, ↓reduceIte, Int.reduceAdd, Int.reduceEq, Int.reduceLE, Int.reduceLT, Int.reduceMul, Int.reduceNeg, Int.reducePow, Int.reduceSub, Int.reduceToNat, Nat.reduceAdd, Nat.reduceEqDiff, Nat.reduceLT, Nat.reduceLeDiff, Nat.reduceMul, reduceCtorEq], by omega, rfl, ?_⟩
      rw [map_succ, ← List.append_assoc, eg]; exact G10
    · have eg : gB R m.length j = 0 := by rw [gB, if_neg h8]
      simp (disch := omega) only [EO, ↓EP, EQ, EM, ↓reduceIte, Int.reduceAdd, Int.reduceEq, Int.reduceLE, Int.reduceLT, Int.reduceMul, Int.reduceNeg, Int.reducePow, Int.reduceSub, Int.reduceToNat, Nat.reduceAdd, Nat.reduceEqDiff, Nat.reduceLT, Nat.reduceLeDiff, Nat.reduceMul, reduceCtorEq, W_join, h7, h6', q0]
      refine bsl1 fun w9 n9 => ?_
      have G9 := G.new n9
      simp (disch := omega) only [EO, ↓EP, EQ, EM, ↓reduceIte, Int.reduceAdd, Int.reduceEq, Int.reduceLE, Int.reduceLT, Int.reduceMul, Int.reduceNeg, Int.reducePow, Int.reduceSub, Int.reduceToNat, Nat.reduceAdd, Nat.reduceEqDiff, Nat.reduceLT, Nat.reduceLeDiff, Nat.reduceMul, reduceCtorEq, h7, h6', q0]
      refine app_num G9.sl rfl n9.rdl (by simp; omega) (by omega) fun v10 w10 a10 => ?_
      have G10 := G9.apd a10
      simp (disch := omega) only [EO, ↓EP, EQ, EM, ↓reduceIte, Int.reduceAdd, Int.reduceEq, Int.reduceLE, Int.reduceLT, Int.reduceMul, Int.reduceNeg, Int.reducePow, Int.reduceSub, Int.reduceToNat, Nat.reduceAdd, Nat.reduceEqDiff, Nat.reduceLT, Nat.reduceLeDiff, Nat.reduceMul, reduceCtorEq, h7]
      refine hN (R - (j + 1)) _ _ (by omega) ⟨j + 1, v10, by simp (disch := omega) only [EO, ↓EP, EQ, EM, ↓reduceIte, Int.reduceAdd, Int.reduceEq, Int.reduceLE, Int.reduceLT, Int.reduceMul, Int.reduceNeg, Int.reducePow, Int.reduceSub, Int.reduceToNat, Nat.reduceAdd, Nat.reduceEqDiff, Nat.reduceLT, Nat.reduceLeDiff, Nat.reduceMul, reduceCtorEq, h7]; congr 1; omega, by simp (disch := omega) only [EO, ↓EP, EQ, EM, ↓reduceIte, Int.reduceAdd, Int.reduceEq, Int.reduceLE, Int.reduceLT, Int.reduceMul, Int.reduceNeg, Int.reducePow, Int.reduceSub, Int.reduceToNat, Nat.reduceAdd, Nat.reduceEqDiff, Nat.reduceLT, Nat.reduceLeDiff, Nat.reduceMul, reduceCtorEq], by omega, rfl, ?_⟩
      rw [map_succ, ← List.append_assoc, eg]; exact G10
  have hje : j = R := by omega
  subst hje
  simp (disch := omega) only [EO, ↓EP, EQ, EM, ↓reduceIte, Int.reduceAdd, Int.reduceEq, Int.reduceLE, Int.reduceLT, Int.reduceMul, Int.reduceNeg, Int.reducePow, Int.reduceSub, Int.reduceToNat, Nat.reduceAdd, Nat.reduceEqDiff, Nat.reduceLT, Nat.reduceLeDiff, Nat.reduceMul, reduceCtorEq, h7, h6']
  refine hK T w8 ?_
  rw [gB_all hr8, ← List.append_assoc, List.append_assoc (m ++ [128]), List.replicate_append_replicate, hz2] at G
  exact G
end Go.Proofs.YtibccpfocbdmaaaDoor.Spec
