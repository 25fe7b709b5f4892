/- The digests: the end. -/
import Derived.Test.YtibccpfocbdmaaaDoorDig6
set_option linter.unusedVariables false
set_option linter.unusedSimpArgs false
namespace Go.Proofs.YtibccpfocbdmaaaDoor.Spec
open Go Go.RowKit Go.Proofs Go.Proofs.YtibccpfocbdmaaaDoor.Eng Go.Proofs.YtibccpfocbdmaaaDoor.Code
set_option maxRecDepth 100000
attribute [local irreducible] one

theorem len_spec {w : World} {hb : Nat} {rv : Value} {alg : Int} {m : List Int} (h : Hsh w hb rv alg m) (K : Value → World → Prop) (hK : K (.int .i64 m.length) w) : callK Tryd.prog 24 [.pointer (some ⟨hb, 0, none⟩)] w K := by
  refine call_of Tryd.func24 Code.h24 (by simp [Code.c24]) ?_
  have hn := h.hc.n
  simp only [Code.c24, ↓EP, EQ, EM, ↓reduceIte, Int.reduceAdd, Int.reduceEq, Int.reduceLE, Int.reduceLT, Int.reduceMul, Int.reduceNeg, Int.reducePow, Int.reduceSub, Int.reduceToNat, Nat.reduceAdd, Nat.reduceEqDiff, Nat.reduceLT, Nat.reduceLeDiff, Nat.reduceMul, reduceCtorEq, hn]
  exact hK
theorem alg_spec {w : World} {hb : Nat} {rv : Value} {alg : Int} {m : List Int} (h : Hsh w hb rv alg m) (K : Value → World → Prop) (hK : K (.int .i64 alg) w) : callK Tryd.prog 27 [.pointer (some ⟨hb, 0, none⟩)] w K := by
  refine call_of Tryd.func27 Code.h27 (by simp [Code.c27]) ?_
  have hn := h.hc.alg
  simp only [Code.c27, ↓EP, EQ, EM, ↓reduceIte, Int.reduceAdd, Int.reduceEq, Int.reduceLE, Int.reduceLT, Int.reduceMul, Int.reduceNeg, Int.reducePow, Int.reduceSub, Int.reduceToNat, Nat.reduceAdd, Nat.reduceEqDiff, Nat.reduceLT, Nat.reduceLeDiff, Nat.reduceMul, reduceCtorEq, hn]
  exact hK

/-- A new one. -/
theorem fillH (a : Int) : fillL [(0, 1), (1, 8), (9, 8), (17, 1), (18, 1)] #[(.int .i64 0), (.int .u32 0), (.int .u32 0), (.int .u32 0), (.int .u32 0), (.int .u32 0), (.int .u32 0), (.int .u32 0), (.int .u32 0), (.int .u64 0), (.int .u64 0), (.int .u64 0), (.int .u64 0), (.int .u64 0), (.int .u64 0), (.int .u64 0), (.int .u64 0), (.slice none 0 0), (.int .i64 0)] [(0, .int .i64 a)] = some (hc a (zs 8) (zs 8) (.slice none 0 0) 0).toArray := by kernel_rfl
theorem fill5 (a0 a1 a2 a3 a4 : Int) : fillL [(0, 1), (1, 1), (2, 1), (3, 1), (4, 1), (5, 1), (6, 1), (7, 1)] (Array.replicate 8 (Value.int .u32 0)) [(0, .int .u32 a0), (1, .int .u32 a1), (2, .int .u32 a2), (3, .int .u32 a3), (4, .int .u32 a4)] = some (nums .u32 [a0, a1, a2, a3, a4, 0, 0, 0]).toArray := by kernel_rfl
theorem run_nil (alg : Int) : run alg [] = st0 alg := by
  unfold run; rw [List.length_nil, Nat.zero_div, runN, rounds]
theorem rest_nil (alg : Int) : rest alg [] = [] := by simp [rest]
theorem new_spec {w : World} (alg : Int) (hT : 1 < w.heap.size) (K : Value → World → Prop)
    (hK : 1 ≤ alg → alg ≤ 4 → ∀ w', w.heap.size < w'.heap.size → Hsh w' w.heap.size (.slice none 0 0) alg [] → Fr w w' nob → K (.tuple #[.pointer (some ⟨w.heap.size, 0, none⟩), .int .i64 0]) w')
    (hK' : (alg < 1 ∨ 4 < alg) → ∀ w', Fr w w' nob → K (.tuple #[.pointer none, .int .i64 1]) w') : callK Tryd.prog 21 [.int .i64 alg] w K := by
  refine call_of Tryd.func21 Code.h21 (by simp [Code.c21]) ?_
  simp only [Code.c21, ↓EP, EQ, EM, ↓reduceIte, Int.reduceAdd, Int.reduceEq, Int.reduceLE, Int.reduceLT, Int.reduceMul, Int.reduceNeg, Int.reducePow, Int.reduceSub, Int.reduceToNat, Nat.reduceAdd, Nat.reduceEqDiff, Nat.reduceLT, Nat.reduceLeDiff, Nat.reduceMul, reduceCtorEq]
  refine ⟨_, fillH alg, ?_⟩
  simp only [↓EP, EQ, EM, ↓reduceIte, Int.reduceAdd, Int.reduceEq, Int.reduceLE, Int.reduceLT, Int.reduceMul, Int.reduceNeg, Int.reducePow, Int.reduceSub, Int.reduceToNat, Nat.reduceAdd, Nat.reduceEqDiff, Nat.reduceLT, Nat.reduceLeDiff, Nat.reduceMul, reduceCtorEq]
  refine al_k (hc alg (zs 8) (zs 8) (.slice none 0 0) 0) (by simp) fun w1 n1 => ?_
  have f1 := n1.fr nob
  have s1 := n1.size
  have H1 : HC w1 w.heap.size alg (zs 8) (zs 8) (.slice none 0 0) 0 := ⟨n1.blk, rfl, rfl⟩
  have fin : ∀ ws vs w', 1 ≤ alg → alg ≤ 4 → st0 alg = (ws, vs) → HC w' w.heap.size alg ws vs (.slice none 0 0) 0 → Fr w1 w' (fun b => b = w.heap.size) → K (.tuple #[.pointer (some ⟨w.heap.size, 0, none⟩), .int .i64 0]) w' := by
    intro ws vs w' a1 a4 e h f
    have hs := f.size
    refine hK a1 a4 w' (by omega) ⟨?_, a1, a4, ?_, hT, fun b e => by cases e⟩ (f1.trans f fun b hb e => ?_)
    · rw [run_nil, e]; exact h
    · rw [rest_nil]; exact Sl.nil _ _
    · omega
  have c : alg = 1 ∨ alg = 2 ∨ alg = 3 ∨ alg = 4 ∨ (alg < 1 ∨ 4 < alg) := by omega
  rcases c with rfl | rfl | rfl | rfl | c
  · simp only [↓EP, EQ, EM, ↓reduceIte, Int.reduceAdd, Int.reduceEq, Int.reduceLE, Int.reduceLT, Int.reduceMul, Int.reduceNeg, Int.reducePow, Int.reduceSub, Int.reduceToNat, Nat.reduceAdd, Nat.reduceEqDiff, Nat.reduceLT, Nat.reduceLeDiff, Nat.reduceMul, reduceCtorEq, W_join]
    refine ⟨_, fill5 _ _ _ _ _, ?_⟩
    simp only [↓EP, EQ, EM, ↓reduceIte, Int.reduceAdd, Int.reduceEq, Int.reduceLE, Int.reduceLT, Int.reduceMul, Int.reduceNeg, Int.reducePow, Int.reduceSub, Int.reduceToNat, Nat.reduceAdd, Nat.reduceEqDiff, Nat.reduceLT, Nat.reduceLeDiff, Nat.reduceMul, reduceCtorEq]
    refine H1.stw rfl fun w2 h2 f2 => ?_
    simp only [↓EP, EQ, EM, ↓reduceIte, Int.reduceAdd, Int.reduceEq, Int.reduceLE, Int.reduceLT, Int.reduceMul, Int.reduceNeg, Int.reducePow, Int.reduceSub, Int.reduceToNat, Nat.reduceAdd, Nat.reduceEqDiff, Nat.reduceLT, Nat.reduceLeDiff, Nat.reduceMul, reduceCtorEq]
    exact fin _ _ _ (by omega) (by omega) rfl h2 f2
  · simp only [↓EP, EQ, EM, ↓reduceIte, Int.reduceAdd, Int.reduceEq, Int.reduceLE, Int.reduceLT, Int.reduceMul, Int.reduceNeg, Int.reducePow, Int.reduceSub, Int.reduceToNat, Nat.reduceAdd, Nat.reduceEqDiff, Nat.reduceLT, Nat.reduceLeDiff, Nat.reduceMul, reduceCtorEq, W_join]
    refine ⟨_, fill8 _ _ _ _ _ _ _ _ _, ?_⟩
    simp only [↓EP, EQ, EM, ↓reduceIte, Int.reduceAdd, Int.reduceEq, Int.reduceLE, Int.reduceLT, Int.reduceMul, Int.reduceNeg, Int.reducePow, Int.reduceSub, Int.reduceToNat, Nat.reduceAdd, Nat.reduceEqDiff, Nat.reduceLT, Nat.reduceLeDiff, Nat.reduceMul, reduceCtorEq]
    refine H1.stw rfl fun w2 h2 f2 => ?_
    simp only [↓EP, EQ, EM, ↓reduceIte, Int.reduceAdd, Int.reduceEq, Int.reduceLE, Int.reduceLT, Int.reduceMul, Int.reduceNeg, Int.reducePow, Int.reduceSub, Int.reduceToNat, Nat.reduceAdd, Nat.reduceEqDiff, Nat.reduceLT, Nat.reduceLeDiff, Nat.reduceMul, reduceCtorEq]
    exact fin _ _ _ (by omega) (by omega) rfl h2 f2
  · simp only [↓EP, EQ, EM, ↓reduceIte, Int.reduceAdd, Int.reduceEq, Int.reduceLE, Int.reduceLT, Int.reduceMul, Int.reduceNeg, Int.reducePow, Int.reduceSub, Int.reduceToNat, Nat.reduceAdd, Nat.reduceEqDiff, Nat.reduceLT, Nat.reduceLeDiff, Nat.reduceMul, reduceCtorEq, W_join]
    refine ⟨_, fill8 _ _ _ _ _ _ _ _ _, ?_⟩
    simp only [↓EP, EQ, EM, ↓reduceIte, Int.reduceAdd, Int.reduceEq, Int.reduceLE, Int.reduceLT, Int.reduceMul, Int.reduceNeg, Int.reducePow, Int.reduceSub, Int.reduceToNat, Nat.reduceAdd, Nat.reduceEqDiff, Nat.reduceLT, Nat.reduceLeDiff, Nat.reduceMul, reduceCtorEq]
    refine H1.stv rfl fun w2 h2 f2 => ?_
    simp only [↓EP, EQ, EM, ↓reduceIte, Int.reduceAdd, Int.reduceEq, Int.reduceLE, Int.reduceLT, Int.reduceMul, Int.reduceNeg, Int.reducePow, Int.reduceSub, Int.reduceToNat, Nat.reduceAdd, Nat.reduceEqDiff, Nat.reduceLT, Nat.reduceLeDiff, Nat.reduceMul, reduceCtorEq]
    exact fin _ _ _ (by omega) (by omega) rfl h2 f2
  · simp only [↓EP, EQ, EM, ↓reduceIte, Int.reduceAdd, Int.reduceEq, Int.reduceLE, Int.reduceLT, Int.reduceMul, Int.reduceNeg, Int.reducePow, Int.reduceSub, Int.reduceToNat, Nat.reduceAdd, Nat.reduceEqDiff, Nat.reduceLT, Nat.reduceLeDiff, Nat.reduceMul, reduceCtorEq, W_join]
    refine ⟨_, fill8 _ _ _ _ _ _ _ _ _, ?_⟩
    simp only [↓EP, EQ, EM, ↓reduceIte, Int.reduceAdd, Int.reduceEq, Int.reduceLE, Int.reduceLT, Int.reduceMul, Int.reduceNeg, Int.reducePow, Int.reduceSub, Int.reduceToNat, Nat.reduceAdd, Nat.reduceEqDiff, Nat.reduceLT, Nat.reduceLeDiff, Nat.reduceMul, reduceCtorEq]
    refine H1.stv rfl fun w2 h2 f2 => ?_
    simp only [↓EP, EQ, EM, ↓reduceIte, Int.reduceAdd, Int.reduceEq, Int.reduceLE, Int.reduceLT, Int.reduceMul, Int.reduceNeg, Int.reducePow, Int.reduceSub, Int.reduceToNat, Nat.reduceAdd, Nat.reduceEqDiff, Nat.reduceLT, Nat.reduceLeDiff, Nat.reduceMul, reduceCtorEq]
    exact fin _ _ _ (by omega) (by omega) rfl h2 f2
  · simp (disch := omega) only [EO, ↓EP, EQ, EM, ↓reduceIte, Int.reduceAdd, Int.reduceEq, Int.reduceLE, Int.reduceLT, Int.reduceMul, Int.reduceNeg, Int.reducePow, Int.reduceSub, Int.reduceToNat, Nat.reduceAdd, Nat.reduceEqDiff, Nat.reduceLT, Nat.reduceLeDiff, Nat.reduceMul, reduceCtorEq, W_join]
    exact hK' c _ f1
end Go.Proofs.YtibccpfocbdmaaaDoor.Spec
