/- The digests: the object, and one block. -/
import Derived.Test.YtibccpfocbdmaaaDoorDig4
import Derived.Test.YtibccpfocbdmaaaDoorEngI
set_option linter.unusedVariables false
set_option linter.unusedSimpArgs false
namespace Go.Proofs.YtibccpfocbdmaaaDoor.Spec
open Go Go.RowKit Go.Proofs Go.Proofs.YtibccpfocbdmaaaDoor.Eng Go.Proofs.YtibccpfocbdmaaaDoor.Code
set_option maxRecDepth 100000

def sizeI (alg : Int) : Int := if alg = 1 then 20 else if alg = 2 then 32 else if alg = 3 then 48 else if alg = 4 then 64 else 0
def blockI (alg : Int) : Nat := if alg = 1 then 64 else if alg = 2 then 64 else if alg = 3 then 128 else if alg = 4 then 128 else 0
theorem size_spec (alg : Int) (w : World) (K : Value → World → Prop) (hK : K (.int .i64 (sizeI alg)) w) : callK Tryd.prog 17 [.int .i64 alg] w K := by
  refine call_of Tryd.func17 Code.h17 (by simp [Code.c17]) ?_
  unfold sizeI at hK
  have c : alg = 1 ∨ alg = 2 ∨ alg = 3 ∨ alg = 4 ∨ (alg < 1 ∨ 4 < alg) := by omega
  rcases c with rfl | rfl | rfl | rfl | c
  · simp only [Code.c17, ↓EP, EQ, EM, ↓reduceIte, Int.reduceAdd, Int.reduceEq, Int.reduceLE, Int.reduceLT, Int.reduceMul, Int.reduceNeg, Int.reducePow, Int.reduceSub, Int.reduceToNat, Nat.reduceAdd, Nat.reduceEqDiff, Nat.reduceLT, Nat.reduceLeDiff, Nat.reduceMul, reduceCtorEq]; exact hK
  · simp only [Code.c17, ↓EP, EQ, EM, ↓reduceIte, Int.reduceAdd, Int.reduceEq, Int.reduceLE, Int.reduceLT, Int.reduceMul, Int.reduceNeg, Int.reducePow, Int.reduceSub, Int.reduceToNat, Nat.reduceAdd, Nat.reduceEqDiff, Nat.reduceLT, Nat.reduceLeDiff, Nat.reduceMul, reduceCtorEq]; exact hK
  · simp only [Code.c17, ↓EP, EQ, EM, ↓reduceIte, Int.reduceAdd, Int.reduceEq, Int.reduceLE, Int.reduceLT, Int.reduceMul, Int.reduceNeg, Int.reducePow, Int.reduceSub, Int.reduceToNat, Nat.reduceAdd, Nat.reduceEqDiff, Nat.reduceLT, Nat.reduceLeDiff, Nat.reduceMul, reduceCtorEq]; exact hK
  · simp only [Code.c17, ↓EP, EQ, EM, ↓reduceIte, Int.reduceAdd, Int.reduceEq, Int.reduceLE, Int.reduceLT, Int.reduceMul, Int.reduceNeg, Int.reducePow, Int.reduceSub, Int.reduceToNat, Nat.reduceAdd, Nat.reduceEqDiff, Nat.reduceLT, Nat.reduceLeDiff, Nat.reduceMul, reduceCtorEq]; exact hK
  · simp (disch := omega) only [Code.c17, EO, ↓EP, EQ, EM, ↓reduceIte, Int.reduceAdd, Int.reduceEq, Int.reduceLE, Int.reduceLT, Int.reduceMul, Int.reduceNeg, Int.reducePow, Int.reduceSub, Int.reduceToNat, Nat.reduceAdd, Nat.reduceEqDiff, Nat.reduceLT, Nat.reduceLeDiff, Nat.reduceMul, reduceCtorEq]
    rwa [if_neg (by omega), if_neg (by omega), if_neg (by omega), if_neg (by omega)] at hK
theorem blocksz_spec (alg : Int) (w : World) (K : Value → World → Prop) (hK : K (.int .i64 (blockI alg)) w) : callK Tryd.prog 19 [.int .i64 alg] w K := by
  refine call_of Tryd.func19 Code.h19 (by simp [Code.c19]) ?_
  unfold blockI at hK
  have c : alg = 1 ∨ alg = 2 ∨ alg = 3 ∨ alg = 4 ∨ (alg < 1 ∨ 4 < alg) := by omega
  rcases c with rfl | rfl | rfl | rfl | c
  · simp only [Code.c19, ↓EP, EQ, EM, ↓reduceIte, Int.reduceAdd, Int.reduceEq, Int.reduceLE, Int.reduceLT, Int.reduceMul, Int.reduceNeg, Int.reducePow, Int.reduceSub, Int.reduceToNat, Nat.reduceAdd, Nat.reduceEqDiff, Nat.reduceLT, Nat.reduceLeDiff, Nat.reduceMul, reduceCtorEq, W_join]; exact hK
  · simp only [Code.c19, ↓EP, EQ, EM, ↓reduceIte, Int.reduceAdd, Int.reduceEq, Int.reduceLE, Int.reduceLT, Int.reduceMul, Int.reduceNeg, Int.reducePow, Int.reduceSub, Int.reduceToNat, Nat.reduceAdd, Nat.reduceEqDiff, Nat.reduceLT, Nat.reduceLeDiff, Nat.reduceMul, reduceCtorEq, W_join]; exact hK
  · simp only [Code.c19, ↓EP, EQ, EM, ↓reduceIte, Int.reduceAdd, Int.reduceEq, Int.reduceLE, Int.reduceLT, Int.reduceMul, Int.reduceNeg, Int.reducePow, Int.reduceSub, Int.reduceToNat, Nat.reduceAdd, Nat.reduceEqDiff, Nat.reduceLT, Nat.reduceLeDiff, Nat.reduceMul, reduceCtorEq, W_join]; exact hK
  · simp only [Code.c19, ↓EP, EQ, EM, ↓reduceIte, Int.reduceAdd, Int.reduceEq, Int.reduceLE, Int.reduceLT, Int.reduceMul, Int.reduceNeg, Int.reducePow, Int.reduceSub, Int.reduceToNat, Nat.reduceAdd, Nat.reduceEqDiff, Nat.reduceLT, Nat.reduceLeDiff, Nat.reduceMul, reduceCtorEq, W_join]; exact hK
  · simp (disch := omega) only [Code.c19, EO, ↓EP, EQ, EM, ↓reduceIte, Int.reduceAdd, Int.reduceEq, Int.reduceLE, Int.reduceLT, Int.reduceMul, Int.reduceNeg, Int.reducePow, Int.reduceSub, Int.reduceToNat, Nat.reduceAdd, Nat.reduceEqDiff, Nat.reduceLT, Nat.reduceLeDiff, Nat.reduceMul, reduceCtorEq, W_join]
    rwa [if_neg (by omega), if_neg (by omega), if_neg (by omega), if_neg (by omega)] at hK

/-- The object's cells. -/
def hc (alg : Int) (ws vs : List Int) (rv : Value) (n : Int) : List Value := .int .i64 alg :: (nums .u32 ws ++ (nums .u64 vs ++ [rv, .int .i64 n]))
theorem len8 {l : List Int} (h : l.length = 8) : ∃ a b c d e f g i, l = [a, b, c, d, e, f, g, i] := by
  match l, h with
  | [a, b, c, d, e, f, g, i], _ => exact ⟨a, b, c, d, e, f, g, i, rfl⟩
structure HC (w : World) (hb : Nat) (alg : Int) (ws vs : List Int) (rv : Value) (n : Int) : Prop where
  blk : Blk w hb (hc alg ws vs rv n)
  lw : ws.length = 8
  lv : vs.length = 8
theorem HC.alg {w : World} {hb : Nat} {alg : Int} {ws vs : List Int} {rv : Value} {n : Int} (h : HC w hb alg ws vs rv n) : w.cell? ⟨hb, 0, none⟩ = some (.int .i64 alg) := h.blk.has 0 _ rfl
theorem HC.rest {w : World} {hb : Nat} {alg : Int} {ws vs : List Int} {rv : Value} {n : Int} (h : HC w hb alg ws vs rv n) : w.cell? ⟨hb, 17, none⟩ = some rv := by
  obtain ⟨a, b, c, d, e, f, g, i, rfl⟩ := len8 h.lw
  obtain ⟨a, b, c, d, e, f, g, i, rfl⟩ := len8 h.lv
  exact h.blk.has 17 _ rfl
theorem HC.n {w : World} {hb : Nat} {alg : Int} {ws vs : List Int} {rv : Value} {n : Int} (h : HC w hb alg ws vs rv n) : w.cell? ⟨hb, 18, none⟩ = some (.int .i64 n) := by
  obtain ⟨a, b, c, d, e, f, g, i, rfl⟩ := len8 h.lw
  obtain ⟨a, b, c, d, e, f, g, i, rfl⟩ := len8 h.lv
  exact h.blk.has 18 _ rfl
theorem HC.w_ {w : World} {hb : Nat} {alg : Int} {ws vs : List Int} {rv : Value} {n : Int} (h : HC w hb alg ws vs rv n) (j : Nat) (hj : j < 8) : w.cell? ⟨hb, 1 + j, none⟩ = some (.int .u32 (at' ws j)) := by
  have lw := h.lw
  rw [h.blk.cell?, hc, Nat.add_comm 1 j, List.getElem?_cons_succ, List.getElem?_append_left (by rw [nums_length]; omega), nums_get (by omega)]
  simp [at']
theorem HC.v_ {w : World} {hb : Nat} {alg : Int} {ws vs : List Int} {rv : Value} {n : Int} (h : HC w hb alg ws vs rv n) (j : Nat) (hj : j < 8) : w.cell? ⟨hb, 9 + j, none⟩ = some (.int .u64 (at' vs j)) := by
  have lw := h.lw
  have lv := h.lv
  rw [h.blk.cell?, hc, show 9 + j = (8 + j) + 1 by omega, List.getElem?_cons_succ, List.getElem?_append_right (by rw [nums_length]; omega), nums_length, List.getElem?_append_left (by rw [nums_length]; omega), show 8 + j - ws.length = j by omega, nums_get (by omega)]
  simp [at']
theorem HC.ldw {w : World} {hb : Nat} {alg : Int} {ws vs : List Int} {rv : Value} {n : Int} (h : HC w hb alg ws vs rv n) {K : Value → Prop} (hK : K (.agg (nums .u32 ws).toArray)) : ldK w (.agg 8) ⟨hb, 1, none⟩ K := by
  have hB := h.blk
  obtain ⟨a, b, c, d, e, f, g, i, rfl⟩ := len8 h.lw
  obtain ⟨a', b', c', d', e', f', g', i', rfl⟩ := len8 h.lv
  exact ⟨nums .u32 [a, b, c, d, e, f, g, i], rfl, hB.part 1 8, hK⟩
theorem HC.ldv {w : World} {hb : Nat} {alg : Int} {ws vs : List Int} {rv : Value} {n : Int} (h : HC w hb alg ws vs rv n) {K : Value → Prop} (hK : K (.agg (nums .u64 vs).toArray)) : ldK w (.agg 8) ⟨hb, 9, none⟩ K := by
  have hB := h.blk
  obtain ⟨a, b, c, d, e, f, g, i, rfl⟩ := len8 h.lw
  obtain ⟨a', b', c', d', e', f', g', i', rfl⟩ := len8 h.lv
  exact ⟨nums .u64 [a', b', c', d', e', f', g', i'], rfl, hB.part 9 8, hK⟩
theorem hc_len {alg : Int} {ws vs : List Int} {rv : Value} {n : Int} (lw : ws.length = 8) (lv : vs.length = 8) : (hc alg ws vs rv n).length = 19 := by
  simp [hc, nums_length, lw, lv]
theorem HC.stw {w : World} {hb : Nat} {alg : Int} {ws vs : List Int} {rv : Value} {n : Int} (h : HC w hb alg ws vs rv n) {ws' : List Int} (l8 : ws'.length = 8) {K : World → Prop} (hK : ∀ w', HC w' hb alg ws' vs rv n → Fr w w' (fun b => b = hb) → K w') : stK 8 ⟨hb, 1, none⟩ (.agg (nums .u32 ws').toArray) w K := by
  refine st_part h.blk (by rw [nums_length]; exact l8) (by rw [hc_len h.lw h.lv]; omega) (nums_one _ _) fun w' p => hK w' ⟨?_, l8, h.lv⟩ p.fr
  have hB := p.blk
  obtain ⟨a, b, c, d, e, f, g, i, rfl⟩ := len8 h.lw
  obtain ⟨a', b', c', d', e', f', g', i', rfl⟩ := len8 h.lv
  obtain ⟨a'', b'', c'', d'', e'', f'', g'', i'', rfl⟩ := len8 l8
  exact hB
theorem HC.stv {w : World} {hb : Nat} {alg : Int} {ws vs : List Int} {rv : Value} {n : Int} (h : HC w hb alg ws vs rv n) {vs' : List Int} (l8 : vs'.length = 8) {K : World → Prop} (hK : ∀ w', HC w' hb alg ws vs' rv n → Fr w w' (fun b => b = hb) → K w') : stK 8 ⟨hb, 9, none⟩ (.agg (nums .u64 vs').toArray) w K := by
  refine st_part h.blk (by rw [nums_length]; exact l8) (by rw [hc_len h.lw h.lv]; omega) (nums_one _ _) fun w' p => hK w' ⟨?_, h.lw, l8⟩ p.fr
  have hB := p.blk
  obtain ⟨a, b, c, d, e, f, g, i, rfl⟩ := len8 h.lw
  obtain ⟨a', b', c', d', e', f', g', i', rfl⟩ := len8 h.lv
  obtain ⟨a'', b'', c'', d'', e'', f'', g'', i'', rfl⟩ := len8 l8
  exact hB
theorem HC.str {w : World} {hb : Nat} {alg : Int} {ws vs : List Int} {rv : Value} {n : Int} (h : HC w hb alg ws vs rv n) {A : Option Addr} {l c : Nat} {K : World → Prop} (hK : ∀ w', HC w' hb alg ws vs (.slice A l c) n → Fr w w' (fun b => b = hb) → K w') : stK 1 ⟨hb, 17, none⟩ (.slice A l c) w K := by
  refine st_one h.blk (by rw [hc_len h.lw h.lv]; omega) rfl fun w' p => hK w' ⟨?_, h.lw, h.lv⟩ p.fr
  have hB := p.blk
  obtain ⟨a, b, c, d, e, f, g, i, rfl⟩ := len8 h.lw
  obtain ⟨a', b', c', d', e', f', g', i', rfl⟩ := len8 h.lv
  exact hB
theorem HC.stn {w : World} {hb : Nat} {alg : Int} {ws vs : List Int} {rv : Value} {n : Int} (h : HC w hb alg ws vs rv n) {m : Int} {K : World → Prop} (hK : ∀ w', HC w' hb alg ws vs rv m → Fr w w' (fun b => b = hb) → K w') : stK 1 ⟨hb, 18, none⟩ (.int .i64 m) w K := by
  refine st_one h.blk (by rw [hc_len h.lw h.lv]; omega) rfl fun w' p => hK w' ⟨?_, h.lw, h.lv⟩ p.fr
  have hB := p.blk
  obtain ⟨a, b, c, d, e, f, g, i, rfl⟩ := len8 h.lw
  obtain ⟨a', b', c', d', e', f', g', i', rfl⟩ := len8 h.lv
  exact hB
theorem HC.fr {w w' : World} {hb : Nat} {alg : Int} {ws vs : List Int} {rv : Value} {n : Int} (h : HC w hb alg ws vs rv n) {P : Nat → Prop} (f : Fr w w' P) (hp : ¬ P hb) : HC w' hb alg ws vs rv n := ⟨h.blk.fr f hp, h.lw, h.lv⟩

/-- The tables, and the blocks that are the program's. -/
structure Tb (w : World) : Prop where
  k256 : cellsAt w ⟨0, 0, none⟩ (nums .u32 k256)
  k512 : cellsAt w ⟨1, 0, none⟩ (nums .u64 k512)
  lt : 1 < w.heap.size
theorem Tb.fr {w w' : World} {P : Nat → Prop} (h : Tb w) (f : Fr w w' P) (h0 : ¬ P 0) (h1 : ¬ P 1) : Tb w' := by
  have := h.lt
  exact ⟨h.k256.fr f (by show 0 < _; omega) h0, h.k512.fr f h.lt h1, Nat.lt_of_lt_of_le h.lt f.size⟩

/-- One block. -/
def mix (alg : Int) (s : List Int × List Int) (p : List Int) : List Int × List Int :=
  if alg = 1 then (one s.1 p, s.2) else if alg = 2 then (two s.1 p, s.2) else (s.1, wide s.2 p)
theorem one_len (h p : List Int) : (one h p).length = 8 := rfl
attribute [local irreducible] one
theorem block_spec {w : World} {hb : Nat} {alg : Int} {ws vs : List Int} {rv : Value} {n : Int} (h : HC w hb alg ws vs rv n) (ha : 1 ≤ alg) (ha' : alg ≤ 4) (hT : Tb w) {A : Option Addr} {c : Nat} {p : List Int} (hr : Rd w A (nums .u8 p)) (hp : p.length = blockI alg) (K : Value → World → Prop)
    (hK : ∀ w', HC w' hb alg (mix alg (ws, vs) p).1 (mix alg (ws, vs) p).2 rv n → Fr w w' (fun b => b = hb) → K (.tuple #[]) w') : callK Tryd.prog 28 [.pointer (some ⟨hb, 0, none⟩), .slice A (blockI alg) c] w K := by
  refine call_of Tryd.func28 Code.h28 (by simp [Code.c28]) ?_
  have lt := hT.lt
  have c : alg = 1 ∨ alg = 2 ∨ alg = 3 ∨ alg = 4 := by omega
  have hal := h.alg
  rcases c with rfl | rfl | rfl | rfl
  · simp only [Code.c28, ↓EP, EQ, EM, ↓reduceIte, Int.reduceAdd, Int.reduceEq, Int.reduceLE, Int.reduceLT, Int.reduceMul, Int.reduceNeg, Int.reducePow, Int.reduceSub, Int.reduceToNat, Nat.reduceAdd, Nat.reduceEqDiff, Nat.reduceLT, Nat.reduceLeDiff, Nat.reduceMul, reduceCtorEq, hal]
    refine h.ldw ?_
    simp only [↓EP, EQ, EM, ↓reduceIte, Int.reduceAdd, Int.reduceEq, Int.reduceLE, Int.reduceLT, Int.reduceMul, Int.reduceNeg, Int.reducePow, Int.reduceSub, Int.reduceToNat, Nat.reduceAdd, Nat.reduceEqDiff, Nat.reduceLT, Nat.reduceLeDiff, Nat.reduceMul, reduceCtorEq]
    refine one_spec ws p h.lw hp A _ w hr _ fun w1 b1 => ?_
    have f1 := fr_of b1 rfl
    simp only [↓EP, EQ, EM, ↓reduceIte, Int.reduceAdd, Int.reduceEq, Int.reduceLE, Int.reduceLT, Int.reduceMul, Int.reduceNeg, Int.reducePow, Int.reduceSub, Int.reduceToNat, Nat.reduceAdd, Nat.reduceEqDiff, Nat.reduceLT, Nat.reduceLeDiff, Nat.reduceMul, reduceCtorEq]
    refine (h.fr f1 (fun x => x)).stw (one_len _ _) fun w2 h2 f2 => ?_
    simp only [↓EP, EQ, EM, ↓reduceIte, Int.reduceAdd, Int.reduceEq, Int.reduceLE, Int.reduceLT, Int.reduceMul, Int.reduceNeg, Int.reducePow, Int.reduceSub, Int.reduceToNat, Nat.reduceAdd, Nat.reduceEqDiff, Nat.reduceLT, Nat.reduceLeDiff, Nat.reduceMul, reduceCtorEq]
    exact hK _ h2 ((f1.mono fun _ _ x => x.elim).trans f2 fun _ _ x => x)
  · simp only [Code.c28, ↓EP, EQ, EM, ↓reduceIte, Int.reduceAdd, Int.reduceEq, Int.reduceLE, Int.reduceLT, Int.reduceMul, Int.reduceNeg, Int.reducePow, Int.reduceSub, Int.reduceToNat, Nat.reduceAdd, Nat.reduceEqDiff, Nat.reduceLT, Nat.reduceLeDiff, Nat.reduceMul, reduceCtorEq, hal]
    refine h.ldw ?_
    simp only [↓EP, EQ, EM, ↓reduceIte, Int.reduceAdd, Int.reduceEq, Int.reduceLE, Int.reduceLT, Int.reduceMul, Int.reduceNeg, Int.reducePow, Int.reduceSub, Int.reduceToNat, Nat.reduceAdd, Nat.reduceEqDiff, Nat.reduceLT, Nat.reduceLeDiff, Nat.reduceMul, reduceCtorEq]
    refine two_spec ws p h.lw hp A _ w hr hT.k256 (by omega) _ fun w1 b1 => ?_
    have f1 := fr_of b1 rfl
    simp only [↓EP, EQ, EM, ↓reduceIte, Int.reduceAdd, Int.reduceEq, Int.reduceLE, Int.reduceLT, Int.reduceMul, Int.reduceNeg, Int.reducePow, Int.reduceSub, Int.reduceToNat, Nat.reduceAdd, Nat.reduceEqDiff, Nat.reduceLT, Nat.reduceLeDiff, Nat.reduceMul, reduceCtorEq]
    refine (h.fr f1 (fun x => x)).stw (two_len _ _ h.lw) fun w2 h2 f2 => ?_
    simp only [↓EP, EQ, EM, ↓reduceIte, Int.reduceAdd, Int.reduceEq, Int.reduceLE, Int.reduceLT, Int.reduceMul, Int.reduceNeg, Int.reducePow, Int.reduceSub, Int.reduceToNat, Nat.reduceAdd, Nat.reduceEqDiff, Nat.reduceLT, Nat.reduceLeDiff, Nat.reduceMul, reduceCtorEq]
    exact hK _ h2 ((f1.mono fun _ _ x => x.elim).trans f2 fun _ _ x => x)
  all_goals
    simp only [Code.c28, ↓EP, EQ, EM, ↓reduceIte, Int.reduceAdd, Int.reduceEq, Int.reduceLE, Int.reduceLT, Int.reduceMul, Int.reduceNeg, Int.reducePow, Int.reduceSub, Int.reduceToNat, Nat.reduceAdd, Nat.reduceEqDiff, Nat.reduceLT, Nat.reduceLeDiff, Nat.reduceMul, reduceCtorEq, hal]
    refine h.ldv ?_
    simp only [↓EP, EQ, EM, ↓reduceIte, Int.reduceAdd, Int.reduceEq, Int.reduceLE, Int.reduceLT, Int.reduceMul, Int.reduceNeg, Int.reducePow, Int.reduceSub, Int.reduceToNat, Nat.reduceAdd, Nat.reduceEqDiff, Nat.reduceLT, Nat.reduceLeDiff, Nat.reduceMul, reduceCtorEq]
    refine wide_spec vs p h.lv hp A _ w hr hT.k512 (by omega) _ fun w1 b1 => ?_
    have f1 := fr_of b1 rfl
    simp only [↓EP, EQ, EM, ↓reduceIte, Int.reduceAdd, Int.reduceEq, Int.reduceLE, Int.reduceLT, Int.reduceMul, Int.reduceNeg, Int.reducePow, Int.reduceSub, Int.reduceToNat, Nat.reduceAdd, Nat.reduceEqDiff, Nat.reduceLT, Nat.reduceLeDiff, Nat.reduceMul, reduceCtorEq]
    refine (h.fr f1 (fun x => x)).stv (wide_len _ _ h.lv) fun w2 h2 f2 => ?_
    simp only [↓EP, EQ, EM, ↓reduceIte, Int.reduceAdd, Int.reduceEq, Int.reduceLE, Int.reduceLT, Int.reduceMul, Int.reduceNeg, Int.reducePow, Int.reduceSub, Int.reduceToNat, Nat.reduceAdd, Nat.reduceEqDiff, Nat.reduceLT, Nat.reduceLeDiff, Nat.reduceMul, reduceCtorEq]
    exact hK _ h2 ((f1.mono fun _ _ x => x.elim).trans f2 fun _ _ x => x)
end Go.Proofs.YtibccpfocbdmaaaDoor.Spec
