/- The digests: words that are turned. -/
import Derived.Test.YtibccpfocbdmaaaDoorCode0
import Derived.Test.YtibccpfocbdmaaaDoorCode1
import Derived.Test.YtibccpfocbdmaaaDoorEngK
set_option linter.unusedVariables false
set_option linter.unusedSimpArgs false
namespace Go.Proofs.YtibccpfocbdmaaaDoor.Spec
open Go Go.RowKit Go.Proofs Go.Proofs.YtibccpfocbdmaaaDoor.Eng Go.Proofs.YtibccpfocbdmaaaDoor.Code
set_option maxRecDepth 100000

/-- A word turned left. -/
def rl32 (x n : Int) : Int := bits .or .u32 (IntKind.u32.wrap (x * 2 ^ n.toNat)) (x.fdiv (2 ^ (32 - n).toNat))
def rl64 (x n : Int) : Int := bits .or .u64 (IntKind.u64.wrap (x * 2 ^ n.toNat)) (x.fdiv (2 ^ (64 - n).toNat))

theorem rotl32_spec (x k n : Int) (hn : bits .and .u64 (IntKind.u64.wrap k) 31 = n) (h0 : 0 ≤ n) (h1 : n < 32) (w : World) (K : Value → World → Prop) (hK : K (.int .u32 (rl32 x n)) w) : callK Tryd.prog 42 [.int .u32 x, .int .i64 k] w K := by
  refine call_of Tryd.func42 Code.h42 (by simp [Code.c42]) ?_
  simp only [Code.c42, ↓EP, EQ, EM, ↓reduceIte, Int.reduceAdd, Int.reduceEq, Int.reduceLE, Int.reduceLT, Int.reduceMul, Int.reduceNeg, Int.reducePow, Int.reduceSub, Int.reduceToNat, Nat.reduceAdd, Nat.reduceEqDiff, Nat.reduceLT, Nat.reduceLeDiff, Nat.reduceMul, reduceCtorEq, hn]
  have e : IntKind.u64.wrap (32 - n) = 32 - n := wu64 (by omega) (by omega)
  rw [e]
  refine ⟨h0, by omega, ?_⟩
  have e1 : min n.toNat 32 = n.toNat := by omega
  have e2 : min (32 - n).toNat 32 = (32 - n).toNat := by omega
  rw [e1, e2]
  exact hK
theorem rotl64_spec (x k n : Int) (hn : bits .and .u64 (IntKind.u64.wrap k) 63 = n) (h0 : 0 ≤ n) (h1 : n < 64) (w : World) (K : Value → World → Prop) (hK : K (.int .u64 (rl64 x n)) w) : callK Tryd.prog 45 [.int .u64 x, .int .i64 k] w K := by
  refine call_of Tryd.func45 Code.h45 (by simp [Code.c45]) ?_
  simp only [Code.c45, ↓EP, EQ, EM, ↓reduceIte, Int.reduceAdd, Int.reduceEq, Int.reduceLE, Int.reduceLT, Int.reduceMul, Int.reduceNeg, Int.reducePow, Int.reduceSub, Int.reduceToNat, Nat.reduceAdd, Nat.reduceEqDiff, Nat.reduceLT, Nat.reduceLeDiff, Nat.reduceMul, reduceCtorEq, hn]
  have e : IntKind.u64.wrap (64 - n) = 64 - n := wu64 (by omega) (by omega)
  rw [e]
  refine ⟨h0, by omega, ?_⟩
  have e1 : min n.toNat 64 = n.toNat := by omega
  have e2 : min (64 - n).toNat 64 = (64 - n).toNat := by omega
  rw [e1, e2]
  exact hK
theorem rotl32_q (x k n : Int) (hn : bits .and .u64 (IntKind.u64.wrap k) 31 = n) (h0 : 0 ≤ n) (h1 : n < 32) (w : World) (K : Value → Prop) (hK : K (.int .u32 (rl32 x n))) : qcallK Tryd.prog 42 [.int .u32 x, .int .i64 k] w K :=
  quiet_of _ (fun w' K' h => rotl32_spec x k n hn h0 h1 w' K' h) hK

/-- A word turned right by two numbers, and by a third or moved by it. -/
def tn32 (x i k m : Int) (moved : Bool) : Int := bits .xor .u32 (bits .xor .u32 (rl32 x (32 - i)) (rl32 x (32 - k))) (if moved then x.fdiv (2 ^ m.toNat) else rl32 x (32 - m))
def tn64 (x i k m : Int) (moved : Bool) : Int := bits .xor .u64 (bits .xor .u64 (rl64 x (64 - i)) (rl64 x (64 - k))) (if moved then x.fdiv (2 ^ m.toNat) else rl64 x (64 - m))
theorem turn_by : ∀ i : Nat, i < 32 → 0 < i → bits .and .u64 (IntKind.u64.wrap (IntKind.i64.wrap (0 - (i : Int)))) 31 = 32 - i := by decide +kernel
theorem wturn_by : ∀ i : Nat, i < 64 → 0 < i → bits .and .u64 (IntKind.u64.wrap (IntKind.i64.wrap (0 - (i : Int)))) 63 = 64 - i := by decide +kernel
theorem turns_spec (x : Int) (i k m : Nat) (moved : Bool) (hi : 0 < i) (hi' : i < 32) (hk : 0 < k) (hk' : k < 32) (hm : 0 < m) (hm' : m < 32) (w : World) (K : Value → World → Prop) (hK : K (.int .u32 (tn32 x i k m moved)) w) :
    callK Tryd.prog 43 [.int .u32 x, .int .i64 i, .int .i64 k, .int .i64 m, .bool moved] w K := by
  refine call_of Tryd.func43 Code.h43 (by simp [Code.c43]) ?_
  simp only [Code.c43, ↓EP, EQ, EM, ↓reduceIte, Int.reduceAdd, Int.reduceEq, Int.reduceLE, Int.reduceLT, Int.reduceMul, Int.reduceNeg, Int.reducePow, Int.reduceSub, Int.reduceToNat, Nat.reduceAdd, Nat.reduceEqDiff, Nat.reduceLT, Nat.reduceLeDiff, Nat.reduceMul, reduceCtorEq]
  refine rotl32_spec x _ (32 - m) (turn_by m hm' hm) (by omega) (by omega) _ _ ?_
  cases moved with
  | true =>
    simp only [↓EP, EQ, EM, ↓reduceIte, Int.reduceAdd, Int.reduceEq, Int.reduceLE, Int.reduceLT, Int.reduceMul, Int.reduceNeg, Int.reducePow, Int.reduceSub, Int.reduceToNat, Nat.reduceAdd, Nat.reduceEqDiff, Nat.reduceLT, Nat.reduceLeDiff, Nat.reduceMul, reduceCtorEq, W_join]
    refine ⟨by omega, rotl32_spec x _ (32 - i) (turn_by i hi' hi) (by omega) (by omega) _ _ ?_⟩
    simp only [↓EP, EQ, EM, ↓reduceIte, Int.reduceAdd, Int.reduceEq, Int.reduceLE, Int.reduceLT, Int.reduceMul, Int.reduceNeg, Int.reducePow, Int.reduceSub, Int.reduceToNat, Nat.reduceAdd, Nat.reduceEqDiff, Nat.reduceLT, Nat.reduceLeDiff, Nat.reduceMul, reduceCtorEq]
    refine rotl32_spec x _ (32 - k) (turn_by k hk' hk) (by omega) (by omega) _ _ ?_
    simp only [↓EP, EQ, EM, ↓reduceIte, Int.reduceAdd, Int.reduceEq, Int.reduceLE, Int.reduceLT, Int.reduceMul, Int.reduceNeg, Int.reducePow, Int.reduceSub, Int.reduceToNat, Nat.reduceAdd, Nat.reduceEqDiff, Nat.reduceLT, Nat.reduceLeDiff, Nat.reduceMul, reduceCtorEq]
    have e2 : min m 32 = ((m : Int)).toNat := by omega
    rw [e2]
    exact hK
  | false =>
    simp only [↓EP, EQ, EM, ↓reduceIte, Int.reduceAdd, Int.reduceEq, Int.reduceLE, Int.reduceLT, Int.reduceMul, Int.reduceNeg, Int.reducePow, Int.reduceSub, Int.reduceToNat, Nat.reduceAdd, Nat.reduceEqDiff, Nat.reduceLT, Nat.reduceLeDiff, Nat.reduceMul, reduceCtorEq, W_join]
    refine rotl32_spec x _ (32 - i) (turn_by i hi' hi) (by omega) (by omega) _ _ ?_
    simp only [↓EP, EQ, EM, ↓reduceIte, Int.reduceAdd, Int.reduceEq, Int.reduceLE, Int.reduceLT, Int.reduceMul, Int.reduceNeg, Int.reducePow, Int.reduceSub, Int.reduceToNat, Nat.reduceAdd, Nat.reduceEqDiff, Nat.reduceLT, Nat.reduceLeDiff, Nat.reduceMul, reduceCtorEq]
    refine rotl32_spec x _ (32 - k) (turn_by k hk' hk) (by omega) (by omega) _ _ ?_
    simp only [↓EP, EQ, EM, ↓reduceIte, Int.reduceAdd, Int.reduceEq, Int.reduceLE, Int.reduceLT, Int.reduceMul, Int.reduceNeg, Int.reducePow, Int.reduceSub, Int.reduceToNat, Nat.reduceAdd, Nat.reduceEqDiff, Nat.reduceLT, Nat.reduceLeDiff, Nat.reduceMul, reduceCtorEq]
    exact hK
theorem wturns_spec (x : Int) (i k m : Nat) (moved : Bool) (hi : 0 < i) (hi' : i < 64) (hk : 0 < k) (hk' : k < 64) (hm : 0 < m) (hm' : m < 64) (w : World) (K : Value → World → Prop) (hK : K (.int .u64 (tn64 x i k m moved)) w) :
    callK Tryd.prog 44 [.int .u64 x, .int .i64 i, .int .i64 k, .int .i64 m, .bool moved] w K := by
  refine call_of Tryd.func44 Code.h44 (by simp [Code.c44]) ?_
  simp only [Code.c44, ↓EP, EQ, EM, ↓reduceIte, Int.reduceAdd, Int.reduceEq, Int.reduceLE, Int.reduceLT, Int.reduceMul, Int.reduceNeg, Int.reducePow, Int.reduceSub, Int.reduceToNat, Nat.reduceAdd, Nat.reduceEqDiff, Nat.reduceLT, Nat.reduceLeDiff, Nat.reduceMul, reduceCtorEq]
  refine rotl64_spec x _ (64 - m) (wturn_by m hm' hm) (by omega) (by omega) _ _ ?_
  cases moved with
  | true =>
    simp only [↓EP, EQ, EM, ↓reduceIte, Int.reduceAdd, Int.reduceEq, Int.reduceLE, Int.reduceLT, Int.reduceMul, Int.reduceNeg, Int.reducePow, Int.reduceSub, Int.reduceToNat, Nat.reduceAdd, Nat.reduceEqDiff, Nat.reduceLT, Nat.reduceLeDiff, Nat.reduceMul, reduceCtorEq, W_join]
    refine ⟨by omega, rotl64_spec x _ (64 - i) (wturn_by i hi' hi) (by omega) (by omega) _ _ ?_⟩
    simp only [↓EP, EQ, EM, ↓reduceIte, Int.reduceAdd, Int.reduceEq, Int.reduceLE, Int.reduceLT, Int.reduceMul, Int.reduceNeg, Int.reducePow, Int.reduceSub, Int.reduceToNat, Nat.reduceAdd, Nat.reduceEqDiff, Nat.reduceLT, Nat.reduceLeDiff, Nat.reduceMul, reduceCtorEq]
    refine rotl64_spec x _ (64 - k) (wturn_by k hk' hk) (by omega) (by omega) _ _ ?_
    simp only [↓EP, EQ, EM, ↓reduceIte, Int.reduceAdd, Int.reduceEq, Int.reduceLE, Int.reduceLT, Int.reduceMul, Int.reduceNeg, Int.reducePow, Int.reduceSub, Int.reduceToNat, Nat.reduceAdd, Nat.reduceEqDiff, Nat.reduceLT, Nat.reduceLeDiff, Nat.reduceMul, reduceCtorEq]
    have e2 : min m 64 = ((m : Int)).toNat := by omega
    rw [e2]
    exact hK
  | false =>
    simp only [↓EP, EQ, EM, ↓reduceIte, Int.reduceAdd, Int.reduceEq, Int.reduceLE, Int.reduceLT, Int.reduceMul, Int.reduceNeg, Int.reducePow, Int.reduceSub, Int.reduceToNat, Nat.reduceAdd, Nat.reduceEqDiff, Nat.reduceLT, Nat.reduceLeDiff, Nat.reduceMul, reduceCtorEq, W_join]
    refine rotl64_spec x _ (64 - i) (wturn_by i hi' hi) (by omega) (by omega) _ _ ?_
    simp only [↓EP, EQ, EM, ↓reduceIte, Int.reduceAdd, Int.reduceEq, Int.reduceLE, Int.reduceLT, Int.reduceMul, Int.reduceNeg, Int.reducePow, Int.reduceSub, Int.reduceToNat, Nat.reduceAdd, Nat.reduceEqDiff, Nat.reduceLT, Nat.reduceLeDiff, Nat.reduceMul, reduceCtorEq]
    refine rotl64_spec x _ (64 - k) (wturn_by k hk' hk) (by omega) (by omega) _ _ ?_
    simp only [↓EP, EQ, EM, ↓reduceIte, Int.reduceAdd, Int.reduceEq, Int.reduceLE, Int.reduceLT, Int.reduceMul, Int.reduceNeg, Int.reducePow, Int.reduceSub, Int.reduceToNat, Nat.reduceAdd, Nat.reduceEqDiff, Nat.reduceLT, Nat.reduceLeDiff, Nat.reduceMul, reduceCtorEq]
    exact hK
theorem turns_q (x : Int) (i k m : Nat) (moved : Bool) (hi : 0 < i) (hi' : i < 32) (hk : 0 < k) (hk' : k < 32) (hm : 0 < m) (hm' : m < 32) (w : World) (K : Value → Prop) (hK : K (.int .u32 (tn32 x i k m moved))) :
    qcallK Tryd.prog 43 [.int .u32 x, .int .i64 i, .int .i64 k, .int .i64 m, .bool moved] w K :=
  quiet_of _ (fun w' K' h => turns_spec x i k m moved hi hi' hk hk' hm hm' w' K' h) hK
theorem wturns_q (x : Int) (i k m : Nat) (moved : Bool) (hi : 0 < i) (hi' : i < 64) (hk : 0 < k) (hk' : k < 64) (hm : 0 < m) (hm' : m < 64) (w : World) (K : Value → Prop) (hK : K (.int .u64 (tn64 x i k m moved))) :
    qcallK Tryd.prog 44 [.int .u64 x, .int .i64 i, .int .i64 k, .int .i64 m, .bool moved] w K :=
  quiet_of _ (fun w' K' h => wturns_spec x i k m moved hi hi' hk hk' hm hm' w' K' h) hK

/-! ### A block's words -/
def wordAt (p : List Int) (i : Int) : Int := bits .or .u32 (bits .or .u32 (bits .or .u32 (IntKind.u32.wrap (IntKind.u32.wrap (at' p (4 * i)) * 16777216)) (IntKind.u32.wrap (IntKind.u32.wrap (at' p (4 * i + 1)) * 65536))) (IntKind.u32.wrap (IntKind.u32.wrap (at' p (4 * i + 2)) * 256))) (IntKind.u32.wrap (at' p (4 * i + 3)))
def zs (n : Nat) : List Int := List.replicate n 0
theorem zs_len (n : Nat) : (zs n).length = n := by simp [zs]
def words (p : List Int) : List Int := rounds (fun i l => l.set i (wordAt p i)) 16 (zs 16)
theorem rounds_len (f : Nat → List Int → List Int) (h : ∀ n l, (f n l).length = l.length) : ∀ (n : Nat) (l : List Int), (rounds f n l).length = l.length
  | 0, l => rfl
  | n + 1, l => by rw [rounds, h, rounds_len f h n l]
theorem words_len (p : List Int) : (words p).length = 16 := rounds_len _ (fun n l => by simp) 16 _
theorem words_spec (A : Option Addr) (cap : Nat) (p : List Int) (hp : p.length = 64) (w : World) (hr : Rd w A (nums .u8 p)) (K : Value → World → Prop)
    (hK : ∀ w', Below w.heap.size w w' → K (.agg (nums .u32 (words p)).toArray) w') : callK Tryd.prog 41 [.slice A 64 cap] w K := by
  obtain ⟨ad, rfl, had, hc⟩ := hr.get (by simp [nums_length, hp])
  refine call_of Tryd.func41 Code.h41 (by simp [Code.c41]) ?_
  simp only [Code.c41, ↓EP, EQ, EM, ↓reduceIte, Int.reduceAdd, Int.reduceEq, Int.reduceLE, Int.reduceLT, Int.reduceMul, Int.reduceNeg, Int.reducePow, Int.reduceSub, Int.reduceToNat, Nat.reduceAdd, Nat.reduceEqDiff, Nat.reduceLT, Nat.reduceLeDiff, Nat.reduceMul, reduceCtorEq]
  refine al_k (nums .u32 (zs 16)) rfl fun w1 n1 => ?_
  simp only [↓EP, EQ, EM, ↓reduceIte, Int.reduceAdd, Int.reduceEq, Int.reduceLE, Int.reduceLT, Int.reduceMul, Int.reduceNeg, Int.reducePow, Int.reduceSub, Int.reduceToNat, Nat.reduceAdd, Nat.reduceEqDiff, Nat.reduceLT, Nat.reduceLeDiff, Nat.reduceMul, reduceCtorEq]
  refine loop_inv (fun m ρ w' => ∃ (k : Nat), ρ 4 = .int .i64 k ∧ k ≤ 16 ∧ m = 16 - k ∧ Blk w' w.heap.size (nums .u32 (rounds (fun i l => l.set i (wordAt p i)) k (zs 16))) ∧ Below w.heap.size w w') 16 ?_ ?_
  · exact ⟨0, by simp only [↓EP, EQ, EM, ↓reduceIte, Int.reduceAdd, Int.reduceEq, Int.reduceLE, Int.reduceLT, Int.reduceMul, Int.reduceNeg, Int.reducePow, Int.reduceSub, Int.reduceToNat, Nat.reduceAdd, Nat.reduceEqDiff, Nat.reduceLT, Nat.reduceLeDiff, Nat.reduceMul, reduceCtorEq], by omega, by omega, n1.blk, n1.below (Nat.le_refl _) (Below.refl _ _)⟩
  · rintro m ρ w' hf ⟨k, h4, hk, rfl, hB, hb⟩ N hN
    have hc' := hc.below had hb
    have h0 : ρ 0 = .slice (some ad) 64 cap := by rw [hf 0 rfl]; simp only [↓EP, EQ, EM, ↓reduceIte, Int.reduceAdd, Int.reduceEq, Int.reduceLE, Int.reduceLT, Int.reduceMul, Int.reduceNeg, Int.reducePow, Int.reduceSub, Int.reduceToNat, Nat.reduceAdd, Nat.reduceEqDiff, Nat.reduceLT, Nat.reduceLeDiff, Nat.reduceMul, reduceCtorEq]
    have h2 : ρ 2 = .pointer (some ⟨w.heap.size, 0, none⟩) := by rw [hf 2 rfl]; simp only [↓EP, EQ, EM, ↓reduceIte, Int.reduceAdd, Int.reduceEq, Int.reduceLE, Int.reduceLT, Int.reduceMul, Int.reduceNeg, Int.reducePow, Int.reduceSub, Int.reduceToNat, Nat.reduceAdd, Nat.reduceEqDiff, Nat.reduceLT, Nat.reduceLeDiff, Nat.reduceMul, reduceCtorEq]
    have hl : (rounds (fun i l => l.set i (wordAt p i)) k (zs 16)).length = 16 := rounds_len _ (fun n l => by simp) _ _
    by_cases hlt : (k : Int) < 16
    · have hp' := fun (j : Nat) (g : j < 64) => hc'.numN (by omega : j < p.length)
      simp (disch := omega) only [EO, ↓EP, EQ, EM, ↓reduceIte, Int.reduceAdd, Int.reduceEq, Int.reduceLE, Int.reduceLT, Int.reduceMul, Int.reduceNeg, Int.reducePow, Int.reduceSub, Int.reduceToNat, Nat.reduceAdd, Nat.reduceEqDiff, Nat.reduceLT, Nat.reduceLeDiff, Nat.reduceMul, reduceCtorEq, h4, h0, h2, hp']
      intro m
      refine st_num (hB.drewN m) (by omega) fun w2 p2 => ?_
      simp (disch := omega) only [EO, ↓EP, EQ, EM, ↓reduceIte, Int.reduceAdd, Int.reduceEq, Int.reduceLE, Int.reduceLT, Int.reduceMul, Int.reduceNeg, Int.reducePow, Int.reduceSub, Int.reduceToNat, Nat.reduceAdd, Nat.reduceEqDiff, Nat.reduceLT, Nat.reduceLeDiff, Nat.reduceMul, reduceCtorEq, h4, h0, h2, hp']
      exact hN (16 - (k + 1)) _ _ (by omega) ⟨k + 1, by simp (disch := omega) only [↓EP, EQ, EM, ↓reduceIte, Int.reduceAdd, Int.reduceEq, Int.reduceLE, Int.reduceLT, Int.reduceMul, Int.reduceNeg, Int.reducePow, Int.reduceSub, Int.reduceToNat, Nat.reduceAdd, Nat.reduceEqDiff, Nat.reduceLT, Nat.reduceLeDiff, Nat.reduceMul, reduceCtorEq, h4, EO, Int.natCast_add], by omega, rfl, p2.blk, p2.below (Nat.le_refl _) (below_drewN' hb m)⟩
    · have hk16 : k = 16 := by omega
      subst hk16
      have hB : Blk w' w.heap.size (nums .u32 (words p)) := hB
      simp only [↓EP, EQ, EM, ↓reduceIte, Int.reduceAdd, Int.reduceEq, Int.reduceLE, Int.reduceLT, Int.reduceMul, Int.reduceNeg, Int.reducePow, Int.reduceSub, Int.reduceToNat, Nat.reduceAdd, Nat.reduceEqDiff, Nat.reduceLT, Nat.reduceLeDiff, Nat.reduceMul, reduceCtorEq, h4, h0, h2]
      have hwl : (nums .u32 (words p)).length = 16 := by rw [nums_length]; exact words_len p
      refine hB.ldAgg hwl ?_
      simp only [↓EP, EQ, EM, ↓reduceIte, Int.reduceAdd, Int.reduceEq, Int.reduceLE, Int.reduceLT, Int.reduceMul, Int.reduceNeg, Int.reducePow, Int.reduceSub, Int.reduceToNat, Nat.reduceAdd, Nat.reduceEqDiff, Nat.reduceLT, Nat.reduceLeDiff, Nat.reduceMul, reduceCtorEq, h2]
      refine st_whole hB hwl hwl (nums_one _ _) fun w4 h4 => ?_
      try simp only [↓EP, EQ, EM, ↓reduceIte, Int.reduceAdd, Int.reduceEq, Int.reduceLE, Int.reduceLT, Int.reduceMul, Int.reduceNeg, Int.reducePow, Int.reduceSub, Int.reduceToNat, Nat.reduceAdd, Nat.reduceEqDiff, Nat.reduceLT, Nat.reduceLeDiff, Nat.reduceMul, reduceCtorEq, h2]
      exact h4.blk.ldAgg hwl (hK _ (h4.below (Nat.le_refl _) hb))
attribute [irreducible] words
end Go.Proofs.YtibccpfocbdmaaaDoor.Spec
