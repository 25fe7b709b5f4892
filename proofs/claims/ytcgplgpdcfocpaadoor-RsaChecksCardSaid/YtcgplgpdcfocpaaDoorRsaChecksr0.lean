/- RsaChecks: what is used, in one text. -/
import Derived.Test.YtcgplgpdcfocpaaDoorRows
import Derived.ProofKit
import Derived.LaidMore
import Derived.OpenShut
import Derived.Carry
import Derived.ChangeMaps5
import Derived.ChangeCalls
import Derived.Stop.Joined
import Derived.Lib.LaidTab
import Derived.Lay
import Derived.Laws.BitsAllLaws
import Derived.Test.YtcgplgpdcfocpaaDoorRsaChecksc0
set_option linter.unusedVariables false
set_option linter.unusedSimpArgs false
section
set_option linter.unusedVariables false
set_option linter.unusedSimpArgs false
namespace Go.Proofs.YtcgplgpdcfocpaaDoor.Spec
open Go Go.RowKit Go.Proofs Go.Proofs.YtcgplgpdcfocpaaDoor.Eng Go.Proofs.YtcgplgpdcfocpaaDoor.Code
set_option maxRecDepth 100000
def rl32 (x n : Int) : Int := bits .or .u32 (IntKind.u32.wrap (x * 2 ^ n.toNat)) (x.fdiv (2 ^ (32 - n).toNat))
def rl64 (x n : Int) : Int := bits .or .u64 (IntKind.u64.wrap (x * 2 ^ n.toNat)) (x.fdiv (2 ^ (64 - n).toNat))
theorem rotl32_spec (x k n : Int) (hn : bits .and .u64 (IntKind.u64.wrap k) 31 = n) (h0 : 0 ≤ n) (h1 : n < 32) (w : World) (K : Value → World → Prop) (hK : K (.int .u32 (rl32 x n)) w) : callK Tryd.prog 117 [.int .u32 x, .int .i64 k] w K := by
  refine call_of Tryd.func117 Code.h117 (by simp [Code.c117]) ?_
  simp only [Code.c117, ↓EP, EQ, EM, ↓reduceIte, Int.reduceAdd, Int.reduceEq, Int.reduceLE, Int.reduceLT, Int.reduceMul, Int.reduceNeg, Int.reducePow, Int.reduceSub, Int.reduceToNat, Nat.reduceAdd, Nat.reduceEqDiff, Nat.reduceLT, Nat.reduceLeDiff, Nat.reduceMul, reduceCtorEq, hn]
  have e : IntKind.u64.wrap (32 - n) = 32 - n := wu64 (by omega) (by omega)
  rw [e]
  refine ⟨h0, by omega, ?_⟩
  have e1 : min n.toNat 32 = n.toNat := by omega
  have e2 : min (32 - n).toNat 32 = (32 - n).toNat := by omega
  rw [e1, e2]
  exact hK
theorem rotl64_spec (x k n : Int) (hn : bits .and .u64 (IntKind.u64.wrap k) 63 = n) (h0 : 0 ≤ n) (h1 : n < 64) (w : World) (K : Value → World → Prop) (hK : K (.int .u64 (rl64 x n)) w) : callK Tryd.prog 121 [.int .u64 x, .int .i64 k] w K := by
  refine call_of Tryd.func121 Code.h121 (by simp [Code.c121]) ?_
  simp only [Code.c121, ↓EP, EQ, EM, ↓reduceIte, Int.reduceAdd, Int.reduceEq, Int.reduceLE, Int.reduceLT, Int.reduceMul, Int.reduceNeg, Int.reducePow, Int.reduceSub, Int.reduceToNat, Nat.reduceAdd, Nat.reduceEqDiff, Nat.reduceLT, Nat.reduceLeDiff, Nat.reduceMul, reduceCtorEq, hn]
  have e : IntKind.u64.wrap (64 - n) = 64 - n := wu64 (by omega) (by omega)
  rw [e]
  refine ⟨h0, by omega, ?_⟩
  have e1 : min n.toNat 64 = n.toNat := by omega
  have e2 : min (64 - n).toNat 64 = (64 - n).toNat := by omega
  rw [e1, e2]
  exact hK
theorem rotl32_q (x k n : Int) (hn : bits .and .u64 (IntKind.u64.wrap k) 31 = n) (h0 : 0 ≤ n) (h1 : n < 32) (w : World) (K : Value → Prop) (hK : K (.int .u32 (rl32 x n))) : qcallK Tryd.prog 117 [.int .u32 x, .int .i64 k] w K :=
  quiet_of _ (fun w' K' h => rotl32_spec x k n hn h0 h1 w' K' h) hK
def tn32 (x i k m : Int) (moved : Bool) : Int := bits .xor .u32 (bits .xor .u32 (rl32 x (32 - i)) (rl32 x (32 - k))) (if moved then x.fdiv (2 ^ m.toNat) else rl32 x (32 - m))
def tn64 (x i k m : Int) (moved : Bool) : Int := bits .xor .u64 (bits .xor .u64 (rl64 x (64 - i)) (rl64 x (64 - k))) (if moved then x.fdiv (2 ^ m.toNat) else rl64 x (64 - m))
theorem turn_by : ∀ i : Nat, i < 32 → 0 < i → bits .and .u64 (IntKind.u64.wrap (IntKind.i64.wrap (0 - (i : Int)))) 31 = 32 - i := by decide +kernel
theorem wturn_by : ∀ i : Nat, i < 64 → 0 < i → bits .and .u64 (IntKind.u64.wrap (IntKind.i64.wrap (0 - (i : Int)))) 63 = 64 - i := by decide +kernel
theorem turns_spec (x : Int) (i k m : Nat) (moved : Bool) (hi : 0 < i) (hi' : i < 32) (hk : 0 < k) (hk' : k < 32) (hm : 0 < m) (hm' : m < 32) (w : World) (K : Value → World → Prop) (hK : K (.int .u32 (tn32 x i k m moved)) w) :
    callK Tryd.prog 118 [.int .u32 x, .int .i64 i, .int .i64 k, .int .i64 m, .bool moved] w K := by
  refine call_of Tryd.func118 Code.h118 (by simp [Code.c118]) ?_
  simp only [Code.c118, ↓EP, EQ, EM, ↓reduceIte, Int.reduceAdd, Int.reduceEq, Int.reduceLE, Int.reduceLT, Int.reduceMul, Int.reduceNeg, Int.reducePow, Int.reduceSub, Int.reduceToNat, Nat.reduceAdd, Nat.reduceEqDiff, Nat.reduceLT, Nat.reduceLeDiff, Nat.reduceMul, reduceCtorEq]
  refine rotl32_spec x _ (32 - m) (turn_by m hm' hm) (by omega) (by omega) _ _ ?_
  cases moved with
  | true =>
    simp only [↓EP, EQ, EM, ↓reduceIte, Int.reduceAdd, Int.reduceEq, Int.reduceLE, Int.reduceLT, Int.reduceMul, Int.reduceNeg, Int.reducePow, Int.reduceSub, Int.reduceToNat, Nat.reduceAdd, Nat.reduceEqDiff, Nat.reduceLT, Nat.reduceLeDiff, Nat.reduceMul, reduceCtorEq, W_join]
    refine ⟨by omega, rotl32_spec x _ (32 - i) (turn_by i hi' hi) (by omega) (by omega) _ _ ?_⟩
    simp only [↓EP, EQ, EM, ↓reduceIte, Int.reduceAdd, Int.reduceEq, Int.reduceLE, Int.reduceLT, Int.reduceMul, Int.reduceNeg, Int.reducePow, Int.reduceSub, Int.reduceToNat, Nat.reduceAdd, Nat.reduceEqDiff, Nat.reduceLT, Nat.reduceLeDiff, Nat.reduceMul, reduceCtorEq]
    refine rotl32_spec x _ (32 - k) (turn_by k hk' hk) (by omega) (by omega) _ _ ?_
    simp only [↓EP, EQ, EM, ↓reduceIte, Int.reduceAdd, Int.reduceEq, Int.reduceLE, Int.reduceLT, Int.reduceMul, Int.reduceNeg, Int.reducePow, Int.reduceSub, Int.reduceToNat, Nat.reduceAdd, Nat.reduceEqDiff, Nat.reduceLT, Nat.reduceLeDiff, Nat.reduceMul, reduceCtorEq]
    have e2 : min m 32 = ((m : Int)).toNat := by omega
    rw [e2]
    exact hK
  | false =>
    simp only [↓EP, EQ, EM, ↓reduceIte, Int.reduceAdd, Int.reduceEq, Int.reduceLE, Int.reduceLT, Int.reduceMul, Int.reduceNeg, Int.reducePow, Int.reduceSub, Int.reduceToNat, Nat.reduceAdd, Nat.reduceEqDiff, Nat.reduceLT, Nat.reduceLeDiff, Nat.reduceMul, reduceCtorEq, W_join]
    refine rotl32_spec x _ (32 - i) (turn_by i hi' hi) (by omega) (by omega) _ _ ?_
    simp only [↓EP, EQ, EM, ↓reduceIte, Int.reduceAdd, Int.reduceEq, Int.reduceLE, Int.reduceLT, Int.reduceMul, Int.reduceNeg, Int.reducePow, Int.reduceSub, Int.reduceToNat, Nat.reduceAdd, Nat.reduceEqDiff, Nat.reduceLT, Nat.reduceLeDiff, Nat.reduceMul, reduceCtorEq]
    refine rotl32_spec x _ (32 - k) (turn_by k hk' hk) (by omega) (by omega) _ _ ?_
    simp only [↓EP, EQ, EM, ↓reduceIte, Int.reduceAdd, Int.reduceEq, Int.reduceLE, Int.reduceLT, Int.reduceMul, Int.reduceNeg, Int.reducePow, Int.reduceSub, Int.reduceToNat, Nat.reduceAdd, Nat.reduceEqDiff, Nat.reduceLT, Nat.reduceLeDiff, Nat.reduceMul, reduceCtorEq]
    exact hK
theorem wturns_spec (x : Int) (i k m : Nat) (moved : Bool) (hi : 0 < i) (hi' : i < 64) (hk : 0 < k) (hk' : k < 64) (hm : 0 < m) (hm' : m < 64) (w : World) (K : Value → World → Prop) (hK : K (.int .u64 (tn64 x i k m moved)) w) :
    callK Tryd.prog 119 [.int .u64 x, .int .i64 i, .int .i64 k, .int .i64 m, .bool moved] w K := by
  refine call_of Tryd.func119 Code.h119 (by simp [Code.c119]) ?_
  simp only [Code.c119, ↓EP, EQ, EM, ↓reduceIte, Int.reduceAdd, Int.reduceEq, Int.reduceLE, Int.reduceLT, Int.reduceMul, Int.reduceNeg, Int.reducePow, Int.reduceSub, Int.reduceToNat, Nat.reduceAdd, Nat.reduceEqDiff, Nat.reduceLT, Nat.reduceLeDiff, Nat.reduceMul, reduceCtorEq]
  refine rotl64_spec x _ (64 - m) (wturn_by m hm' hm) (by omega) (by omega) _ _ ?_
  cases moved with
  | true =>
    simp only [↓EP, EQ, EM, ↓reduceIte, Int.reduceAdd, Int.reduceEq, Int.reduceLE, Int.reduceLT, Int.reduceMul, Int.reduceNeg, Int.reducePow, Int.reduceSub, Int.reduceToNat, Nat.reduceAdd, Nat.reduceEqDiff, Nat.reduceLT, Nat.reduceLeDiff, Nat.reduceMul, reduceCtorEq, W_join]
    refine ⟨by omega, rotl64_spec x _ (64 - i) (wturn_by i hi' hi) (by omega) (by omega) _ _ ?_⟩
    simp only [↓EP, EQ, EM, ↓reduceIte, Int.reduceAdd, Int.reduceEq, Int.reduceLE, Int.reduceLT, Int.reduceMul, Int.reduceNeg, Int.reducePow, Int.reduceSub, Int.reduceToNat, Nat.reduceAdd, Nat.reduceEqDiff, Nat.reduceLT, Nat.reduceLeDiff, Nat.reduceMul, reduceCtorEq]
    refine rotl64_spec x _ (64 - k) (wturn_by k hk' hk) (by omega) (by omega) _ _ ?_
    simp only [↓EP, EQ, EM, ↓reduceIte, Int.reduceAdd, Int.reduceEq, Int.reduceLE, Int.reduceLT, Int.reduceMul, Int.reduceNeg, Int.reducePow, Int.reduceSub, Int.reduceToNat, Nat.reduceAdd, Nat.reduceEqDiff, Nat.reduceLT, Nat.reduceLeDiff, Nat.reduceMul, reduceCtorEq]
    have e2 : min m 64 = ((m : Int)).toNat := by omega
    rw [e2]
    exact hK
  | false =>
    simp only [↓EP, EQ, EM, ↓reduceIte, Int.reduceAdd, Int.reduceEq, Int.reduceLE, Int.reduceLT, Int.reduceMul, Int.reduceNeg, Int.reducePow, Int.reduceSub, Int.reduceToNat, Nat.reduceAdd, Nat.reduceEqDiff, Nat.reduceLT, Nat.reduceLeDiff, Nat.reduceMul, reduceCtorEq, W_join]
    refine rotl64_spec x _ (64 - i) (wturn_by i hi' hi) (by omega) (by omega) _ _ ?_
    simp only [↓EP, EQ, EM, ↓reduceIte, Int.reduceAdd, Int.reduceEq, Int.reduceLE, Int.reduceLT, Int.reduceMul, Int.reduceNeg, Int.reducePow, Int.reduceSub, Int.reduceToNat, Nat.reduceAdd, Nat.reduceEqDiff, Nat.reduceLT, Nat.reduceLeDiff, Nat.reduceMul, reduceCtorEq]
    refine rotl64_spec x _ (64 - k) (wturn_by k hk' hk) (by omega) (by omega) _ _ ?_
    simp only [↓EP, EQ, EM, ↓reduceIte, Int.reduceAdd, Int.reduceEq, Int.reduceLE, Int.reduceLT, Int.reduceMul, Int.reduceNeg, Int.reducePow, Int.reduceSub, Int.reduceToNat, Nat.reduceAdd, Nat.reduceEqDiff, Nat.reduceLT, Nat.reduceLeDiff, Nat.reduceMul, reduceCtorEq]
    exact hK
theorem turns_q (x : Int) (i k m : Nat) (moved : Bool) (hi : 0 < i) (hi' : i < 32) (hk : 0 < k) (hk' : k < 32) (hm : 0 < m) (hm' : m < 32) (w : World) (K : Value → Prop) (hK : K (.int .u32 (tn32 x i k m moved))) :
    qcallK Tryd.prog 118 [.int .u32 x, .int .i64 i, .int .i64 k, .int .i64 m, .bool moved] w K :=
  quiet_of _ (fun w' K' h => turns_spec x i k m moved hi hi' hk hk' hm hm' w' K' h) hK
theorem wturns_q (x : Int) (i k m : Nat) (moved : Bool) (hi : 0 < i) (hi' : i < 64) (hk : 0 < k) (hk' : k < 64) (hm : 0 < m) (hm' : m < 64) (w : World) (K : Value → Prop) (hK : K (.int .u64 (tn64 x i k m moved))) :
    qcallK Tryd.prog 119 [.int .u64 x, .int .i64 i, .int .i64 k, .int .i64 m, .bool moved] w K :=
  quiet_of _ (fun w' K' h => wturns_spec x i k m moved hi hi' hk hk' hm hm' w' K' h) hK
def wordAt (p : List Int) (i : Int) : Int := bits .or .u32 (bits .or .u32 (bits .or .u32 (IntKind.u32.wrap (IntKind.u32.wrap (at' p (4 * i)) * 16777216)) (IntKind.u32.wrap (IntKind.u32.wrap (at' p (4 * i + 1)) * 65536))) (IntKind.u32.wrap (IntKind.u32.wrap (at' p (4 * i + 2)) * 256))) (IntKind.u32.wrap (at' p (4 * i + 3)))
def zs (n : Nat) : List Int := List.replicate n 0
def words (p : List Int) : List Int := rounds (fun i l => l.set i (wordAt p i)) 16 (zs 16)
theorem rounds_len (f : Nat → List Int → List Int) (h : ∀ n l, (f n l).length = l.length) : ∀ (n : Nat) (l : List Int), (rounds f n l).length = l.length
  | 0, l => rfl
  | n + 1, l => by rw [rounds, h, rounds_len f h n l]
theorem words_len (p : List Int) : (words p).length = 16 := rounds_len _ (fun n l => by simp) 16 _
theorem words_spec (A : Option Addr) (cap : Nat) (p : List Int) (hp : p.length = 64) (w : World) (hr : Rd w A (nums .u8 p)) (K : Value → World → Prop)
    (hK : ∀ w', Below w.heap.size w w' → K (.agg (nums .u32 (words p)).toArray) w') : callK Tryd.prog 116 [.slice A 64 cap] w K := by
  obtain ⟨ad, rfl, had, hc⟩ := hr.get (by simp [nums_length, hp])
  refine call_of Tryd.func116 Code.h116 (by simp [Code.c116]) ?_
  simp only [Code.c116, ↓EP, EQ, EM, ↓reduceIte, Int.reduceAdd, Int.reduceEq, Int.reduceLE, Int.reduceLT, Int.reduceMul, Int.reduceNeg, Int.reducePow, Int.reduceSub, Int.reduceToNat, Nat.reduceAdd, Nat.reduceEqDiff, Nat.reduceLT, Nat.reduceLeDiff, Nat.reduceMul, reduceCtorEq]
  refine al_k (nums .u32 (zs 16)) rfl fun w1 n1 => ?_
  simp only [↓EP, EQ, EM, ↓reduceIte, Int.reduceAdd, Int.reduceEq, Int.reduceLE, Int.reduceLT, Int.reduceMul, Int.reduceNeg, Int.reducePow, Int.reduceSub, Int.reduceToNat, Nat.reduceAdd, Nat.reduceEqDiff, Nat.reduceLT, Nat.reduceLeDiff, Nat.reduceMul, reduceCtorEq]
  refine loop_inv (fun m ρ w' => ∃ (k : Nat), ρ 4 = .int .i64 k ∧ k ≤ 16 ∧ m = 16 - k ∧ Blk w' w.heap.size (nums .u32 (rounds (fun i l => l.set i (wordAt p i)) k (zs 16))) ∧ Below w.heap.size w w') 16 ?_ ?_
  · exact ⟨0, by simp only [↓EP, EQ, EM, ↓reduceIte, Int.reduceAdd, Int.reduceEq, Int.reduceLE, Int.reduceLT, Int.reduceMul, Int.reduceNeg, Int.reducePow, Int.reduceSub, Int.reduceToNat, Nat.reduceAdd, Nat.reduceEqDiff, Nat.reduceLT, Nat.reduceLeDiff, Nat.reduceMul, reduceCtorEq], by omega, by omega, n1.blk, n1.below (Nat.le_refl _) (Below.refl _ _)⟩
  · rintro m ρ w' hf ⟨k, h4, hk, rfl, hB, hb⟩ N hN
    have hc' := hc.below had hb
    have h0 : ρ 0 = .slice (some ad) 64 cap := by rw [hf 0 rfl]; simp only [↓EP, EQ, EM, ↓reduceIte, Int.reduceAdd, Int.reduceEq, Int.reduceLE, Int.reduceLT, Int.reduceMul, Int.reduceNeg, Int.reducePow, Int.reduceSub, Int.reduceToNat, Nat.reduceAdd, Nat.reduceEqDiff, Nat.reduceLT, Nat.reduceLeDiff, Nat.reduceMul, reduceCtorEq]
    have h2 : ρ 2 = .pointer (some ⟨w.heap.size, 0, none⟩) := by rw [hf 2 rfl]; simp only [↓EP, EQ, EM, ↓reduceIte, Int.reduceAdd, Int.reduceEq, Int.reduceLE, Int.reduceLT, Int.reduceMul, Int.reduceNeg, Int.reducePow, Int.reduceSub, Int.reduceToNat, Nat.reduceAdd, Nat.reduceEqDiff, Nat.reduceLT, Nat.reduceLeDiff, Nat.reduceMul, reduceCtorEq]
    have hl : (rounds (fun i l => l.set i (wordAt p i)) k (zs 16)).length = 16 := rounds_len _ (fun n l => by simp) _ _
    by_cases hlt : (k : Int) < 16
    · have hp' := fun (j : Nat) (g : j < 64) => hc'.numN (by omega : j < p.length)
      simp (disch := omega) only [EO, ↓EP, EQ, EM, ↓reduceIte, Int.reduceAdd, Int.reduceEq, Int.reduceLE, Int.reduceLT, Int.reduceMul, Int.reduceNeg, Int.reducePow, Int.reduceSub, Int.reduceToNat, Nat.reduceAdd, Nat.reduceEqDiff, Nat.reduceLT, Nat.reduceLeDiff, Nat.reduceMul, reduceCtorEq, h4, h0, h2, hp']
      intro m
      refine st_num (hB.drewN m) (by omega) fun w2 p2 => ?_
      simp (disch := omega) only [EO, ↓EP, EQ, EM, ↓reduceIte, Int.reduceAdd, Int.reduceEq, Int.reduceLE, Int.reduceLT, Int.reduceMul, Int.reduceNeg, Int.reducePow, Int.reduceSub, Int.reduceToNat, Nat.reduceAdd, Nat.reduceEqDiff, Nat.reduceLT, Nat.reduceLeDiff, Nat.reduceMul, reduceCtorEq, h4, h0, h2, hp']
      exact hN (16 - (k + 1)) _ _ (by omega) ⟨k + 1, by simp (disch := omega) only [↓EP, EQ, EM, ↓reduceIte, Int.reduceAdd, Int.reduceEq, Int.reduceLE, Int.reduceLT, Int.reduceMul, Int.reduceNeg, Int.reducePow, Int.reduceSub, Int.reduceToNat, Nat.reduceAdd, Nat.reduceEqDiff, Nat.reduceLT, Nat.reduceLeDiff, Nat.reduceMul, reduceCtorEq, h4, EO, Int.natCast_add], by omega, rfl, p2.blk, p2.below (Nat.le_refl _) (below_drewN' hb m)⟩
    · have hk16 : k = 16 := by omega
      subst hk16
      have hB : Blk w' w.heap.size (nums .u32 (words p)) := hB
      simp only [↓EP, EQ, EM, ↓reduceIte, Int.reduceAdd, Int.reduceEq, Int.reduceLE, Int.reduceLT, Int.reduceMul, Int.reduceNeg, Int.reducePow, Int.reduceSub, Int.reduceToNat, Nat.reduceAdd, Nat.reduceEqDiff, Nat.reduceLT, Nat.reduceLeDiff, Nat.reduceMul, reduceCtorEq, h4, h0, h2]
      have hwl : (nums .u32 (words p)).length = 16 := by rw [nums_length]; exact words_len p
      refine hB.ldAgg hwl ?_
      simp only [↓EP, EQ, EM, ↓reduceIte, Int.reduceAdd, Int.reduceEq, Int.reduceLE, Int.reduceLT, Int.reduceMul, Int.reduceNeg, Int.reducePow, Int.reduceSub, Int.reduceToNat, Nat.reduceAdd, Nat.reduceEqDiff, Nat.reduceLT, Nat.reduceLeDiff, Nat.reduceMul, reduceCtorEq, h2]
      refine st_whole hB hwl hwl (nums_one _ _) fun w4 h4 => ?_
      try simp only [↓EP, EQ, EM, ↓reduceIte, Int.reduceAdd, Int.reduceEq, Int.reduceLE, Int.reduceLT, Int.reduceMul, Int.reduceNeg, Int.reducePow, Int.reduceSub, Int.reduceToNat, Nat.reduceAdd, Nat.reduceEqDiff, Nat.reduceLT, Nat.reduceLeDiff, Nat.reduceMul, reduceCtorEq, h2]
      exact h4.blk.ldAgg hwl (hK _ (h4.below (Nat.le_refl _) hb))
attribute [irreducible] words
end Go.Proofs.YtcgplgpdcfocpaaDoor.Spec
end
section
set_option linter.unusedVariables false
set_option linter.unusedSimpArgs false
namespace Go.Proofs.YtcgplgpdcfocpaaDoor.Spec
open Go Go.RowKit Go.Proofs Go.Proofs.YtcgplgpdcfocpaaDoor.Eng Go.Proofs.YtcgplgpdcfocpaaDoor.Code
set_option maxRecDepth 100000
def x32 (a b : Int) : Int := bits .xor .u32 a b
def a32 (a b : Int) : Int := bits .and .u32 a b
def o32 (a b : Int) : Int := bits .or .u32 a b
def s32 (a b : Int) : Int := IntKind.u32.wrap (a + b)
structure St where
  w : List Int
  a : Int
  b : Int
  c : Int
  d : Int
  e : Int
def oneW (t : Nat) (w : List Int) : List Int :=
  if (t : Int) < 16 then w else w.set ((t : Int) % 16).toNat (rl32 (x32 (x32 (x32 (at' w (((t : Int) % 16 + 13) % 16)) (at' w (((t : Int) % 16 + 8) % 16))) (at' w (((t : Int) % 16 + 2) % 16))) (at' w ((t : Int) % 16))) 1)
def oneF (t : Nat) (b c d : Int) : Int :=
  if (t : Int) < 20 then x32 d (a32 b (x32 c d)) else if (t : Int) < 40 then x32 (x32 b c) d else if (t : Int) < 60 then o32 (a32 b c) (a32 d (o32 b c)) else x32 (x32 b c) d
def oneK (t : Nat) : Int := if (t : Int) < 20 then 1518500249 else if (t : Int) < 40 then 1859775393 else if (t : Int) < 60 then 2400959708 else 3395469782
def oneStep (t : Nat) (s : St) : St :=
  ⟨oneW t s.w, s32 (s32 (s32 (s32 (rl32 s.a 5) (oneF t s.b s.c s.d)) s.e) (oneK t)) (at' (oneW t s.w) ((t : Int) % 16)), s.a, rl32 s.b 30, s.c, s.d⟩
def oneInit (h p : List Int) : St := ⟨words p, at' h 0, at' h 1, at' h 2, at' h 3, at' h 4⟩
def one (h p : List Int) : List Int :=
  let s := rounds oneStep 80 (oneInit h p)
  [s32 (at' h 0) s.a, s32 (at' h 1) s.b, s32 (at' h 2) s.c, s32 (at' h 3) s.d, s32 (at' h 4) s.e, 0, 0, 0]
theorem oneW_len (t : Nat) (w : List Int) : (oneW t w).length = w.length := by
  unfold oneW; split <;> simp
theorem one_wlen (s : St) : ∀ n, (rounds oneStep n s).w.length = s.w.length
  | 0 => rfl
  | n + 1 => by rw [rounds, oneStep, oneW_len, one_wlen s n]
theorem oneInit_0 (h p : List Int) : rounds oneStep 0 (oneInit h p) = ⟨words p, at' h 0, at' h 1, at' h 2, at' h 3, at' h 4⟩ := rfl
def oneI (w : World) (h p : List Int) (b5 m : Nat) (ρ : Env) (w' : World) : Prop :=
  ∃ k : Nat, ρ 27 = .int .i64 k ∧ k ≤ 80 ∧ m = 80 - k ∧ ρ 6 = .int .u32 (rounds oneStep k (oneInit h p)).a ∧ ρ 7 = .int .u32 (rounds oneStep k (oneInit h p)).b ∧ ρ 8 = .int .u32 (rounds oneStep k (oneInit h p)).c ∧ ρ 9 = .int .u32 (rounds oneStep k (oneInit h p)).d ∧ ρ 10 = .int .u32 (rounds oneStep k (oneInit h p)).e ∧
    Blk w' w.heap.size (nums .u32 h) ∧ Blk w' (w.heap.size + 1) (nums .u32 (zs 8)) ∧ Blk w' b5 (nums .u32 (rounds oneStep k (oneInit h p)).w) ∧ Below w.heap.size w w'
set_option maxHeartbeats 2000000 in
theorem one_spec (h p : List Int) (hh : h.length = 8) (hp : p.length = 64) (A : Option Addr) (cap : Nat) (w : World) (hr : Rd w A (nums .u8 p)) (K : Value → World → Prop)
    (hK : ∀ w', Below w.heap.size w w' → K (.agg (nums .u32 (one h p)).toArray) w') : callK Tryd.prog 110 [.agg (nums .u32 h).toArray, .slice A 64 cap] w K := by
  refine call_of Tryd.func110 Code.h110 (by simp [Code.c110]) ?_
  simp only [Code.c110, ↓EP, EQ, EM, ↓reduceIte, Int.reduceAdd, Int.reduceEq, Int.reduceLE, Int.reduceLT, Int.reduceMul, Int.reduceNeg, Int.reducePow, Int.reduceSub, Int.reduceToNat, Nat.reduceAdd, Nat.reduceEqDiff, Nat.reduceLT, Nat.reduceLeDiff, Nat.reduceMul, reduceCtorEq]
  refine al_k (nums .u32 h) rfl fun w1 n1 => ?_
  simp only [↓EP, EQ, EM, ↓reduceIte, Int.reduceAdd, Int.reduceEq, Int.reduceLE, Int.reduceLT, Int.reduceMul, Int.reduceNeg, Int.reducePow, Int.reduceSub, Int.reduceToNat, Nat.reduceAdd, Nat.reduceEqDiff, Nat.reduceLT, Nat.reduceLeDiff, Nat.reduceMul, reduceCtorEq]
  refine al_k (nums .u32 (zs 8)) rfl fun w2 n2 => ?_
  simp only [↓EP, EQ, EM, ↓reduceIte, Int.reduceAdd, Int.reduceEq, Int.reduceLE, Int.reduceLT, Int.reduceMul, Int.reduceNeg, Int.reducePow, Int.reduceSub, Int.reduceToNat, Nat.reduceAdd, Nat.reduceEqDiff, Nat.reduceLT, Nat.reduceLeDiff, Nat.reduceMul, reduceCtorEq]
  have hs2 : w2.heap.size = w.heap.size + 2 := by rw [n2.size, n1.size]
  have hb2 : Below w.heap.size w w2 := n2.below (by rw [n1.size]; omega) (n1.below (Nat.le_refl _) (Below.refl _ _))
  have hH := n2.keep n1.blk
  have hZ := n2.blk
  rw [n1.size] at hZ
  refine words_spec A cap p hp w2 (n2.rd (n1.rd hr)) _ ?_
  intro w3 hb3
  simp only [↓EP, EQ, EM, ↓reduceIte, Int.reduceAdd, Int.reduceEq, Int.reduceLE, Int.reduceLT, Int.reduceMul, Int.reduceNeg, Int.reducePow, Int.reduceSub, Int.reduceToNat, Nat.reduceAdd, Nat.reduceEqDiff, Nat.reduceLT, Nat.reduceLeDiff, Nat.reduceMul, reduceCtorEq]
  refine al_k (nums .u32 (zs 16)) rfl fun w4 n4 => ?_
  simp only [↓EP, EQ, EM, ↓reduceIte, Int.reduceAdd, Int.reduceEq, Int.reduceLE, Int.reduceLT, Int.reduceMul, Int.reduceNeg, Int.reducePow, Int.reduceSub, Int.reduceToNat, Nat.reduceAdd, Nat.reduceEqDiff, Nat.reduceLT, Nat.reduceLeDiff, Nat.reduceMul, reduceCtorEq]
  have hs3 := hb3.size
  have hwl : (nums .u32 (words p)).length = 16 := by rw [nums_length]; exact words_len p
  refine st_whole n4.blk hwl rfl (nums_one _ _) fun w5 p5 => ?_
  have hH5 := p5.keep (by omega) (n4.keep (hH.below hb3 (by omega)))
  have hZ5 := p5.keep (by omega) (n4.keep (hZ.below hb3 (by omega)))
  have hb5 : Below w.heap.size w w5 := p5.below (by omega) (n4.below (by omega) (hb2.trans (hb3.mono (by omega))))
  have hc := fun (j : Nat) (g : j < 8) => hH5.numN (by omega : j < h.length)
  simp (disch := omega) only [EO, ↓EP, EQ, EM, ↓reduceIte, Int.reduceAdd, Int.reduceEq, Int.reduceLE, Int.reduceLT, Int.reduceMul, Int.reduceNeg, Int.reducePow, Int.reduceSub, Int.reduceToNat, Nat.reduceAdd, Nat.reduceEqDiff, Nat.reduceLT, Nat.reduceLeDiff, Nat.reduceMul, reduceCtorEq, hc]
  intro m
  have hs5 := p5.size
  have hs4 := n4.size
  refine loop_inv (oneI w h p w3.heap.size) 80 ?_ ?_
  · refine ⟨0, by simp only [↓EP, EQ, EM, ↓reduceIte, Int.reduceAdd, Int.reduceEq, Int.reduceLE, Int.reduceLT, Int.reduceMul, Int.reduceNeg, Int.reducePow, Int.reduceSub, Int.reduceToNat, Nat.reduceAdd, Nat.reduceEqDiff, Nat.reduceLT, Nat.reduceLeDiff, Nat.reduceMul, reduceCtorEq], by omega, by omega, ?_⟩
    simp only [oneInit_0]
    simp only [↓EP, EQ, EM, ↓reduceIte, Int.reduceAdd, Int.reduceEq, Int.reduceLE, Int.reduceLT, Int.reduceMul, Int.reduceNeg, Int.reducePow, Int.reduceSub, Int.reduceToNat, Nat.reduceAdd, Nat.reduceEqDiff, Nat.reduceLT, Nat.reduceLeDiff, Nat.reduceMul, reduceCtorEq]
    exact ⟨hH5.drewN m, hZ5.drewN m, p5.blk.drewN m, below_drewN' hb5 m⟩
  · rintro m' ρ w' hf ⟨k, h27, hk, rfl, h6, h7, h8, h9, h10, hH, hZ, hW, hb⟩ N hN
    have r2 : ρ 2 = .pointer (some ⟨w.heap.size, 0, none⟩) := by rw [hf 2 rfl]; simp only [↓EP, EQ, EM, ↓reduceIte, Int.reduceAdd, Int.reduceEq, Int.reduceLE, Int.reduceLT, Int.reduceMul, Int.reduceNeg, Int.reducePow, Int.reduceSub, Int.reduceToNat, Nat.reduceAdd, Nat.reduceEqDiff, Nat.reduceLT, Nat.reduceLeDiff, Nat.reduceMul, reduceCtorEq]
    have r4 : ρ 4 = .pointer (some ⟨w.heap.size + 1, 0, none⟩) := by rw [hf 4 rfl]; simp only [↓EP, EQ, EM, ↓reduceIte, Int.reduceAdd, Int.reduceEq, Int.reduceLE, Int.reduceLT, Int.reduceMul, Int.reduceNeg, Int.reducePow, Int.reduceSub, Int.reduceToNat, Nat.reduceAdd, Nat.reduceEqDiff, Nat.reduceLT, Nat.reduceLeDiff, Nat.reduceMul, reduceCtorEq, n1.size]
    have r5 : ρ 5 = .pointer (some ⟨w3.heap.size, 0, none⟩) := by rw [hf 5 rfl]; simp only [↓EP, EQ, EM, ↓reduceIte, Int.reduceAdd, Int.reduceEq, Int.reduceLE, Int.reduceLT, Int.reduceMul, Int.reduceNeg, Int.reducePow, Int.reduceSub, Int.reduceToNat, Nat.reduceAdd, Nat.reduceEqDiff, Nat.reduceLT, Nat.reduceLeDiff, Nat.reduceMul, reduceCtorEq]
    have hwl : (rounds oneStep k (oneInit h p)).w.length = 16 := by rw [one_wlen]; exact words_len p
    clear hf
    generalize hst : rounds oneStep k (oneInit h p) = st at *
    by_cases hlt : (k : Int) < 80
    · have fin : ∀ (w6 : World) (ρ6 : Env), ρ6 27 = .int .i64 ((k + 1 : Nat) : Int) → ρ6 6 = .int .u32 (oneStep k st).a → ρ6 7 = .int .u32 (oneStep k st).b → ρ6 8 = .int .u32 (oneStep k st).c → ρ6 9 = .int .u32 (oneStep k st).d → ρ6 10 = .int .u32 (oneStep k st).e →
          Blk w6 w.heap.size (nums .u32 h) → Blk w6 (w.heap.size + 1) (nums .u32 (zs 8)) → Blk w6 w3.heap.size (nums .u32 (oneStep k st).w) → Below w.heap.size w w6 → endK N ρ6 w6 := by
        intro w6 ρ6 g1 g2 g3 g4 g5 g6 g7 g8 g9 g10
        refine hN (80 - (k + 1)) _ _ (by omega) ⟨k + 1, g1, by omega, rfl, ?_⟩
        rw [rounds, hst]
        exact ⟨g2, g3, g4, g5, g6, g7, g8, g9, g10⟩
      simp only [oneStep] at fin
      generalize hw7 : oneW k st.w = W at fin
      by_cases h16 : (k : Int) < 16
      · rw [oneW, if_pos h16] at hw7
        subst hw7
        have hcw := fun (j : Nat) (g : j < 16) => hW.numN (by omega : j < st.w.length)
        have hF : oneF k st.b st.c st.d = x32 st.d (a32 st.b (x32 st.c st.d)) := by rw [oneF, if_pos (by omega)]
        have hKK : oneK k = 1518500249 := by rw [oneK, if_pos (by omega)]
        rw [hF, hKK] at fin
        simp (disch := omega) only [EO, ↓EP, EQ, EM, ↓reduceIte, Int.reduceAdd, Int.reduceEq, Int.reduceLE, Int.reduceLT, Int.reduceMul, Int.reduceNeg, Int.reducePow, Int.reduceSub, Int.reduceToNat, Nat.reduceAdd, Nat.reduceEqDiff, Nat.reduceLT, Nat.reduceLeDiff, Nat.reduceMul, reduceCtorEq, W_join, h27, r2, r4, r5, h6, h7, h8, h9, h10, hcw]
        refine rotl32_q _ 5 5 (by decide +kernel) (by omega) (by omega) _ _ ?_
        simp (disch := omega) only [EO, ↓EP, EQ, EM, ↓reduceIte, Int.reduceAdd, Int.reduceEq, Int.reduceLE, Int.reduceLT, Int.reduceMul, Int.reduceNeg, Int.reducePow, Int.reduceSub, Int.reduceToNat, Nat.reduceAdd, Nat.reduceEqDiff, Nat.reduceLT, Nat.reduceLeDiff, Nat.reduceMul, reduceCtorEq, h27, r2, r4, r5, h6, h7, h8, h9, h10, hcw]
        refine rotl32_q _ 30 30 (by decide +kernel) (by omega) (by omega) _ _ ?_
        simp (disch := omega) only [EO, ↓EP, EQ, EM, ↓reduceIte, Int.reduceAdd, Int.reduceEq, Int.reduceLE, Int.reduceLT, Int.reduceMul, Int.reduceNeg, Int.reducePow, Int.reduceSub, Int.reduceToNat, Nat.reduceAdd, Nat.reduceEqDiff, Nat.reduceLT, Nat.reduceLeDiff, Nat.reduceMul, reduceCtorEq, h27, r2, r4, r5, h6, h7, h8, h9, h10, hcw]
        intro m1
        refine fin _ _ ?_ ?_ ?_ ?_ ?_ ?_ (hH.drewN _) (hZ.drewN _) (hW.drewN _) (below_drewN' hb _)
        all_goals simp (disch := omega) only [EO, ↓EP, EQ, EM, ↓reduceIte, Int.reduceAdd, Int.reduceEq, Int.reduceLE, Int.reduceLT, Int.reduceMul, Int.reduceNeg, Int.reducePow, Int.reduceSub, Int.reduceToNat, Nat.reduceAdd, Nat.reduceEqDiff, Nat.reduceLT, Nat.reduceLeDiff, Nat.reduceMul, reduceCtorEq, h27, r2, r4, r5, h6, h7, h8, h9, h10, hcw, s32, x32, a32, o32, Int.natCast_add]
      · rw [oneW, if_neg h16] at hw7
        have hcw := fun (j : Nat) (g : j < 16) => hW.numN (by omega : j < st.w.length)
        simp (disch := omega) only [EO, ↓EP, EQ, EM, ↓reduceIte, Int.reduceAdd, Int.reduceEq, Int.reduceLE, Int.reduceLT, Int.reduceMul, Int.reduceNeg, Int.reducePow, Int.reduceSub, Int.reduceToNat, Nat.reduceAdd, Nat.reduceEqDiff, Nat.reduceLT, Nat.reduceLeDiff, Nat.reduceMul, reduceCtorEq, W_join, h27, r2, r4, r5, h6, h7, h8, h9, h10, hcw]
        refine rotl32_q _ 1 1 (by decide +kernel) (by omega) (by omega) _ _ ?_
        simp (disch := omega) only [EO, ↓EP, EQ, EM, ↓reduceIte, Int.reduceAdd, Int.reduceEq, Int.reduceLE, Int.reduceLT, Int.reduceMul, Int.reduceNeg, Int.reducePow, Int.reduceSub, Int.reduceToNat, Nat.reduceAdd, Nat.reduceEqDiff, Nat.reduceLT, Nat.reduceLeDiff, Nat.reduceMul, reduceCtorEq, h27, r2, r4, r5, h6, h7, h8, h9, h10, hcw]
        intro m0
        refine st_num (hW.drewN m0) (by rw [hwl]; omega) fun w8 p8 => ?_
        have hw7 : st.w.set ((k : Int) % 16).toNat (rl32 (x32 (x32 (x32 (at' st.w (((k : Int) % 16 + 13) % 16)) (at' st.w (((k : Int) % 16 + 8) % 16))) (at' st.w (((k : Int) % 16 + 2) % 16))) (at' st.w ((k : Int) % 16))) 1) = W := hw7
        have p8 : Put (w'.drewN m0) w8 w3.heap.size (nums .u32 W) := by rw [← hw7]; exact p8
        have hWl : W.length = 16 := by subst hw7; simp [hwl]
        have hcW := fun (j : Nat) (g : j < 16) => p8.blk.numN (by omega : j < W.length)
        have hH' := p8.keep (by omega) hH
        have hZ' := p8.keep (by omega) hZ
        have hb' := p8.below (by omega) (below_drewN' hb m0)
        clear hcw hw7
        have c : (k : Int) < 20 ∨ (20 ≤ (k : Int) ∧ (k : Int) < 40) ∨ (40 ≤ (k : Int) ∧ (k : Int) < 60) ∨ 60 ≤ (k : Int) := by omega
        rcases c with c | c | c | c
        · have hF : oneF k st.b st.c st.d = x32 st.d (a32 st.b (x32 st.c st.d)) := by rw [oneF, if_pos (by omega)]
          have hKK : oneK k = 1518500249 := by rw [oneK, if_pos (by omega)]
          rw [hF, hKK] at fin
          simp (disch := omega) only [EO, ↓EP, EQ, EM, ↓reduceIte, Int.reduceAdd, Int.reduceEq, Int.reduceLE, Int.reduceLT, Int.reduceMul, Int.reduceNeg, Int.reducePow, Int.reduceSub, Int.reduceToNat, Nat.reduceAdd, Nat.reduceEqDiff, Nat.reduceLT, Nat.reduceLeDiff, Nat.reduceMul, reduceCtorEq, W_join, h27, r2, r4, r5, h6, h7, h8, h9, h10, hcW]
          refine rotl32_q _ 5 5 (by decide +kernel) (by omega) (by omega) _ _ ?_
          simp (disch := omega) only [EO, ↓EP, EQ, EM, ↓reduceIte, Int.reduceAdd, Int.reduceEq, Int.reduceLE, Int.reduceLT, Int.reduceMul, Int.reduceNeg, Int.reducePow, Int.reduceSub, Int.reduceToNat, Nat.reduceAdd, Nat.reduceEqDiff, Nat.reduceLT, Nat.reduceLeDiff, Nat.reduceMul, reduceCtorEq, h27, r2, r4, r5, h6, h7, h8, h9, h10, hcW]
          refine rotl32_q _ 30 30 (by decide +kernel) (by omega) (by omega) _ _ ?_
          simp (disch := omega) only [EO, ↓EP, EQ, EM, ↓reduceIte, Int.reduceAdd, Int.reduceEq, Int.reduceLE, Int.reduceLT, Int.reduceMul, Int.reduceNeg, Int.reducePow, Int.reduceSub, Int.reduceToNat, Nat.reduceAdd, Nat.reduceEqDiff, Nat.reduceLT, Nat.reduceLeDiff, Nat.reduceMul, reduceCtorEq, h27, r2, r4, r5, h6, h7, h8, h9, h10, hcW]
          intro m1
          refine fin _ _ ?_ ?_ ?_ ?_ ?_ ?_ (hH'.drewN _) (hZ'.drewN _) (p8.blk.drewN _) (below_drewN' hb' _)
          all_goals simp (disch := omega) only [EO, ↓EP, EQ, EM, ↓reduceIte, Int.reduceAdd, Int.reduceEq, Int.reduceLE, Int.reduceLT, Int.reduceMul, Int.reduceNeg, Int.reducePow, Int.reduceSub, Int.reduceToNat, Nat.reduceAdd, Nat.reduceEqDiff, Nat.reduceLT, Nat.reduceLeDiff, Nat.reduceMul, reduceCtorEq, h27, r2, r4, r5, h6, h7, h8, h9, h10, hcW, s32, x32, a32, o32, Int.natCast_add]
        · have hF : oneF k st.b st.c st.d = x32 (x32 st.b st.c) st.d := by rw [oneF, if_neg (by omega), if_pos (by omega)]
          have hKK : oneK k = 1859775393 := by rw [oneK, if_neg (by omega), if_pos (by omega)]
          rw [hF, hKK] at fin
          simp (disch := omega) only [EO, ↓EP, EQ, EM, ↓reduceIte, Int.reduceAdd, Int.reduceEq, Int.reduceLE, Int.reduceLT, Int.reduceMul, Int.reduceNeg, Int.reducePow, Int.reduceSub, Int.reduceToNat, Nat.reduceAdd, Nat.reduceEqDiff, Nat.reduceLT, Nat.reduceLeDiff, Nat.reduceMul, reduceCtorEq, W_join, h27, r2, r4, r5, h6, h7, h8, h9, h10, hcW]
          refine rotl32_q _ 5 5 (by decide +kernel) (by omega) (by omega) _ _ ?_
          simp (disch := omega) only [EO, ↓EP, EQ, EM, ↓reduceIte, Int.reduceAdd, Int.reduceEq, Int.reduceLE, Int.reduceLT, Int.reduceMul, Int.reduceNeg, Int.reducePow, Int.reduceSub, Int.reduceToNat, Nat.reduceAdd, Nat.reduceEqDiff, Nat.reduceLT, Nat.reduceLeDiff, Nat.reduceMul, reduceCtorEq, h27, r2, r4, r5, h6, h7, h8, h9, h10, hcW]
          refine rotl32_q _ 30 30 (by decide +kernel) (by omega) (by omega) _ _ ?_
          simp (disch := omega) only [EO, ↓EP, EQ, EM, ↓reduceIte, Int.reduceAdd, Int.reduceEq, Int.reduceLE, Int.reduceLT, Int.reduceMul, Int.reduceNeg, Int.reducePow, Int.reduceSub, Int.reduceToNat, Nat.reduceAdd, Nat.reduceEqDiff, Nat.reduceLT, Nat.reduceLeDiff, Nat.reduceMul, reduceCtorEq, h27, r2, r4, r5, h6, h7, h8, h9, h10, hcW]
          intro m1
          refine fin _ _ ?_ ?_ ?_ ?_ ?_ ?_ (hH'.drewN _) (hZ'.drewN _) (p8.blk.drewN _) (below_drewN' hb' _)
          all_goals simp (disch := omega) only [EO, ↓EP, EQ, EM, ↓reduceIte, Int.reduceAdd, Int.reduceEq, Int.reduceLE, Int.reduceLT, Int.reduceMul, Int.reduceNeg, Int.reducePow, Int.reduceSub, Int.reduceToNat, Nat.reduceAdd, Nat.reduceEqDiff, Nat.reduceLT, Nat.reduceLeDiff, Nat.reduceMul, reduceCtorEq, h27, r2, r4, r5, h6, h7, h8, h9, h10, hcW, s32, x32, a32, o32, Int.natCast_add]
        · have hF : oneF k st.b st.c st.d = o32 (a32 st.b st.c) (a32 st.d (o32 st.b st.c)) := by rw [oneF, if_neg (by omega), if_neg (by omega), if_pos (by omega)]
          have hKK : oneK k = 2400959708 := by rw [oneK, if_neg (by omega), if_neg (by omega), if_pos (by omega)]
          rw [hF, hKK] at fin
          simp (disch := omega) only [EO, ↓EP, EQ, EM, ↓reduceIte, Int.reduceAdd, Int.reduceEq, Int.reduceLE, Int.reduceLT, Int.reduceMul, Int.reduceNeg, Int.reducePow, Int.reduceSub, Int.reduceToNat, Nat.reduceAdd, Nat.reduceEqDiff, Nat.reduceLT, Nat.reduceLeDiff, Nat.reduceMul, reduceCtorEq, W_join, h27, r2, r4, r5, h6, h7, h8, h9, h10, hcW]
          refine rotl32_q _ 5 5 (by decide +kernel) (by omega) (by omega) _ _ ?_
          simp (disch := omega) only [EO, ↓EP, EQ, EM, ↓reduceIte, Int.reduceAdd, Int.reduceEq, Int.reduceLE, Int.reduceLT, Int.reduceMul, Int.reduceNeg, Int.reducePow, Int.reduceSub, Int.reduceToNat, Nat.reduceAdd, Nat.reduceEqDiff, Nat.reduceLT, Nat.reduceLeDiff, Nat.reduceMul, reduceCtorEq, h27, r2, r4, r5, h6, h7, h8, h9, h10, hcW]
          refine rotl32_q _ 30 30 (by decide +kernel) (by omega) (by omega) _ _ ?_
          simp (disch := omega) only [EO, ↓EP, EQ, EM, ↓reduceIte, Int.reduceAdd, Int.reduceEq, Int.reduceLE, Int.reduceLT, Int.reduceMul, Int.reduceNeg, Int.reducePow, Int.reduceSub, Int.reduceToNat, Nat.reduceAdd, Nat.reduceEqDiff, Nat.reduceLT, Nat.reduceLeDiff, Nat.reduceMul, reduceCtorEq, h27, r2, r4, r5, h6, h7, h8, h9, h10, hcW]
          intro m1
          refine fin _ _ ?_ ?_ ?_ ?_ ?_ ?_ (hH'.drewN _) (hZ'.drewN _) (p8.blk.drewN _) (below_drewN' hb' _)
          all_goals simp (disch := omega) only [EO, ↓EP, EQ, EM, ↓reduceIte, Int.reduceAdd, Int.reduceEq, Int.reduceLE, Int.reduceLT, Int.reduceMul, Int.reduceNeg, Int.reducePow, Int.reduceSub, Int.reduceToNat, Nat.reduceAdd, Nat.reduceEqDiff, Nat.reduceLT, Nat.reduceLeDiff, Nat.reduceMul, reduceCtorEq, h27, r2, r4, r5, h6, h7, h8, h9, h10, hcW, s32, x32, a32, o32, Int.natCast_add]
        · have hF : oneF k st.b st.c st.d = x32 (x32 st.b st.c) st.d := by rw [oneF, if_neg (by omega), if_neg (by omega), if_neg (by omega)]
          have hKK : oneK k = 3395469782 := by rw [oneK, if_neg (by omega), if_neg (by omega), if_neg (by omega)]
          rw [hF, hKK] at fin
          simp (disch := omega) only [EO, ↓EP, EQ, EM, ↓reduceIte, Int.reduceAdd, Int.reduceEq, Int.reduceLE, Int.reduceLT, Int.reduceMul, Int.reduceNeg, Int.reducePow, Int.reduceSub, Int.reduceToNat, Nat.reduceAdd, Nat.reduceEqDiff, Nat.reduceLT, Nat.reduceLeDiff, Nat.reduceMul, reduceCtorEq, W_join, h27, r2, r4, r5, h6, h7, h8, h9, h10, hcW]
          refine rotl32_q _ 5 5 (by decide +kernel) (by omega) (by omega) _ _ ?_
          simp (disch := omega) only [EO, ↓EP, EQ, EM, ↓reduceIte, Int.reduceAdd, Int.reduceEq, Int.reduceLE, Int.reduceLT, Int.reduceMul, Int.reduceNeg, Int.reducePow, Int.reduceSub, Int.reduceToNat, Nat.reduceAdd, Nat.reduceEqDiff, Nat.reduceLT, Nat.reduceLeDiff, Nat.reduceMul, reduceCtorEq, h27, r2, r4, r5, h6, h7, h8, h9, h10, hcW]
          refine rotl32_q _ 30 30 (by decide +kernel) (by omega) (by omega) _ _ ?_
          simp (disch := omega) only [EO, ↓EP, EQ, EM, ↓reduceIte, Int.reduceAdd, Int.reduceEq, Int.reduceLE, Int.reduceLT, Int.reduceMul, Int.reduceNeg, Int.reducePow, Int.reduceSub, Int.reduceToNat, Nat.reduceAdd, Nat.reduceEqDiff, Nat.reduceLT, Nat.reduceLeDiff, Nat.reduceMul, reduceCtorEq, h27, r2, r4, r5, h6, h7, h8, h9, h10, hcW]
          intro m1
          refine fin _ _ ?_ ?_ ?_ ?_ ?_ ?_ (hH'.drewN _) (hZ'.drewN _) (p8.blk.drewN _) (below_drewN' hb' _)
          all_goals simp (disch := omega) only [EO, ↓EP, EQ, EM, ↓reduceIte, Int.reduceAdd, Int.reduceEq, Int.reduceLE, Int.reduceLT, Int.reduceMul, Int.reduceNeg, Int.reducePow, Int.reduceSub, Int.reduceToNat, Nat.reduceAdd, Nat.reduceEqDiff, Nat.reduceLT, Nat.reduceLeDiff, Nat.reduceMul, reduceCtorEq, h27, r2, r4, r5, h6, h7, h8, h9, h10, hcW, s32, x32, a32, o32, Int.natCast_add]
    · have hk80 : k = 80 := by omega
      subst hk80
      have hcc := fun (j : Nat) (g : j < 8) => hH.numN (by omega : j < h.length)
      simp (disch := omega) only [EO, ↓EP, EQ, EM, ↓reduceIte, Int.reduceAdd, Int.reduceEq, Int.reduceLE, Int.reduceLT, Int.reduceMul, Int.reduceNeg, Int.reducePow, Int.reduceSub, Int.reduceToNat, Nat.reduceAdd, Nat.reduceEqDiff, Nat.reduceLT, Nat.reduceLeDiff, Nat.reduceMul, reduceCtorEq, h27, r2, r4, h6, h7, h8, h9, h10, hcc]
      have hfill : fillL [(0, 1), (1, 1), (2, 1), (3, 1), (4, 1), (5, 1), (6, 1), (7, 1)] (Array.replicate 8 (Value.int IntKind.u32 0)) [(0, Value.int IntKind.u32 (s32 (at' h 0) st.a)), (1, Value.int IntKind.u32 (s32 (at' h 1) st.b)), (2, Value.int IntKind.u32 (s32 (at' h 2) st.c)), (3, Value.int IntKind.u32 (s32 (at' h 3) st.d)), (4, Value.int IntKind.u32 (s32 (at' h 4) st.e))] = some (nums .u32 (one h p)).toArray := by
        unfold one; rw [hst]; rfl
      have h8 : (nums .u32 (one h p)).length = 8 := by rw [nums_length]; rfl
      refine ⟨_, hfill, ?_⟩
      simp only [↓EP, EQ, EM, ↓reduceIte, Int.reduceAdd, Int.reduceEq, Int.reduceLE, Int.reduceLT, Int.reduceMul, Int.reduceNeg, Int.reducePow, Int.reduceSub, Int.reduceToNat, Nat.reduceAdd, Nat.reduceEqDiff, Nat.reduceLT, Nat.reduceLeDiff, Nat.reduceMul, reduceCtorEq, r2, r4]
      refine st_whole hZ h8 rfl (nums_one _ _) fun w8 p8 => ?_
      simp only [↓EP, EQ, EM, ↓reduceIte, Int.reduceAdd, Int.reduceEq, Int.reduceLE, Int.reduceLT, Int.reduceMul, Int.reduceNeg, Int.reducePow, Int.reduceSub, Int.reduceToNat, Nat.reduceAdd, Nat.reduceEqDiff, Nat.reduceLT, Nat.reduceLeDiff, Nat.reduceMul, reduceCtorEq, r2, r4]
      exact p8.blk.ldAgg h8 (hK _ (p8.below (by omega) hb))
end Go.Proofs.YtcgplgpdcfocpaaDoor.Spec
end
section
set_option linter.unusedVariables false
set_option linter.unusedSimpArgs false
namespace Go.Proofs.YtcgplgpdcfocpaaDoor.Spec
open Go Go.RowKit Go.Proofs Go.Proofs.YtcgplgpdcfocpaaDoor.Eng Go.Proofs.YtcgplgpdcfocpaaDoor.Code
set_option maxRecDepth 100000
def k256 : List Int := [1116352408, 1899447441, 3049323471, 3921009573, 961987163, 1508970993, 2453635748, 2870763221, 3624381080, 310598401, 607225278, 1426881987, 1925078388, 2162078206, 2614888103, 3248222580, 3835390401, 4022224774, 264347078, 604807628, 770255983, 1249150122, 1555081692, 1996064986, 2554220882, 2821834349, 2952996808, 3210313671, 3336571891, 3584528711, 113926993, 338241895, 666307205, 773529912, 1294757372, 1396182291, 1695183700, 1986661051, 2177026350, 2456956037, 2730485921, 2820302411, 3259730800, 3345764771, 3516065817, 3600352804, 4094571909, 275423344, 430227734, 506948616, 659060556, 883997877, 958139571, 1322822218, 1537002063, 1747873779, 1955562222, 2024104815, 2227730452, 2361852424, 2428436474, 2756734187, 3204031479, 3329325298]
theorem k256_len : k256.length = 64 := rfl
attribute [irreducible] k256
structure S32 where
  w : List Int
  s : List Int
def twoW (t : Nat) (w : List Int) : List Int :=
  if (t : Int) < 16 then w else w.set ((t : Int) % 16).toNat (s32 (at' w ((t : Int) % 16)) (s32 (s32 (tn32 (at' w ((((t : Int) % 16) + 14) % 16)) 17 19 10 true) (at' w ((((t : Int) % 16) + 9) % 16))) (tn32 (at' w ((((t : Int) % 16) + 1) % 16)) 7 18 3 true)))
def twoX (t : Nat) (w s : List Int) : Int := s32 (s32 (s32 (s32 (at' s 7) (tn32 (at' s 4) 6 11 25 false)) (x32 (at' s 6) (a32 (at' s 4) (x32 (at' s 5) (at' s 6))))) (at' k256 t)) (at' w ((t : Int) % 16))
def twoY (s : List Int) : Int := s32 (tn32 (at' s 0) 2 13 22 false) (o32 (a32 (at' s 0) (at' s 1)) (a32 (at' s 2) (o32 (at' s 0) (at' s 1))))
def twoS (x y : Int) (s : List Int) : List Int := [s32 x y, at' s 0, at' s 1, at' s 2, s32 (at' s 3) x, at' s 4, at' s 5, at' s 6]
def twoStep (t : Nat) (q : S32) : S32 := ⟨twoW t q.w, twoS (twoX t (twoW t q.w) q.s) (twoY q.s) q.s⟩
def twoInit (h p : List Int) : S32 := ⟨words p, h⟩
def twoAdd (h : List Int) (i : Nat) (s : List Int) : List Int := s.set i (s32 (at' s i) (at' h i))
def two (h p : List Int) : List Int := rounds (twoAdd h) 8 (rounds twoStep 64 (twoInit h p)).s
theorem twoW_len (t : Nat) (w : List Int) : (twoW t w).length = w.length := by
  unfold twoW; split <;> simp
theorem two_wlen (s : S32) : ∀ n, (rounds twoStep n s).w.length = s.w.length
  | 0 => rfl
  | n + 1 => by rw [rounds, twoStep, twoW_len, two_wlen s n]
theorem two_slen (s : S32) (h : s.s.length = 8) : ∀ n, (rounds twoStep n s).s.length = 8
  | 0 => h
  | n + 1 => rfl
theorem two_alen (h s : List Int) (k : Nat) : (rounds (twoAdd h) k s).length = s.length := rounds_len _ (fun n l => by simp [twoAdd]) _ _
theorem two_len (h p : List Int) (hh : h.length = 8) : (two h p).length = 8 := by unfold two; rw [two_alen, two_slen _ hh]
set_option maxHeartbeats 2000000 in
theorem two_spec (h p : List Int) (hh : h.length = 8) (hp : p.length = 64) (A : Option Addr) (cap : Nat) (w : World) (hr : Rd w A (nums .u8 p)) (hT : cellsAt w ⟨2, 0, none⟩ (nums .u32 k256)) (hg : 2 < w.heap.size) (K : Value → World → Prop)
    (hK : ∀ w', Below w.heap.size w w' → K (.agg (nums .u32 (two h p)).toArray) w') : callK Tryd.prog 111 [.agg (nums .u32 h).toArray, .slice A 64 cap] w K := by
  refine call_of Tryd.func111 Code.h111 (by simp [Code.c111]) ?_
  simp only [Code.c111, ↓EP, EQ, EM, ↓reduceIte, Int.reduceAdd, Int.reduceEq, Int.reduceLE, Int.reduceLT, Int.reduceMul, Int.reduceNeg, Int.reducePow, Int.reduceSub, Int.reduceToNat, Nat.reduceAdd, Nat.reduceEqDiff, Nat.reduceLT, Nat.reduceLeDiff, Nat.reduceMul, reduceCtorEq]
  refine al_k (nums .u32 h) rfl fun w1 n1 => ?_
  simp only [↓EP, EQ, EM, ↓reduceIte, Int.reduceAdd, Int.reduceEq, Int.reduceLE, Int.reduceLT, Int.reduceMul, Int.reduceNeg, Int.reducePow, Int.reduceSub, Int.reduceToNat, Nat.reduceAdd, Nat.reduceEqDiff, Nat.reduceLT, Nat.reduceLeDiff, Nat.reduceMul, reduceCtorEq]
  refine al_k (nums .u32 (zs 8)) rfl fun w2 n2 => ?_
  simp only [↓EP, EQ, EM, ↓reduceIte, Int.reduceAdd, Int.reduceEq, Int.reduceLE, Int.reduceLT, Int.reduceMul, Int.reduceNeg, Int.reducePow, Int.reduceSub, Int.reduceToNat, Nat.reduceAdd, Nat.reduceEqDiff, Nat.reduceLT, Nat.reduceLeDiff, Nat.reduceMul, reduceCtorEq]
  have s1 := n1.size
  have s2 := n2.size
  have hb2 : Below w.heap.size w w2 := n2.below (by omega) (n1.below (Nat.le_refl _) (Below.refl _ _))
  have hH := n2.keep n1.blk
  have hZ := n2.blk
  rw [s1] at hZ
  refine words_spec A cap p hp w2 (n2.rd (n1.rd hr)) _ ?_
  intro w3 hb3
  simp only [↓EP, EQ, EM, ↓reduceIte, Int.reduceAdd, Int.reduceEq, Int.reduceLE, Int.reduceLT, Int.reduceMul, Int.reduceNeg, Int.reducePow, Int.reduceSub, Int.reduceToNat, Nat.reduceAdd, Nat.reduceEqDiff, Nat.reduceLT, Nat.reduceLeDiff, Nat.reduceMul, reduceCtorEq]
  refine al_k (nums .u32 (zs 16)) rfl fun w4 n4 => ?_
  simp only [↓EP, EQ, EM, ↓reduceIte, Int.reduceAdd, Int.reduceEq, Int.reduceLE, Int.reduceLT, Int.reduceMul, Int.reduceNeg, Int.reducePow, Int.reduceSub, Int.reduceToNat, Nat.reduceAdd, Nat.reduceEqDiff, Nat.reduceLT, Nat.reduceLeDiff, Nat.reduceMul, reduceCtorEq]
  have s3 := hb3.size
  have s4 := n4.size
  have hwl : (nums .u32 (words p)).length = 16 := by rw [nums_length]; exact words_len p
  refine st_whole n4.blk hwl rfl (nums_one _ _) fun w5 p5 => ?_
  simp only [↓EP, EQ, EM, ↓reduceIte, Int.reduceAdd, Int.reduceEq, Int.reduceLE, Int.reduceLT, Int.reduceMul, Int.reduceNeg, Int.reducePow, Int.reduceSub, Int.reduceToNat, Nat.reduceAdd, Nat.reduceEqDiff, Nat.reduceLT, Nat.reduceLeDiff, Nat.reduceMul, reduceCtorEq]
  have s5 := p5.size
  generalize hbw : w3.heap.size = bW at *
  have hW := p5.blk
  have hH := p5.keep (by omega) (n4.keep (hH.below hb3 (by omega)))
  have hZ := p5.keep (by omega) (n4.keep (hZ.below hb3 (by omega)))
  have hb5 : Below w.heap.size w w5 := p5.below (by omega) (n4.below (by omega) (hb2.trans (hb3.mono (by omega))))
  refine hH.ldAgg (by rw [nums_length]; exact hh) ?_
  simp only [↓EP, EQ, EM, ↓reduceIte, Int.reduceAdd, Int.reduceEq, Int.reduceLE, Int.reduceLT, Int.reduceMul, Int.reduceNeg, Int.reducePow, Int.reduceSub, Int.reduceToNat, Nat.reduceAdd, Nat.reduceEqDiff, Nat.reduceLT, Nat.reduceLeDiff, Nat.reduceMul, reduceCtorEq]
  refine al_k (nums .u32 (zs 8)) rfl fun w6 n6 => ?_
  simp only [↓EP, EQ, EM, ↓reduceIte, Int.reduceAdd, Int.reduceEq, Int.reduceLE, Int.reduceLT, Int.reduceMul, Int.reduceNeg, Int.reducePow, Int.reduceSub, Int.reduceToNat, Nat.reduceAdd, Nat.reduceEqDiff, Nat.reduceLT, Nat.reduceLeDiff, Nat.reduceMul, reduceCtorEq]
  have s6 := n6.size
  refine st_whole n6.blk (by rw [nums_length]; exact hh) rfl (nums_one _ _) fun w7 p7 => ?_
  simp only [↓EP, EQ, EM, ↓reduceIte, Int.reduceAdd, Int.reduceEq, Int.reduceLE, Int.reduceLT, Int.reduceMul, Int.reduceNeg, Int.reducePow, Int.reduceSub, Int.reduceToNat, Nat.reduceAdd, Nat.reduceEqDiff, Nat.reduceLT, Nat.reduceLeDiff, Nat.reduceMul, reduceCtorEq]
  have s7 := p7.size
  have ltW := hW.lt
  generalize hbs : w5.heap.size = bS at *
  have hS := p7.blk
  have hH := p7.keep (by omega) (n6.keep hH)
  have hZ := p7.keep (by omega) (n6.keep hZ)
  have hW := p7.keep (by omega) (n6.keep hW)
  have hb7 : Below w.heap.size w w7 := p7.below (by omega) (n6.below (by omega) hb5)
  refine loop_inv (fun m ρ w' => ∃ k : Nat, ρ 15 = .int .i64 k ∧ k ≤ 64 ∧ m = 64 - k ∧ Blk w' w.heap.size (nums .u32 h) ∧ Blk w' (w.heap.size + 1) (nums .u32 (zs 8)) ∧ Blk w' bW (nums .u32 (rounds twoStep k (twoInit h p)).w) ∧ Blk w' bS (nums .u32 (rounds twoStep k (twoInit h p)).s) ∧ Below w.heap.size w w') 64 ?_ ?_
  · exact ⟨0, by simp only [↓EP, EQ, EM, ↓reduceIte, Int.reduceAdd, Int.reduceEq, Int.reduceLE, Int.reduceLT, Int.reduceMul, Int.reduceNeg, Int.reducePow, Int.reduceSub, Int.reduceToNat, Nat.reduceAdd, Nat.reduceEqDiff, Nat.reduceLT, Nat.reduceLeDiff, Nat.reduceMul, reduceCtorEq], by omega, by omega, hH, hZ, hW, hS, hb7⟩
  rintro m ρ' w' hf ⟨k, hrg, hk, rfl, hH, hZ, hW, hS, hb⟩ N hN
  have r2 : ρ' 2 = .pointer (some ⟨w.heap.size, 0, none⟩) := by rw [hf 2 rfl]; simp only [↓EP, EQ, EM, ↓reduceIte, Int.reduceAdd, Int.reduceEq, Int.reduceLE, Int.reduceLT, Int.reduceMul, Int.reduceNeg, Int.reducePow, Int.reduceSub, Int.reduceToNat, Nat.reduceAdd, Nat.reduceEqDiff, Nat.reduceLT, Nat.reduceLeDiff, Nat.reduceMul, reduceCtorEq]
  have r4 : ρ' 4 = .pointer (some ⟨w.heap.size + 1, 0, none⟩) := by rw [hf 4 rfl]; simp only [↓EP, EQ, EM, ↓reduceIte, Int.reduceAdd, Int.reduceEq, Int.reduceLE, Int.reduceLT, Int.reduceMul, Int.reduceNeg, Int.reducePow, Int.reduceSub, Int.reduceToNat, Nat.reduceAdd, Nat.reduceEqDiff, Nat.reduceLT, Nat.reduceLeDiff, Nat.reduceMul, reduceCtorEq, s1]
  have r5 : ρ' 5 = .pointer (some ⟨bW, 0, none⟩) := by rw [hf 5 rfl]; simp only [↓EP, EQ, EM, ↓reduceIte, Int.reduceAdd, Int.reduceEq, Int.reduceLE, Int.reduceLT, Int.reduceMul, Int.reduceNeg, Int.reducePow, Int.reduceSub, Int.reduceToNat, Nat.reduceAdd, Nat.reduceEqDiff, Nat.reduceLT, Nat.reduceLeDiff, Nat.reduceMul, reduceCtorEq, hbw]
  have r6 : ρ' 6 = .pointer (some ⟨bS, 0, none⟩) := by rw [hf 6 rfl]; simp only [↓EP, EQ, EM, ↓reduceIte, Int.reduceAdd, Int.reduceEq, Int.reduceLE, Int.reduceLT, Int.reduceMul, Int.reduceNeg, Int.reducePow, Int.reduceSub, Int.reduceToNat, Nat.reduceAdd, Nat.reduceEqDiff, Nat.reduceLT, Nat.reduceLeDiff, Nat.reduceMul, reduceCtorEq, hbs]
  have hwl : (rounds twoStep k (twoInit h p)).w.length = 16 := by rw [two_wlen]; exact words_len p
  have hsl : (rounds twoStep k (twoInit h p)).s.length = 8 := two_slen _ hh k
  have hT' := hT.below hg hb
  have htl := k256_len
  have hct := fun (j : Nat) (g : j < 64) => hT'.numN (by omega : j < k256.length)
  have hct' : ∀ j : Nat, j < 64 → w'.cell? ⟨2, j, none⟩ = some (.int .u32 (at' k256 j)) := fun j g => by have := hct j g; rwa [Addr.add_lit, Nat.zero_add] at this
  clear hf
  generalize hst : rounds twoStep k (twoInit h p) = st at *
  have hcs := fun (j : Nat) (g : j < 8) => hS.numN (by omega : j < st.s.length)
  by_cases hlt : (k : Int) < 64
  · have fin : ∀ (w6 : World) (ρ6 : Env), ρ6 15 = .int .i64 ((k + 1 : Nat) : Int) →
        Blk w6 w.heap.size (nums .u32 h) → Blk w6 (w.heap.size + 1) (nums .u32 (zs 8)) → Blk w6 bW (nums .u32 (twoStep k st).w) → Blk w6 bS (nums .u32 (twoStep k st).s) → Below w.heap.size w w6 → endK N ρ6 w6 := by
      intro w6 ρ6 g1 g2 g3 g4 g5 g6
      refine hN (64 - (k + 1)) _ _ (by omega) ⟨k + 1, g1, by omega, rfl, ?_⟩
      rw [rounds, hst]
      exact ⟨g2, g3, g4, g5, g6⟩
    simp only [twoStep] at fin
    generalize hw7 : twoW k st.w = W at fin
    by_cases h16 : (k : Int) < 16
    · rw [twoW, if_pos h16] at hw7
      subst hw7
      generalize hw8 : st.w = W at *
      have hcw := fun (j : Nat) (g : j < 16) => hW.numN (by omega : j < W.length)
      simp (disch := omega) only [EO, ↓EP, EQ, EM, ↓reduceIte, Int.reduceAdd, Int.reduceEq, Int.reduceLE, Int.reduceLT, Int.reduceMul, Int.reduceNeg, Int.reducePow, Int.reduceSub, Int.reduceToNat, Nat.reduceAdd, Nat.reduceEqDiff, Nat.reduceLT, Nat.reduceLeDiff, Nat.reduceMul, reduceCtorEq, W_join, hrg, r2, r4, r5, r6, hcw, hcs, hct']
      refine turns_q _ 6 11 25 false (by omega) (by omega) (by omega) (by omega) (by omega) (by omega) _ _ ?_
      simp (disch := omega) only [EO, ↓EP, EQ, EM, ↓reduceIte, Int.reduceAdd, Int.reduceEq, Int.reduceLE, Int.reduceLT, Int.reduceMul, Int.reduceNeg, Int.reducePow, Int.reduceSub, Int.reduceToNat, Nat.reduceAdd, Nat.reduceEqDiff, Nat.reduceLT, Nat.reduceLeDiff, Nat.reduceMul, reduceCtorEq, hrg, r2, r4, r5, r6, hcw, hcs, hct']
      intro m1
      refine turns_q _ 2 13 22 false (by omega) (by omega) (by omega) (by omega) (by omega) (by omega) _ _ ?_
      simp (disch := omega) only [EO, ↓EP, EQ, EM, ↓reduceIte, Int.reduceAdd, Int.reduceEq, Int.reduceLE, Int.reduceLT, Int.reduceMul, Int.reduceNeg, Int.reducePow, Int.reduceSub, Int.reduceToNat, Nat.reduceAdd, Nat.reduceEqDiff, Nat.reduceLT, Nat.reduceLeDiff, Nat.reduceMul, reduceCtorEq, hrg, r2, r4, r5, r6, hcw, hcs, hct']
      intro m2
      have hfill : fillL [(0, 1), (1, 1), (2, 1), (3, 1), (4, 1), (5, 1), (6, 1), (7, 1)] (Array.replicate 8 (Value.int IntKind.u32 0)) [(0, Value.int IntKind.u32 (s32 (twoX k W st.s) (twoY st.s))), (1, Value.int IntKind.u32 (at' st.s 0)), (2, Value.int IntKind.u32 (at' st.s 1)), (3, Value.int IntKind.u32 (at' st.s 2)), (4, Value.int IntKind.u32 (s32 (at' st.s 3) (twoX k W st.s))), (5, Value.int IntKind.u32 (at' st.s 4)), (6, Value.int IntKind.u32 (at' st.s 5)), (7, Value.int IntKind.u32 (at' st.s 6))] = some (nums .u32 (twoS (twoX k W st.s) (twoY st.s) st.s)).toArray := fill8 _ _ _ _ _ _ _ _ _
      refine ⟨_, hfill, ?_⟩
      simp (disch := omega) only [EO, ↓EP, EQ, EM, ↓reduceIte, Int.reduceAdd, Int.reduceEq, Int.reduceLE, Int.reduceLT, Int.reduceMul, Int.reduceNeg, Int.reducePow, Int.reduceSub, Int.reduceToNat, Nat.reduceAdd, Nat.reduceEqDiff, Nat.reduceLT, Nat.reduceLeDiff, Nat.reduceMul, reduceCtorEq, hrg, r2, r4, r5, r6, hcw, hcs, hct']
      refine st_whole (hS.drewN _) (by rw [nums_length]; rfl) (by rw [nums_length]; exact hsl) (nums_one _ _) fun w9 p9 => ?_
      simp (disch := omega) only [EO, ↓EP, EQ, EM, ↓reduceIte, Int.reduceAdd, Int.reduceEq, Int.reduceLE, Int.reduceLT, Int.reduceMul, Int.reduceNeg, Int.reducePow, Int.reduceSub, Int.reduceToNat, Nat.reduceAdd, Nat.reduceEqDiff, Nat.reduceLT, Nat.reduceLeDiff, Nat.reduceMul, reduceCtorEq, hrg, r2, r4, r5, r6, hcw, hcs, hct']
      exact fin _ _ (by simp (disch := omega) only [EO, ↓EP, EQ, EM, ↓reduceIte, Int.reduceAdd, Int.reduceEq, Int.reduceLE, Int.reduceLT, Int.reduceMul, Int.reduceNeg, Int.reducePow, Int.reduceSub, Int.reduceToNat, Nat.reduceAdd, Nat.reduceEqDiff, Nat.reduceLT, Nat.reduceLeDiff, Nat.reduceMul, reduceCtorEq, hrg, r2, r4, r5, r6, hcw, hcs, hct', Int.natCast_add]) (p9.keep (by omega) hH) (p9.keep (by omega) hZ) (p9.keep (by omega) hW) p9.blk (p9.below (by omega) (below_drewN' hb _))
    · rw [twoW, if_neg h16] at hw7
      have hcw := fun (j : Nat) (g : j < 16) => hW.numN (by omega : j < st.w.length)
      simp (disch := omega) only [EO, ↓EP, EQ, EM, ↓reduceIte, Int.reduceAdd, Int.reduceEq, Int.reduceLE, Int.reduceLT, Int.reduceMul, Int.reduceNeg, Int.reducePow, Int.reduceSub, Int.reduceToNat, Nat.reduceAdd, Nat.reduceEqDiff, Nat.reduceLT, Nat.reduceLeDiff, Nat.reduceMul, reduceCtorEq, W_join, hrg, r2, r4, r5, r6, hcw, hcs, hct']
      refine turns_q _ 17 19 10 true (by omega) (by omega) (by omega) (by omega) (by omega) (by omega) _ _ ?_
      simp (disch := omega) only [EO, ↓EP, EQ, EM, ↓reduceIte, Int.reduceAdd, Int.reduceEq, Int.reduceLE, Int.reduceLT, Int.reduceMul, Int.reduceNeg, Int.reducePow, Int.reduceSub, Int.reduceToNat, Nat.reduceAdd, Nat.reduceEqDiff, Nat.reduceLT, Nat.reduceLeDiff, Nat.reduceMul, reduceCtorEq, hrg, r2, r4, r5, r6, hcw, hcs, hct']
      refine turns_q _ 7 18 3 true (by omega) (by omega) (by omega) (by omega) (by omega) (by omega) _ _ ?_
      simp (disch := omega) only [EO, ↓EP, EQ, EM, ↓reduceIte, Int.reduceAdd, Int.reduceEq, Int.reduceLE, Int.reduceLT, Int.reduceMul, Int.reduceNeg, Int.reducePow, Int.reduceSub, Int.reduceToNat, Nat.reduceAdd, Nat.reduceEqDiff, Nat.reduceLT, Nat.reduceLeDiff, Nat.reduceMul, reduceCtorEq, hrg, r2, r4, r5, r6, hcw, hcs, hct']
      intro m0
      refine st_num (hW.drewN m0) (by rw [hwl]; omega) fun w8 p8 => ?_
      have hw7 : st.w.set ((k : Int) % 16).toNat (s32 (at' st.w ((k : Int) % 16)) (s32 (s32 (tn32 (at' st.w ((((k : Int) % 16) + 14) % 16)) 17 19 10 true) (at' st.w ((((k : Int) % 16) + 9) % 16))) (tn32 (at' st.w ((((k : Int) % 16) + 1) % 16)) 7 18 3 true))) = W := hw7
      have p8 : Put (w'.drewN m0) w8 bW (nums .u32 W) := by rw [← hw7]; exact p8
      have hWl : W.length = 16 := by subst hw7; simp [hwl]
      have hcW := fun (j : Nat) (g : j < 16) => p8.blk.numN (by omega : j < W.length)
      have hH := p8.keep (by omega) (hH.drewN m0)
      have hZ := p8.keep (by omega) (hZ.drewN m0)
      have hS := p8.keep (by omega) (hS.drewN m0)
      have hcs' := fun (j : Nat) (g : j < 8) => hS.numN (by omega : j < st.s.length)
      have hb := p8.below (by omega) (below_drewN' hb m0)
      have hT' := hT.below hg hb
      have hct := fun (j : Nat) (g : j < 64) => hT'.numN (by omega : j < k256.length)
      have hct' : ∀ j : Nat, j < 64 → w8.cell? ⟨2, j, none⟩ = some (.int .u32 (at' k256 j)) := fun j g => by have := hct j g; rwa [Addr.add_lit, Nat.zero_add] at this
      clear hcw hw7 hcs
      simp (disch := omega) only [EO, ↓EP, EQ, EM, ↓reduceIte, Int.reduceAdd, Int.reduceEq, Int.reduceLE, Int.reduceLT, Int.reduceMul, Int.reduceNeg, Int.reducePow, Int.reduceSub, Int.reduceToNat, Nat.reduceAdd, Nat.reduceEqDiff, Nat.reduceLT, Nat.reduceLeDiff, Nat.reduceMul, reduceCtorEq, hrg, r2, r4, r5, r6, hcW, hcs', hct']
      refine turns_q _ 6 11 25 false (by omega) (by omega) (by omega) (by omega) (by omega) (by omega) _ _ ?_
      simp (disch := omega) only [EO, ↓EP, EQ, EM, ↓reduceIte, Int.reduceAdd, Int.reduceEq, Int.reduceLE, Int.reduceLT, Int.reduceMul, Int.reduceNeg, Int.reducePow, Int.reduceSub, Int.reduceToNat, Nat.reduceAdd, Nat.reduceEqDiff, Nat.reduceLT, Nat.reduceLeDiff, Nat.reduceMul, reduceCtorEq, hrg, r2, r4, r5, r6, hcW, hcs', hct']
      intro m1
      refine turns_q _ 2 13 22 false (by omega) (by omega) (by omega) (by omega) (by omega) (by omega) _ _ ?_
      simp (disch := omega) only [EO, ↓EP, EQ, EM, ↓reduceIte, Int.reduceAdd, Int.reduceEq, Int.reduceLE, Int.reduceLT, Int.reduceMul, Int.reduceNeg, Int.reducePow, Int.reduceSub, Int.reduceToNat, Nat.reduceAdd, Nat.reduceEqDiff, Nat.reduceLT, Nat.reduceLeDiff, Nat.reduceMul, reduceCtorEq, hrg, r2, r4, r5, r6, hcW, hcs', hct']
      intro m2
      have hfill : fillL [(0, 1), (1, 1), (2, 1), (3, 1), (4, 1), (5, 1), (6, 1), (7, 1)] (Array.replicate 8 (Value.int IntKind.u32 0)) [(0, Value.int IntKind.u32 (s32 (twoX k W st.s) (twoY st.s))), (1, Value.int IntKind.u32 (at' st.s 0)), (2, Value.int IntKind.u32 (at' st.s 1)), (3, Value.int IntKind.u32 (at' st.s 2)), (4, Value.int IntKind.u32 (s32 (at' st.s 3) (twoX k W st.s))), (5, Value.int IntKind.u32 (at' st.s 4)), (6, Value.int IntKind.u32 (at' st.s 5)), (7, Value.int IntKind.u32 (at' st.s 6))] = some (nums .u32 (twoS (twoX k W st.s) (twoY st.s) st.s)).toArray := fill8 _ _ _ _ _ _ _ _ _
      refine ⟨_, hfill, ?_⟩
      simp (disch := omega) only [EO, ↓EP, EQ, EM, ↓reduceIte, Int.reduceAdd, Int.reduceEq, Int.reduceLE, Int.reduceLT, Int.reduceMul, Int.reduceNeg, Int.reducePow, Int.reduceSub, Int.reduceToNat, Nat.reduceAdd, Nat.reduceEqDiff, Nat.reduceLT, Nat.reduceLeDiff, Nat.reduceMul, reduceCtorEq, hrg, r2, r4, r5, r6, hcW, hcs', hct']
      refine st_whole (hS.drewN _) (by rw [nums_length]; rfl) (by rw [nums_length]; exact hsl) (nums_one _ _) fun w9 p9 => ?_
      simp (disch := omega) only [EO, ↓EP, EQ, EM, ↓reduceIte, Int.reduceAdd, Int.reduceEq, Int.reduceLE, Int.reduceLT, Int.reduceMul, Int.reduceNeg, Int.reducePow, Int.reduceSub, Int.reduceToNat, Nat.reduceAdd, Nat.reduceEqDiff, Nat.reduceLT, Nat.reduceLeDiff, Nat.reduceMul, reduceCtorEq, hrg, r2, r4, r5, r6, hcW, hcs', hct']
      exact fin _ _ (by simp (disch := omega) only [EO, ↓EP, EQ, EM, ↓reduceIte, Int.reduceAdd, Int.reduceEq, Int.reduceLE, Int.reduceLT, Int.reduceMul, Int.reduceNeg, Int.reducePow, Int.reduceSub, Int.reduceToNat, Nat.reduceAdd, Nat.reduceEqDiff, Nat.reduceLT, Nat.reduceLeDiff, Nat.reduceMul, reduceCtorEq, hrg, r2, r4, r5, r6, hcW, hcs', hct', Int.natCast_add]) (p9.keep (by omega) hH) (p9.keep (by omega) hZ) (p9.keep (by omega) p8.blk) p9.blk (p9.below (by omega) (below_drewN' hb _))
  have hkR : k = 64 := by omega
  subst hkR
  have e1 : st.s = (rounds twoStep 64 (twoInit h p)).s := by rw [hst]
  rw [e1] at hS hcs hsl
  simp (disch := omega) only [EO, ↓EP, EQ, EM, ↓reduceIte, Int.reduceAdd, Int.reduceEq, Int.reduceLE, Int.reduceLT, Int.reduceMul, Int.reduceNeg, Int.reducePow, Int.reduceSub, Int.reduceToNat, Nat.reduceAdd, Nat.reduceEqDiff, Nat.reduceLT, Nat.reduceLeDiff, Nat.reduceMul, reduceCtorEq, hrg, r2, r4, r5, r6]
  clear hN hst e1 hcs hW hct hct' hT'
  refine loop_inv (fun m ρ w' => ∃ k : Nat, ρ 111 = .int .i64 k ∧ k ≤ 8 ∧ m = 8 - k ∧ Blk w' w.heap.size (nums .u32 h) ∧ Blk w' (w.heap.size + 1) (nums .u32 (zs 8)) ∧ Blk w' bS (nums .u32 (rounds (twoAdd h) k (rounds twoStep 64 (twoInit h p)).s)) ∧ Below w.heap.size w w') 8 ?_ ?_
  · exact ⟨0, by simp only [↓EP, EQ, EM, ↓reduceIte, Int.reduceAdd, Int.reduceEq, Int.reduceLE, Int.reduceLT, Int.reduceMul, Int.reduceNeg, Int.reducePow, Int.reduceSub, Int.reduceToNat, Nat.reduceAdd, Nat.reduceEqDiff, Nat.reduceLT, Nat.reduceLeDiff, Nat.reduceMul, reduceCtorEq], by omega, by omega, hH, hZ, hS, hb⟩
  rintro m ρ2 w8 hf ⟨k, hrg2, hk, rfl, hH, hZ, hS, hb⟩ N hN
  have r2 : ρ2 2 = .pointer (some ⟨w.heap.size, 0, none⟩) := by rw [hf 2 rfl]; simp only [↓EP, EQ, EM, ↓reduceIte, Int.reduceAdd, Int.reduceEq, Int.reduceLE, Int.reduceLT, Int.reduceMul, Int.reduceNeg, Int.reducePow, Int.reduceSub, Int.reduceToNat, Nat.reduceAdd, Nat.reduceEqDiff, Nat.reduceLT, Nat.reduceLeDiff, Nat.reduceMul, reduceCtorEq, r2]
  have r4 : ρ2 4 = .pointer (some ⟨w.heap.size + 1, 0, none⟩) := by rw [hf 4 rfl]; simp only [↓EP, EQ, EM, ↓reduceIte, Int.reduceAdd, Int.reduceEq, Int.reduceLE, Int.reduceLT, Int.reduceMul, Int.reduceNeg, Int.reducePow, Int.reduceSub, Int.reduceToNat, Nat.reduceAdd, Nat.reduceEqDiff, Nat.reduceLT, Nat.reduceLeDiff, Nat.reduceMul, reduceCtorEq, r4]
  have r6 : ρ2 6 = .pointer (some ⟨bS, 0, none⟩) := by rw [hf 6 rfl]; simp only [↓EP, EQ, EM, ↓reduceIte, Int.reduceAdd, Int.reduceEq, Int.reduceLE, Int.reduceLT, Int.reduceMul, Int.reduceNeg, Int.reducePow, Int.reduceSub, Int.reduceToNat, Nat.reduceAdd, Nat.reduceEqDiff, Nat.reduceLT, Nat.reduceLeDiff, Nat.reduceMul, reduceCtorEq, r6]
  have hal := two_alen h (rounds twoStep 64 (twoInit h p)).s k
  clear hf
  by_cases hlt : (k : Int) < 8
  · generalize hst : rounds (twoAdd h) k (rounds twoStep 64 (twoInit h p)).s = S at *
    have hcs := fun (j : Nat) (g : j < 8) => hS.numN (by omega : j < S.length)
    have hch := fun (j : Nat) (g : j < 8) => hH.numN (by omega : j < h.length)
    simp (disch := omega) only [EO, ↓EP, EQ, EM, ↓reduceIte, Int.reduceAdd, Int.reduceEq, Int.reduceLE, Int.reduceLT, Int.reduceMul, Int.reduceNeg, Int.reducePow, Int.reduceSub, Int.reduceToNat, Nat.reduceAdd, Nat.reduceEqDiff, Nat.reduceLT, Nat.reduceLeDiff, Nat.reduceMul, reduceCtorEq, hrg2, r2, r4, r6, hcs, hch]
    intro m
    refine st_num (hS.drewN m) (by omega) fun w9 p9 => ?_
    simp (disch := omega) only [EO, ↓EP, EQ, EM, ↓reduceIte, Int.reduceAdd, Int.reduceEq, Int.reduceLE, Int.reduceLT, Int.reduceMul, Int.reduceNeg, Int.reducePow, Int.reduceSub, Int.reduceToNat, Nat.reduceAdd, Nat.reduceEqDiff, Nat.reduceLT, Nat.reduceLeDiff, Nat.reduceMul, reduceCtorEq, hrg2]
    refine hN (8 - (k + 1)) _ _ (by omega) ⟨k + 1, by simp (disch := omega) only [↓EP, EQ, EM, ↓reduceIte, Int.reduceAdd, Int.reduceEq, Int.reduceLE, Int.reduceLT, Int.reduceMul, Int.reduceNeg, Int.reducePow, Int.reduceSub, Int.reduceToNat, Nat.reduceAdd, Nat.reduceEqDiff, Nat.reduceLT, Nat.reduceLeDiff, Nat.reduceMul, reduceCtorEq, hrg2, EO, Int.natCast_add], by omega, rfl, p9.keep (by omega) hH, p9.keep (by omega) hZ, ?_, p9.below (by omega) (below_drewN' hb m)⟩
    rw [rounds, hst]
    exact p9.blk
  · have hk8 : k = 8 := by omega
    subst hk8
    have hS : Blk w8 bS (nums .u32 (two h p)) := hS
    have h8 : (nums .u32 (two h p)).length = 8 := by rw [nums_length]; exact two_len h p hh
    simp (disch := omega) only [EO, ↓EP, EQ, EM, ↓reduceIte, Int.reduceAdd, Int.reduceEq, Int.reduceLE, Int.reduceLT, Int.reduceMul, Int.reduceNeg, Int.reducePow, Int.reduceSub, Int.reduceToNat, Nat.reduceAdd, Nat.reduceEqDiff, Nat.reduceLT, Nat.reduceLeDiff, Nat.reduceMul, reduceCtorEq, hrg2, r2, r4, r6]
    refine hS.ldAgg h8 ?_
    simp only [↓EP, EQ, EM, ↓reduceIte, Int.reduceAdd, Int.reduceEq, Int.reduceLE, Int.reduceLT, Int.reduceMul, Int.reduceNeg, Int.reducePow, Int.reduceSub, Int.reduceToNat, Nat.reduceAdd, Nat.reduceEqDiff, Nat.reduceLT, Nat.reduceLeDiff, Nat.reduceMul, reduceCtorEq, r2, r4, r6]
    refine st_whole hZ h8 rfl (nums_one _ _) fun w10 p10 => ?_
    simp only [↓EP, EQ, EM, ↓reduceIte, Int.reduceAdd, Int.reduceEq, Int.reduceLE, Int.reduceLT, Int.reduceMul, Int.reduceNeg, Int.reducePow, Int.reduceSub, Int.reduceToNat, Nat.reduceAdd, Nat.reduceEqDiff, Nat.reduceLT, Nat.reduceLeDiff, Nat.reduceMul, reduceCtorEq, r2, r4, r6]
    exact p10.blk.ldAgg h8 (hK _ (p10.below (by omega) hb))
attribute [irreducible] two
end Go.Proofs.YtcgplgpdcfocpaaDoor.Spec
end
section
set_option linter.unusedVariables false
set_option linter.unusedSimpArgs false
namespace Go.Proofs.YtcgplgpdcfocpaaDoor.Spec
open Go Go.RowKit Go.Proofs Go.Proofs.YtcgplgpdcfocpaaDoor.Eng Go.Proofs.YtcgplgpdcfocpaaDoor.Code
set_option maxRecDepth 100000
def k512 : List Int := [4794697086780616226, 8158064640168781261, 13096744586834688815, 16840607885511220156, 4131703408338449720, 6480981068601479193, 10538285296894168987, 12329834152419229976, 15566598209576043074, 1334009975649890238, 2608012711638119052, 6128411473006802146, 8268148722764581231, 9286055187155687089, 11230858885718282805, 13951009754708518548, 16472876342353939154, 17275323862435702243, 1135362057144423861, 2597628984639134821, 3308224258029322869, 5365058923640841347, 6679025012923562964, 8573033837759648693, 10970295158949994411, 12119686244451234320, 12683024718118986047, 13788192230050041572, 14330467153632333762, 15395433587784984357, 489312712824947311, 1452737877330783856, 2861767655752347644, 3322285676063803686, 5560940570517711597, 5996557281743188959, 7280758554555802590, 8532644243296465576, 9350256976987008742, 10552545826968843579, 11727347734174303076, 12113106623233404929, 14000437183269869457, 14369950271660146224, 15101387698204529176, 15463397548674623760, 17586052441742319658, 1182934255886127544, 1847814050463011016, 2177327727835720531, 2830643537854262169, 3796741975233480872, 4115178125766777443, 5681478168544905931, 6601373596472566643, 7507060721942968483, 8399075790359081724, 8693463985226723168, 9568029438360202098, 10144078919501101548, 10430055236837252648, 11840083180663258601, 13761210420658862357, 14299343276471374635, 14566680578165727644, 15097957966210449927, 16922976911328602910, 17689382322260857208, 500013540394364858, 748580250866718886, 1242879168328830382, 1977374033974150939, 2944078676154940804, 3659926193048069267, 4368137639120453308, 4836135668995329356, 5532061633213252278, 6448918945643986474, 6902733635092675308, 7801388544844847127]
theorem k512_len : k512.length = 80 := rfl
attribute [irreducible] k512
def x64 (a b : Int) : Int := bits .xor .u64 a b
def a64 (a b : Int) : Int := bits .and .u64 a b
def o64 (a b : Int) : Int := bits .or .u64 a b
def s64 (a b : Int) : Int := IntKind.u64.wrap (a + b)
def wwStep (p : List Int) (i : Nat) (l : List Int) : List Int := l.set ((i : Int) / 8).toNat (o64 (IntKind.u64.wrap (at' l ((i : Int) / 8) * 256)) (IntKind.u64.wrap (at' p i)))
def wwords (p : List Int) : List Int := rounds (wwStep p) 128 (zs 16)
theorem wwr_len (p : List Int) (k : Nat) : (rounds (wwStep p) k (zs 16)).length = 16 := rounds_len _ (fun n l => by simp [wwStep]) _ _
theorem wwords_len (p : List Int) : (wwords p).length = 16 := wwr_len p 128
attribute [irreducible] wwords
structure S64 where
  w : List Int
  s : List Int
def wideW (t : Nat) (w : List Int) : List Int :=
  if (t : Int) < 16 then w else w.set ((t : Int) % 16).toNat (s64 (at' w ((t : Int) % 16)) (s64 (s64 (tn64 (at' w ((((t : Int) % 16) + 14) % 16)) 19 61 6 true) (at' w ((((t : Int) % 16) + 9) % 16))) (tn64 (at' w ((((t : Int) % 16) + 1) % 16)) 1 8 7 true)))
def wideX (t : Nat) (w s : List Int) : Int := s64 (s64 (s64 (s64 (at' s 7) (tn64 (at' s 4) 14 18 41 false)) (x64 (at' s 6) (a64 (at' s 4) (x64 (at' s 5) (at' s 6))))) (at' k512 t)) (at' w ((t : Int) % 16))
def wideY (s : List Int) : Int := s64 (tn64 (at' s 0) 28 34 39 false) (o64 (a64 (at' s 0) (at' s 1)) (a64 (at' s 2) (o64 (at' s 0) (at' s 1))))
def wideS (x y : Int) (s : List Int) : List Int := [s64 x y, at' s 0, at' s 1, at' s 2, s64 (at' s 3) x, at' s 4, at' s 5, at' s 6]
def wideStep (t : Nat) (q : S64) : S64 := ⟨wideW t q.w, wideS (wideX t (wideW t q.w) q.s) (wideY q.s) q.s⟩
def wideInit (h p : List Int) : S64 := ⟨wwords p, h⟩
def wideAdd (h : List Int) (i : Nat) (s : List Int) : List Int := s.set i (s64 (at' s i) (at' h i))
def wide (h p : List Int) : List Int := rounds (wideAdd h) 8 (rounds wideStep 80 (wideInit h p)).s
theorem wideW_len (t : Nat) (w : List Int) : (wideW t w).length = w.length := by
  unfold wideW; split <;> simp
theorem wide_wlen (s : S64) : ∀ n, (rounds wideStep n s).w.length = s.w.length
  | 0 => rfl
  | n + 1 => by rw [rounds, wideStep, wideW_len, wide_wlen s n]
theorem wide_slen (s : S64) (h : s.s.length = 8) : ∀ n, (rounds wideStep n s).s.length = 8
  | 0 => h
  | n + 1 => rfl
theorem wide_alen (h s : List Int) (k : Nat) : (rounds (wideAdd h) k s).length = s.length := rounds_len _ (fun n l => by simp [wideAdd]) _ _
theorem wide_len (h p : List Int) (hh : h.length = 8) : (wide h p).length = 8 := by unfold wide; rw [wide_alen, wide_slen _ hh]
set_option maxHeartbeats 2000000 in
theorem wide_spec (h p : List Int) (hh : h.length = 8) (hp : p.length = 128) (A : Option Addr) (cap : Nat) (w : World) (hr : Rd w A (nums .u8 p)) (hT : cellsAt w ⟨3, 0, none⟩ (nums .u64 k512)) (hg : 3 < w.heap.size) (K : Value → World → Prop)
    (hK : ∀ w', Below w.heap.size w w' → K (.agg (nums .u64 (wide h p)).toArray) w') : callK Tryd.prog 112 [.agg (nums .u64 h).toArray, .slice A 128 cap] w K := by
  refine call_of Tryd.func112 Code.h112 (by simp [Code.c112]) ?_
  simp only [Code.c112, ↓EP, EQ, EM, ↓reduceIte, Int.reduceAdd, Int.reduceEq, Int.reduceLE, Int.reduceLT, Int.reduceMul, Int.reduceNeg, Int.reducePow, Int.reduceSub, Int.reduceToNat, Nat.reduceAdd, Nat.reduceEqDiff, Nat.reduceLT, Nat.reduceLeDiff, Nat.reduceMul, reduceCtorEq]
  refine al_k (nums .u64 h) rfl fun w1 n1 => ?_
  simp only [↓EP, EQ, EM, ↓reduceIte, Int.reduceAdd, Int.reduceEq, Int.reduceLE, Int.reduceLT, Int.reduceMul, Int.reduceNeg, Int.reducePow, Int.reduceSub, Int.reduceToNat, Nat.reduceAdd, Nat.reduceEqDiff, Nat.reduceLT, Nat.reduceLeDiff, Nat.reduceMul, reduceCtorEq]
  refine al_k (nums .u64 (zs 8)) rfl fun w2 n2 => ?_
  simp only [↓EP, EQ, EM, ↓reduceIte, Int.reduceAdd, Int.reduceEq, Int.reduceLE, Int.reduceLT, Int.reduceMul, Int.reduceNeg, Int.reducePow, Int.reduceSub, Int.reduceToNat, Nat.reduceAdd, Nat.reduceEqDiff, Nat.reduceLT, Nat.reduceLeDiff, Nat.reduceMul, reduceCtorEq]
  have s1 := n1.size
  have s2 := n2.size
  have hb2 : Below w.heap.size w w2 := n2.below (by omega) (n1.below (Nat.le_refl _) (Below.refl _ _))
  have hH := n2.keep n1.blk
  have hZ := n2.blk
  rw [s1] at hZ
  refine al_k (nums .u64 (zs 16)) rfl fun w3 n3 => ?_
  simp only [↓EP, EQ, EM, ↓reduceIte, Int.reduceAdd, Int.reduceEq, Int.reduceLE, Int.reduceLT, Int.reduceMul, Int.reduceNeg, Int.reducePow, Int.reduceSub, Int.reduceToNat, Nat.reduceAdd, Nat.reduceEqDiff, Nat.reduceLT, Nat.reduceLeDiff, Nat.reduceMul, reduceCtorEq]
  have s3 := n3.size
  obtain ⟨ad, rfl, had, hc⟩ := hr.get (by simp [nums_length, hp])
  refine loop_inv (fun m ρ w' => ∃ (k : Nat), ρ 13 = .int .i64 k ∧ k ≤ 128 ∧ m = 128 - k ∧ Blk w' w2.heap.size (nums .u64 (rounds (wwStep p) k (zs 16))) ∧ Blk w' w.heap.size (nums .u64 h) ∧ Blk w' (w.heap.size + 1) (nums .u64 (zs 8)) ∧ Below w.heap.size w w') 128 ?_ ?_
  · exact ⟨0, by simp only [↓EP, EQ, EM, ↓reduceIte, Int.reduceAdd, Int.reduceEq, Int.reduceLE, Int.reduceLT, Int.reduceMul, Int.reduceNeg, Int.reducePow, Int.reduceSub, Int.reduceToNat, Nat.reduceAdd, Nat.reduceEqDiff, Nat.reduceLT, Nat.reduceLeDiff, Nat.reduceMul, reduceCtorEq], by omega, by omega, n3.blk, n3.keep hH, n3.keep hZ, n3.below (by omega) hb2⟩
  rintro m ρ w5 hf ⟨k, h13, hk, rfl, hB, hH, hZ, hb5⟩ N hN
  have hc' := hc.below had hb5
  have r0 : ρ 1 = .slice (some ad) 128 cap := by rw [hf 1 rfl]; simp only [↓EP, EQ, EM, ↓reduceIte, Int.reduceAdd, Int.reduceEq, Int.reduceLE, Int.reduceLT, Int.reduceMul, Int.reduceNeg, Int.reducePow, Int.reduceSub, Int.reduceToNat, Nat.reduceAdd, Nat.reduceEqDiff, Nat.reduceLT, Nat.reduceLeDiff, Nat.reduceMul, reduceCtorEq]
  have r2 : ρ 2 = .pointer (some ⟨w.heap.size, 0, none⟩) := by rw [hf 2 rfl]; simp only [↓EP, EQ, EM, ↓reduceIte, Int.reduceAdd, Int.reduceEq, Int.reduceLE, Int.reduceLT, Int.reduceMul, Int.reduceNeg, Int.reducePow, Int.reduceSub, Int.reduceToNat, Nat.reduceAdd, Nat.reduceEqDiff, Nat.reduceLT, Nat.reduceLeDiff, Nat.reduceMul, reduceCtorEq]
  have r4 : ρ 4 = .pointer (some ⟨w1.heap.size, 0, none⟩) := by rw [hf 4 rfl]; simp only [↓EP, EQ, EM, ↓reduceIte, Int.reduceAdd, Int.reduceEq, Int.reduceLE, Int.reduceLT, Int.reduceMul, Int.reduceNeg, Int.reducePow, Int.reduceSub, Int.reduceToNat, Nat.reduceAdd, Nat.reduceEqDiff, Nat.reduceLT, Nat.reduceLeDiff, Nat.reduceMul, reduceCtorEq]
  rw [s1] at r4
  have r5 : ρ 5 = .pointer (some ⟨w2.heap.size, 0, none⟩) := by rw [hf 5 rfl]; simp only [↓EP, EQ, EM, ↓reduceIte, Int.reduceAdd, Int.reduceEq, Int.reduceLE, Int.reduceLT, Int.reduceMul, Int.reduceNeg, Int.reducePow, Int.reduceSub, Int.reduceToNat, Nat.reduceAdd, Nat.reduceEqDiff, Nat.reduceLT, Nat.reduceLeDiff, Nat.reduceMul, reduceCtorEq]
  by_cases hlt : (k : Int) < 128
  · have hp' := fun (j : Nat) (g : j < 128) => hc'.numN (by omega : j < p.length)
    have hl := wwr_len p k
    have hcw := fun (j : Nat) (g : j < 16) => hB.numN (by omega : j < (rounds (wwStep p) k (zs 16)).length)
    simp (disch := omega) only [EO, ↓EP, EQ, EM, ↓reduceIte, Int.reduceAdd, Int.reduceEq, Int.reduceLE, Int.reduceLT, Int.reduceMul, Int.reduceNeg, Int.reducePow, Int.reduceSub, Int.reduceToNat, Nat.reduceAdd, Nat.reduceEqDiff, Nat.reduceLT, Nat.reduceLeDiff, Nat.reduceMul, reduceCtorEq, h13, r0, r2, r5, hp', hcw]
    intro m
    refine st_num (hB.drewN m) (by omega) fun w6 p6 => ?_
    simp (disch := omega) only [EO, ↓EP, EQ, EM, ↓reduceIte, Int.reduceAdd, Int.reduceEq, Int.reduceLE, Int.reduceLT, Int.reduceMul, Int.reduceNeg, Int.reducePow, Int.reduceSub, Int.reduceToNat, Nat.reduceAdd, Nat.reduceEqDiff, Nat.reduceLT, Nat.reduceLeDiff, Nat.reduceMul, reduceCtorEq, h13]
    exact hN (128 - (k + 1)) _ _ (by omega) ⟨k + 1, by simp (disch := omega) only [↓EP, EQ, EM, ↓reduceIte, Int.reduceAdd, Int.reduceEq, Int.reduceLE, Int.reduceLT, Int.reduceMul, Int.reduceNeg, Int.reducePow, Int.reduceSub, Int.reduceToNat, Nat.reduceAdd, Nat.reduceEqDiff, Nat.reduceLT, Nat.reduceLeDiff, Nat.reduceMul, reduceCtorEq, h13, EO, Int.natCast_add], by omega, rfl, p6.blk, p6.keep (by omega) hH, p6.keep (by omega) hZ, p6.below (by omega) (below_drewN' hb5 m)⟩
  have hk16 : k = 128 := by omega
  subst hk16
  have hW : Blk w5 w2.heap.size (nums .u64 (wwords p)) := by unfold wwords; exact hB
  simp (disch := omega) only [EO, ↓EP, EQ, EM, ↓reduceIte, Int.reduceAdd, Int.reduceEq, Int.reduceLE, Int.reduceLT, Int.reduceMul, Int.reduceNeg, Int.reducePow, Int.reduceSub, Int.reduceToNat, Nat.reduceAdd, Nat.reduceEqDiff, Nat.reduceLT, Nat.reduceLeDiff, Nat.reduceMul, reduceCtorEq, h13, r2, r5, r4]
  clear hN hf
  generalize hbw : w2.heap.size = bW at *
  refine hH.ldAgg (by rw [nums_length]; exact hh) ?_
  simp only [↓EP, EQ, EM, ↓reduceIte, Int.reduceAdd, Int.reduceEq, Int.reduceLE, Int.reduceLT, Int.reduceMul, Int.reduceNeg, Int.reducePow, Int.reduceSub, Int.reduceToNat, Nat.reduceAdd, Nat.reduceEqDiff, Nat.reduceLT, Nat.reduceLeDiff, Nat.reduceMul, reduceCtorEq]
  refine al_k (nums .u64 (zs 8)) rfl fun w6 n6 => ?_
  simp only [↓EP, EQ, EM, ↓reduceIte, Int.reduceAdd, Int.reduceEq, Int.reduceLE, Int.reduceLT, Int.reduceMul, Int.reduceNeg, Int.reducePow, Int.reduceSub, Int.reduceToNat, Nat.reduceAdd, Nat.reduceEqDiff, Nat.reduceLT, Nat.reduceLeDiff, Nat.reduceMul, reduceCtorEq]
  have s6 := n6.size
  refine st_whole n6.blk (by rw [nums_length]; exact hh) rfl (nums_one _ _) fun w7 p7 => ?_
  simp only [↓EP, EQ, EM, ↓reduceIte, Int.reduceAdd, Int.reduceEq, Int.reduceLE, Int.reduceLT, Int.reduceMul, Int.reduceNeg, Int.reducePow, Int.reduceSub, Int.reduceToNat, Nat.reduceAdd, Nat.reduceEqDiff, Nat.reduceLT, Nat.reduceLeDiff, Nat.reduceMul, reduceCtorEq]
  have s7 := p7.size
  have ltW := hW.lt
  generalize hbs : w5.heap.size = bS at *
  have hS := p7.blk
  have hH := p7.keep (by omega) (n6.keep hH)
  have hZ := p7.keep (by omega) (n6.keep hZ)
  have hW := p7.keep (by omega) (n6.keep hW)
  have hb7 : Below w.heap.size w w7 := p7.below (by omega) (n6.below (by omega) hb5)
  refine loop_inv (fun m ρ w' => ∃ k : Nat, ρ 32 = .int .i64 k ∧ k ≤ 80 ∧ m = 80 - k ∧ Blk w' w.heap.size (nums .u64 h) ∧ Blk w' (w.heap.size + 1) (nums .u64 (zs 8)) ∧ Blk w' bW (nums .u64 (rounds wideStep k (wideInit h p)).w) ∧ Blk w' bS (nums .u64 (rounds wideStep k (wideInit h p)).s) ∧ Below w.heap.size w w') 80 ?_ ?_
  · exact ⟨0, by simp only [↓EP, EQ, EM, ↓reduceIte, Int.reduceAdd, Int.reduceEq, Int.reduceLE, Int.reduceLT, Int.reduceMul, Int.reduceNeg, Int.reducePow, Int.reduceSub, Int.reduceToNat, Nat.reduceAdd, Nat.reduceEqDiff, Nat.reduceLT, Nat.reduceLeDiff, Nat.reduceMul, reduceCtorEq], by omega, by omega, hH, hZ, hW, hS, hb7⟩
  rintro m ρ' w' hf ⟨k, hrg, hk, rfl, hH, hZ, hW, hS, hb⟩ N hN
  have r2 : ρ' 2 = .pointer (some ⟨w.heap.size, 0, none⟩) := by rw [hf 2 rfl]; simp only [↓EP, EQ, EM, ↓reduceIte, Int.reduceAdd, Int.reduceEq, Int.reduceLE, Int.reduceLT, Int.reduceMul, Int.reduceNeg, Int.reducePow, Int.reduceSub, Int.reduceToNat, Nat.reduceAdd, Nat.reduceEqDiff, Nat.reduceLT, Nat.reduceLeDiff, Nat.reduceMul, reduceCtorEq, r2, r4, r5]
  have r4 : ρ' 4 = .pointer (some ⟨w.heap.size + 1, 0, none⟩) := by rw [hf 4 rfl]; simp only [↓EP, EQ, EM, ↓reduceIte, Int.reduceAdd, Int.reduceEq, Int.reduceLE, Int.reduceLT, Int.reduceMul, Int.reduceNeg, Int.reducePow, Int.reduceSub, Int.reduceToNat, Nat.reduceAdd, Nat.reduceEqDiff, Nat.reduceLT, Nat.reduceLeDiff, Nat.reduceMul, reduceCtorEq, r2, r4, r5, s1]
  have r5 : ρ' 5 = .pointer (some ⟨bW, 0, none⟩) := by rw [hf 5 rfl]; simp only [↓EP, EQ, EM, ↓reduceIte, Int.reduceAdd, Int.reduceEq, Int.reduceLE, Int.reduceLT, Int.reduceMul, Int.reduceNeg, Int.reducePow, Int.reduceSub, Int.reduceToNat, Nat.reduceAdd, Nat.reduceEqDiff, Nat.reduceLT, Nat.reduceLeDiff, Nat.reduceMul, reduceCtorEq, r2, r4, r5, hbw]
  have r6 : ρ' 7 = .pointer (some ⟨bS, 0, none⟩) := by rw [hf 7 rfl]; simp only [↓EP, EQ, EM, ↓reduceIte, Int.reduceAdd, Int.reduceEq, Int.reduceLE, Int.reduceLT, Int.reduceMul, Int.reduceNeg, Int.reducePow, Int.reduceSub, Int.reduceToNat, Nat.reduceAdd, Nat.reduceEqDiff, Nat.reduceLT, Nat.reduceLeDiff, Nat.reduceMul, reduceCtorEq, r2, r4, r5, hbs]
  have hwl : (rounds wideStep k (wideInit h p)).w.length = 16 := by rw [wide_wlen]; exact wwords_len p
  have hsl : (rounds wideStep k (wideInit h p)).s.length = 8 := wide_slen _ hh k
  have hT' := hT.below hg hb
  have htl := k512_len
  have hct := fun (j : Nat) (g : j < 80) => hT'.numN (by omega : j < k512.length)
  have hct' : ∀ j : Nat, j < 80 → w'.cell? ⟨3, j, none⟩ = some (.int .u64 (at' k512 j)) := fun j g => by have := hct j g; rwa [Addr.add_lit, Nat.zero_add] at this
  clear hf
  generalize hst : rounds wideStep k (wideInit h p) = st at *
  have hcs := fun (j : Nat) (g : j < 8) => hS.numN (by omega : j < st.s.length)
  by_cases hlt : (k : Int) < 80
  · have fin : ∀ (w6 : World) (ρ6 : Env), ρ6 32 = .int .i64 ((k + 1 : Nat) : Int) →
        Blk w6 w.heap.size (nums .u64 h) → Blk w6 (w.heap.size + 1) (nums .u64 (zs 8)) → Blk w6 bW (nums .u64 (wideStep k st).w) → Blk w6 bS (nums .u64 (wideStep k st).s) → Below w.heap.size w w6 → endK N ρ6 w6 := by
      intro w6 ρ6 g1 g2 g3 g4 g5 g6
      refine hN (80 - (k + 1)) _ _ (by omega) ⟨k + 1, g1, by omega, rfl, ?_⟩
      rw [rounds, hst]
      exact ⟨g2, g3, g4, g5, g6⟩
    simp only [wideStep] at fin
    generalize hw7 : wideW k st.w = W at fin
    by_cases h16 : (k : Int) < 16
    · rw [wideW, if_pos h16] at hw7
      subst hw7
      generalize hw8 : st.w = W at *
      have hcw := fun (j : Nat) (g : j < 16) => hW.numN (by omega : j < W.length)
      simp (disch := omega) only [EO, ↓EP, EQ, EM, ↓reduceIte, Int.reduceAdd, Int.reduceEq, Int.reduceLE, Int.reduceLT, Int.reduceMul, Int.reduceNeg, Int.reducePow, Int.reduceSub, Int.reduceToNat, Nat.reduceAdd, Nat.reduceEqDiff, Nat.reduceLT, Nat.reduceLeDiff, Nat.reduceMul, reduceCtorEq, W_join, hrg, r2, r4, r5, r6, hcw, hcs, hct']
      refine wturns_q _ 14 18 41 false (by omega) (by omega) (by omega) (by omega) (by omega) (by omega) _ _ ?_
      simp (disch := omega) only [EO, ↓EP, EQ, EM, ↓reduceIte, Int.reduceAdd, Int.reduceEq, Int.reduceLE, Int.reduceLT, Int.reduceMul, Int.reduceNeg, Int.reducePow, Int.reduceSub, Int.reduceToNat, Nat.reduceAdd, Nat.reduceEqDiff, Nat.reduceLT, Nat.reduceLeDiff, Nat.reduceMul, reduceCtorEq, hrg, r2, r4, r5, r6, hcw, hcs, hct']
      intro m1
      refine wturns_q _ 28 34 39 false (by omega) (by omega) (by omega) (by omega) (by omega) (by omega) _ _ ?_
      simp (disch := omega) only [EO, ↓EP, EQ, EM, ↓reduceIte, Int.reduceAdd, Int.reduceEq, Int.reduceLE, Int.reduceLT, Int.reduceMul, Int.reduceNeg, Int.reducePow, Int.reduceSub, Int.reduceToNat, Nat.reduceAdd, Nat.reduceEqDiff, Nat.reduceLT, Nat.reduceLeDiff, Nat.reduceMul, reduceCtorEq, hrg, r2, r4, r5, r6, hcw, hcs, hct']
      intro m2
      have hfill : fillL [(0, 1), (1, 1), (2, 1), (3, 1), (4, 1), (5, 1), (6, 1), (7, 1)] (Array.replicate 8 (Value.int IntKind.u64 0)) [(0, Value.int IntKind.u64 (s64 (wideX k W st.s) (wideY st.s))), (1, Value.int IntKind.u64 (at' st.s 0)), (2, Value.int IntKind.u64 (at' st.s 1)), (3, Value.int IntKind.u64 (at' st.s 2)), (4, Value.int IntKind.u64 (s64 (at' st.s 3) (wideX k W st.s))), (5, Value.int IntKind.u64 (at' st.s 4)), (6, Value.int IntKind.u64 (at' st.s 5)), (7, Value.int IntKind.u64 (at' st.s 6))] = some (nums .u64 (wideS (wideX k W st.s) (wideY st.s) st.s)).toArray := fill8 _ _ _ _ _ _ _ _ _
      refine ⟨_, hfill, ?_⟩
      simp (disch := omega) only [EO, ↓EP, EQ, EM, ↓reduceIte, Int.reduceAdd, Int.reduceEq, Int.reduceLE, Int.reduceLT, Int.reduceMul, Int.reduceNeg, Int.reducePow, Int.reduceSub, Int.reduceToNat, Nat.reduceAdd, Nat.reduceEqDiff, Nat.reduceLT, Nat.reduceLeDiff, Nat.reduceMul, reduceCtorEq, hrg, r2, r4, r5, r6, hcw, hcs, hct']
      refine st_whole (hS.drewN _) (by rw [nums_length]; rfl) (by rw [nums_length]; exact hsl) (nums_one _ _) fun w9 p9 => ?_
      simp (disch := omega) only [EO, ↓EP, EQ, EM, ↓reduceIte, Int.reduceAdd, Int.reduceEq, Int.reduceLE, Int.reduceLT, Int.reduceMul, Int.reduceNeg, Int.reducePow, Int.reduceSub, Int.reduceToNat, Nat.reduceAdd, Nat.reduceEqDiff, Nat.reduceLT, Nat.reduceLeDiff, Nat.reduceMul, reduceCtorEq, hrg, r2, r4, r5, r6, hcw, hcs, hct']
      exact fin _ _ (by simp (disch := omega) only [EO, ↓EP, EQ, EM, ↓reduceIte, Int.reduceAdd, Int.reduceEq, Int.reduceLE, Int.reduceLT, Int.reduceMul, Int.reduceNeg, Int.reducePow, Int.reduceSub, Int.reduceToNat, Nat.reduceAdd, Nat.reduceEqDiff, Nat.reduceLT, Nat.reduceLeDiff, Nat.reduceMul, reduceCtorEq, hrg, r2, r4, r5, r6, hcw, hcs, hct', Int.natCast_add]) (p9.keep (by omega) hH) (p9.keep (by omega) hZ) (p9.keep (by omega) hW) p9.blk (p9.below (by omega) (below_drewN' hb _))
    · rw [wideW, if_neg h16] at hw7
      have hcw := fun (j : Nat) (g : j < 16) => hW.numN (by omega : j < st.w.length)
      simp (disch := omega) only [EO, ↓EP, EQ, EM, ↓reduceIte, Int.reduceAdd, Int.reduceEq, Int.reduceLE, Int.reduceLT, Int.reduceMul, Int.reduceNeg, Int.reducePow, Int.reduceSub, Int.reduceToNat, Nat.reduceAdd, Nat.reduceEqDiff, Nat.reduceLT, Nat.reduceLeDiff, Nat.reduceMul, reduceCtorEq, W_join, hrg, r2, r4, r5, r6, hcw, hcs, hct']
      refine wturns_q _ 19 61 6 true (by omega) (by omega) (by omega) (by omega) (by omega) (by omega) _ _ ?_
      simp (disch := omega) only [EO, ↓EP, EQ, EM, ↓reduceIte, Int.reduceAdd, Int.reduceEq, Int.reduceLE, Int.reduceLT, Int.reduceMul, Int.reduceNeg, Int.reducePow, Int.reduceSub, Int.reduceToNat, Nat.reduceAdd, Nat.reduceEqDiff, Nat.reduceLT, Nat.reduceLeDiff, Nat.reduceMul, reduceCtorEq, hrg, r2, r4, r5, r6, hcw, hcs, hct']
      refine wturns_q _ 1 8 7 true (by omega) (by omega) (by omega) (by omega) (by omega) (by omega) _ _ ?_
      simp (disch := omega) only [EO, ↓EP, EQ, EM, ↓reduceIte, Int.reduceAdd, Int.reduceEq, Int.reduceLE, Int.reduceLT, Int.reduceMul, Int.reduceNeg, Int.reducePow, Int.reduceSub, Int.reduceToNat, Nat.reduceAdd, Nat.reduceEqDiff, Nat.reduceLT, Nat.reduceLeDiff, Nat.reduceMul, reduceCtorEq, hrg, r2, r4, r5, r6, hcw, hcs, hct']
      intro m0
      refine st_num (hW.drewN m0) (by rw [hwl]; omega) fun w8 p8 => ?_
      have hw7 : st.w.set ((k : Int) % 16).toNat (s64 (at' st.w ((k : Int) % 16)) (s64 (s64 (tn64 (at' st.w ((((k : Int) % 16) + 14) % 16)) 19 61 6 true) (at' st.w ((((k : Int) % 16) + 9) % 16))) (tn64 (at' st.w ((((k : Int) % 16) + 1) % 16)) 1 8 7 true))) = W := hw7
      have p8 : Put (w'.drewN m0) w8 bW (nums .u64 W) := by rw [← hw7]; exact p8
      have hWl : W.length = 16 := by subst hw7; simp [hwl]
      have hcW := fun (j : Nat) (g : j < 16) => p8.blk.numN (by omega : j < W.length)
      have hH := p8.keep (by omega) (hH.drewN m0)
      have hZ := p8.keep (by omega) (hZ.drewN m0)
      have hS := p8.keep (by omega) (hS.drewN m0)
      have hcs' := fun (j : Nat) (g : j < 8) => hS.numN (by omega : j < st.s.length)
      have hb := p8.below (by omega) (below_drewN' hb m0)
      have hT' := hT.below hg hb
      have hct := fun (j : Nat) (g : j < 80) => hT'.numN (by omega : j < k512.length)
      have hct' : ∀ j : Nat, j < 80 → w8.cell? ⟨3, j, none⟩ = some (.int .u64 (at' k512 j)) := fun j g => by have := hct j g; rwa [Addr.add_lit, Nat.zero_add] at this
      clear hcw hw7 hcs
      simp (disch := omega) only [EO, ↓EP, EQ, EM, ↓reduceIte, Int.reduceAdd, Int.reduceEq, Int.reduceLE, Int.reduceLT, Int.reduceMul, Int.reduceNeg, Int.reducePow, Int.reduceSub, Int.reduceToNat, Nat.reduceAdd, Nat.reduceEqDiff, Nat.reduceLT, Nat.reduceLeDiff, Nat.reduceMul, reduceCtorEq, hrg, r2, r4, r5, r6, hcW, hcs', hct']
      refine wturns_q _ 14 18 41 false (by omega) (by omega) (by omega) (by omega) (by omega) (by omega) _ _ ?_
      simp (disch := omega) only [EO, ↓EP, EQ, EM, ↓reduceIte, Int.reduceAdd, Int.reduceEq, Int.reduceLE, Int.reduceLT, Int.reduceMul, Int.reduceNeg, Int.reducePow, Int.reduceSub, Int.reduceToNat, Nat.reduceAdd, Nat.reduceEqDiff, Nat.reduceLT, Nat.reduceLeDiff, Nat.reduceMul, reduceCtorEq, hrg, r2, r4, r5, r6, hcW, hcs', hct']
      intro m1
      refine wturns_q _ 28 34 39 false (by omega) (by omega) (by omega) (by omega) (by omega) (by omega) _ _ ?_
      simp (disch := omega) only [EO, ↓EP, EQ, EM, ↓reduceIte, Int.reduceAdd, Int.reduceEq, Int.reduceLE, Int.reduceLT, Int.reduceMul, Int.reduceNeg, Int.reducePow, Int.reduceSub, Int.reduceToNat, Nat.reduceAdd, Nat.reduceEqDiff, Nat.reduceLT, Nat.reduceLeDiff, Nat.reduceMul, reduceCtorEq, hrg, r2, r4, r5, r6, hcW, hcs', hct']
      intro m2
      have hfill : fillL [(0, 1), (1, 1), (2, 1), (3, 1), (4, 1), (5, 1), (6, 1), (7, 1)] (Array.replicate 8 (Value.int IntKind.u64 0)) [(0, Value.int IntKind.u64 (s64 (wideX k W st.s) (wideY st.s))), (1, Value.int IntKind.u64 (at' st.s 0)), (2, Value.int IntKind.u64 (at' st.s 1)), (3, Value.int IntKind.u64 (at' st.s 2)), (4, Value.int IntKind.u64 (s64 (at' st.s 3) (wideX k W st.s))), (5, Value.int IntKind.u64 (at' st.s 4)), (6, Value.int IntKind.u64 (at' st.s 5)), (7, Value.int IntKind.u64 (at' st.s 6))] = some (nums .u64 (wideS (wideX k W st.s) (wideY st.s) st.s)).toArray := fill8 _ _ _ _ _ _ _ _ _
      refine ⟨_, hfill, ?_⟩
      simp (disch := omega) only [EO, ↓EP, EQ, EM, ↓reduceIte, Int.reduceAdd, Int.reduceEq, Int.reduceLE, Int.reduceLT, Int.reduceMul, Int.reduceNeg, Int.reducePow, Int.reduceSub, Int.reduceToNat, Nat.reduceAdd, Nat.reduceEqDiff, Nat.reduceLT, Nat.reduceLeDiff, Nat.reduceMul, reduceCtorEq, hrg, r2, r4, r5, r6, hcW, hcs', hct']
      refine st_whole (hS.drewN _) (by rw [nums_length]; rfl) (by rw [nums_length]; exact hsl) (nums_one _ _) fun w9 p9 => ?_
      simp (disch := omega) only [EO, ↓EP, EQ, EM, ↓reduceIte, Int.reduceAdd, Int.reduceEq, Int.reduceLE, Int.reduceLT, Int.reduceMul, Int.reduceNeg, Int.reducePow, Int.reduceSub, Int.reduceToNat, Nat.reduceAdd, Nat.reduceEqDiff, Nat.reduceLT, Nat.reduceLeDiff, Nat.reduceMul, reduceCtorEq, hrg, r2, r4, r5, r6, hcW, hcs', hct']
      exact fin _ _ (by simp (disch := omega) only [EO, ↓EP, EQ, EM, ↓reduceIte, Int.reduceAdd, Int.reduceEq, Int.reduceLE, Int.reduceLT, Int.reduceMul, Int.reduceNeg, Int.reducePow, Int.reduceSub, Int.reduceToNat, Nat.reduceAdd, Nat.reduceEqDiff, Nat.reduceLT, Nat.reduceLeDiff, Nat.reduceMul, reduceCtorEq, hrg, r2, r4, r5, r6, hcW, hcs', hct', Int.natCast_add]) (p9.keep (by omega) hH) (p9.keep (by omega) hZ) (p9.keep (by omega) p8.blk) p9.blk (p9.below (by omega) (below_drewN' hb _))
  have hkR : k = 80 := by omega
  subst hkR
  have e1 : st.s = (rounds wideStep 80 (wideInit h p)).s := by rw [hst]
  rw [e1] at hS hcs hsl
  simp (disch := omega) only [EO, ↓EP, EQ, EM, ↓reduceIte, Int.reduceAdd, Int.reduceEq, Int.reduceLE, Int.reduceLT, Int.reduceMul, Int.reduceNeg, Int.reducePow, Int.reduceSub, Int.reduceToNat, Nat.reduceAdd, Nat.reduceEqDiff, Nat.reduceLT, Nat.reduceLeDiff, Nat.reduceMul, reduceCtorEq, hrg, r2, r4, r5, r6]
  clear hN hst e1 hcs hW hct hct' hT'
  refine loop_inv (fun m ρ w' => ∃ k : Nat, ρ 128 = .int .i64 k ∧ k ≤ 8 ∧ m = 8 - k ∧ Blk w' w.heap.size (nums .u64 h) ∧ Blk w' (w.heap.size + 1) (nums .u64 (zs 8)) ∧ Blk w' bS (nums .u64 (rounds (wideAdd h) k (rounds wideStep 80 (wideInit h p)).s)) ∧ Below w.heap.size w w') 8 ?_ ?_
  · exact ⟨0, by simp only [↓EP, EQ, EM, ↓reduceIte, Int.reduceAdd, Int.reduceEq, Int.reduceLE, Int.reduceLT, Int.reduceMul, Int.reduceNeg, Int.reducePow, Int.reduceSub, Int.reduceToNat, Nat.reduceAdd, Nat.reduceEqDiff, Nat.reduceLT, Nat.reduceLeDiff, Nat.reduceMul, reduceCtorEq], by omega, by omega, hH, hZ, hS, hb⟩
  rintro m ρ2 w8 hf ⟨k, hrg2, hk, rfl, hH, hZ, hS, hb⟩ N hN
  have r2 : ρ2 2 = .pointer (some ⟨w.heap.size, 0, none⟩) := by rw [hf 2 rfl]; simp only [↓EP, EQ, EM, ↓reduceIte, Int.reduceAdd, Int.reduceEq, Int.reduceLE, Int.reduceLT, Int.reduceMul, Int.reduceNeg, Int.reducePow, Int.reduceSub, Int.reduceToNat, Nat.reduceAdd, Nat.reduceEqDiff, Nat.reduceLT, Nat.reduceLeDiff, Nat.reduceMul, reduceCtorEq, r2]
  have r4 : ρ2 4 = .pointer (some ⟨w.heap.size + 1, 0, none⟩) := by rw [hf 4 rfl]; simp only [↓EP, EQ, EM, ↓reduceIte, Int.reduceAdd, Int.reduceEq, Int.reduceLE, Int.reduceLT, Int.reduceMul, Int.reduceNeg, Int.reducePow, Int.reduceSub, Int.reduceToNat, Nat.reduceAdd, Nat.reduceEqDiff, Nat.reduceLT, Nat.reduceLeDiff, Nat.reduceMul, reduceCtorEq, r4]
  have r6 : ρ2 7 = .pointer (some ⟨bS, 0, none⟩) := by rw [hf 7 rfl]; simp only [↓EP, EQ, EM, ↓reduceIte, Int.reduceAdd, Int.reduceEq, Int.reduceLE, Int.reduceLT, Int.reduceMul, Int.reduceNeg, Int.reducePow, Int.reduceSub, Int.reduceToNat, Nat.reduceAdd, Nat.reduceEqDiff, Nat.reduceLT, Nat.reduceLeDiff, Nat.reduceMul, reduceCtorEq, r6]
  have hal := wide_alen h (rounds wideStep 80 (wideInit h p)).s k
  clear hf
  by_cases hlt : (k : Int) < 8
  · generalize hst : rounds (wideAdd h) k (rounds wideStep 80 (wideInit h p)).s = S at *
    have hcs := fun (j : Nat) (g : j < 8) => hS.numN (by omega : j < S.length)
    have hch := fun (j : Nat) (g : j < 8) => hH.numN (by omega : j < h.length)
    simp (disch := omega) only [EO, ↓EP, EQ, EM, ↓reduceIte, Int.reduceAdd, Int.reduceEq, Int.reduceLE, Int.reduceLT, Int.reduceMul, Int.reduceNeg, Int.reducePow, Int.reduceSub, Int.reduceToNat, Nat.reduceAdd, Nat.reduceEqDiff, Nat.reduceLT, Nat.reduceLeDiff, Nat.reduceMul, reduceCtorEq, hrg2, r2, r4, r6, hcs, hch]
    intro m
    refine st_num (hS.drewN m) (by omega) fun w9 p9 => ?_
    simp (disch := omega) only [EO, ↓EP, EQ, EM, ↓reduceIte, Int.reduceAdd, Int.reduceEq, Int.reduceLE, Int.reduceLT, Int.reduceMul, Int.reduceNeg, Int.reducePow, Int.reduceSub, Int.reduceToNat, Nat.reduceAdd, Nat.reduceEqDiff, Nat.reduceLT, Nat.reduceLeDiff, Nat.reduceMul, reduceCtorEq, hrg2]
    refine hN (8 - (k + 1)) _ _ (by omega) ⟨k + 1, by simp (disch := omega) only [↓EP, EQ, EM, ↓reduceIte, Int.reduceAdd, Int.reduceEq, Int.reduceLE, Int.reduceLT, Int.reduceMul, Int.reduceNeg, Int.reducePow, Int.reduceSub, Int.reduceToNat, Nat.reduceAdd, Nat.reduceEqDiff, Nat.reduceLT, Nat.reduceLeDiff, Nat.reduceMul, reduceCtorEq, hrg2, EO, Int.natCast_add], by omega, rfl, p9.keep (by omega) hH, p9.keep (by omega) hZ, ?_, p9.below (by omega) (below_drewN' hb m)⟩
    rw [rounds, hst]
    exact p9.blk
  · have hk8 : k = 8 := by omega
    subst hk8
    have hS : Blk w8 bS (nums .u64 (wide h p)) := hS
    have h8 : (nums .u64 (wide h p)).length = 8 := by rw [nums_length]; exact wide_len h p hh
    simp (disch := omega) only [EO, ↓EP, EQ, EM, ↓reduceIte, Int.reduceAdd, Int.reduceEq, Int.reduceLE, Int.reduceLT, Int.reduceMul, Int.reduceNeg, Int.reducePow, Int.reduceSub, Int.reduceToNat, Nat.reduceAdd, Nat.reduceEqDiff, Nat.reduceLT, Nat.reduceLeDiff, Nat.reduceMul, reduceCtorEq, hrg2, r2, r4, r6]
    refine hS.ldAgg h8 ?_
    simp only [↓EP, EQ, EM, ↓reduceIte, Int.reduceAdd, Int.reduceEq, Int.reduceLE, Int.reduceLT, Int.reduceMul, Int.reduceNeg, Int.reducePow, Int.reduceSub, Int.reduceToNat, Nat.reduceAdd, Nat.reduceEqDiff, Nat.reduceLT, Nat.reduceLeDiff, Nat.reduceMul, reduceCtorEq, r2, r4, r6]
    refine st_whole hZ h8 rfl (nums_one _ _) fun w10 p10 => ?_
    simp only [↓EP, EQ, EM, ↓reduceIte, Int.reduceAdd, Int.reduceEq, Int.reduceLE, Int.reduceLT, Int.reduceMul, Int.reduceNeg, Int.reducePow, Int.reduceSub, Int.reduceToNat, Nat.reduceAdd, Nat.reduceEqDiff, Nat.reduceLT, Nat.reduceLeDiff, Nat.reduceMul, reduceCtorEq, r2, r4, r6]
    exact p10.blk.ldAgg h8 (hK _ (p10.below (by omega) hb))
attribute [irreducible] wide
end Go.Proofs.YtcgplgpdcfocpaaDoor.Spec
end
section
set_option linter.unusedVariables false
set_option linter.unusedSimpArgs false
namespace Go.Proofs.YtcgplgpdcfocpaaDoor.Spec
open Go Go.RowKit Go.Proofs Go.Proofs.YtcgplgpdcfocpaaDoor.Eng Go.Proofs.YtcgplgpdcfocpaaDoor.Code
set_option maxRecDepth 100000
def sizeI (alg : Int) : Int := if alg = 1 then 20 else if alg = 2 then 32 else if alg = 3 then 48 else if alg = 4 then 64 else 0
def blockI (alg : Int) : Nat := if alg = 1 then 64 else if alg = 2 then 64 else if alg = 3 then 128 else if alg = 4 then 128 else 0
theorem size_spec (alg : Int) (w : World) (K : Value → World → Prop) (hK : K (.int .i64 (sizeI alg)) w) : callK Tryd.prog 27 [.int .i64 alg] w K := by
  refine call_of Tryd.func27 Code.h27 (by simp [Code.c27]) ?_
  unfold sizeI at hK
  have c : alg = 1 ∨ alg = 2 ∨ alg = 3 ∨ alg = 4 ∨ (alg < 1 ∨ 4 < alg) := by omega
  rcases c with rfl | rfl | rfl | rfl | c
  · simp only [Code.c27, ↓EP, EQ, EM, ↓reduceIte, Int.reduceAdd, Int.reduceEq, Int.reduceLE, Int.reduceLT, Int.reduceMul, Int.reduceNeg, Int.reducePow, Int.reduceSub, Int.reduceToNat, Nat.reduceAdd, Nat.reduceEqDiff, Nat.reduceLT, Nat.reduceLeDiff, Nat.reduceMul, reduceCtorEq]; exact hK
  · simp only [Code.c27, ↓EP, EQ, EM, ↓reduceIte, Int.reduceAdd, Int.reduceEq, Int.reduceLE, Int.reduceLT, Int.reduceMul, Int.reduceNeg, Int.reducePow, Int.reduceSub, Int.reduceToNat, Nat.reduceAdd, Nat.reduceEqDiff, Nat.reduceLT, Nat.reduceLeDiff, Nat.reduceMul, reduceCtorEq]; exact hK
  · simp only [Code.c27, ↓EP, EQ, EM, ↓reduceIte, Int.reduceAdd, Int.reduceEq, Int.reduceLE, Int.reduceLT, Int.reduceMul, Int.reduceNeg, Int.reducePow, Int.reduceSub, Int.reduceToNat, Nat.reduceAdd, Nat.reduceEqDiff, Nat.reduceLT, Nat.reduceLeDiff, Nat.reduceMul, reduceCtorEq]; exact hK
  · simp only [Code.c27, ↓EP, EQ, EM, ↓reduceIte, Int.reduceAdd, Int.reduceEq, Int.reduceLE, Int.reduceLT, Int.reduceMul, Int.reduceNeg, Int.reducePow, Int.reduceSub, Int.reduceToNat, Nat.reduceAdd, Nat.reduceEqDiff, Nat.reduceLT, Nat.reduceLeDiff, Nat.reduceMul, reduceCtorEq]; exact hK
  · simp (disch := omega) only [Code.c27, EO, ↓EP, EQ, EM, ↓reduceIte, Int.reduceAdd, Int.reduceEq, Int.reduceLE, Int.reduceLT, Int.reduceMul, Int.reduceNeg, Int.reducePow, Int.reduceSub, Int.reduceToNat, Nat.reduceAdd, Nat.reduceEqDiff, Nat.reduceLT, Nat.reduceLeDiff, Nat.reduceMul, reduceCtorEq]
    rwa [if_neg (by omega), if_neg (by omega), if_neg (by omega), if_neg (by omega)] at hK
theorem blocksz_spec (alg : Int) (w : World) (K : Value → World → Prop) (hK : K (.int .i64 (blockI alg)) w) : callK Tryd.prog 101 [.int .i64 alg] w K := by
  refine call_of Tryd.func101 Code.h101 (by simp [Code.c101]) ?_
  unfold blockI at hK
  have c : alg = 1 ∨ alg = 2 ∨ alg = 3 ∨ alg = 4 ∨ (alg < 1 ∨ 4 < alg) := by omega
  rcases c with rfl | rfl | rfl | rfl | c
  · simp only [Code.c101, ↓EP, EQ, EM, ↓reduceIte, Int.reduceAdd, Int.reduceEq, Int.reduceLE, Int.reduceLT, Int.reduceMul, Int.reduceNeg, Int.reducePow, Int.reduceSub, Int.reduceToNat, Nat.reduceAdd, Nat.reduceEqDiff, Nat.reduceLT, Nat.reduceLeDiff, Nat.reduceMul, reduceCtorEq, W_join]; exact hK
  · simp only [Code.c101, ↓EP, EQ, EM, ↓reduceIte, Int.reduceAdd, Int.reduceEq, Int.reduceLE, Int.reduceLT, Int.reduceMul, Int.reduceNeg, Int.reducePow, Int.reduceSub, Int.reduceToNat, Nat.reduceAdd, Nat.reduceEqDiff, Nat.reduceLT, Nat.reduceLeDiff, Nat.reduceMul, reduceCtorEq, W_join]; exact hK
  · simp only [Code.c101, ↓EP, EQ, EM, ↓reduceIte, Int.reduceAdd, Int.reduceEq, Int.reduceLE, Int.reduceLT, Int.reduceMul, Int.reduceNeg, Int.reducePow, Int.reduceSub, Int.reduceToNat, Nat.reduceAdd, Nat.reduceEqDiff, Nat.reduceLT, Nat.reduceLeDiff, Nat.reduceMul, reduceCtorEq, W_join]; exact hK
  · simp only [Code.c101, ↓EP, EQ, EM, ↓reduceIte, Int.reduceAdd, Int.reduceEq, Int.reduceLE, Int.reduceLT, Int.reduceMul, Int.reduceNeg, Int.reducePow, Int.reduceSub, Int.reduceToNat, Nat.reduceAdd, Nat.reduceEqDiff, Nat.reduceLT, Nat.reduceLeDiff, Nat.reduceMul, reduceCtorEq, W_join]; exact hK
  · simp (disch := omega) only [Code.c101, EO, ↓EP, EQ, EM, ↓reduceIte, Int.reduceAdd, Int.reduceEq, Int.reduceLE, Int.reduceLT, Int.reduceMul, Int.reduceNeg, Int.reducePow, Int.reduceSub, Int.reduceToNat, Nat.reduceAdd, Nat.reduceEqDiff, Nat.reduceLT, Nat.reduceLeDiff, Nat.reduceMul, reduceCtorEq, W_join]
    rwa [if_neg (by omega), if_neg (by omega), if_neg (by omega), if_neg (by omega)] at hK
def hc (alg : Int) (ws vs : List Int) (rv : Value) (n : Int) : List Value := .int .i64 alg :: (nums .u32 ws ++ (nums .u64 vs ++ [rv, .int .i64 n]))
theorem len8 {l : List Int} (h : l.length = 8) : ∃ a b c d e f g i, l = [a, b, c, d, e, f, g, i] := by
  match l, h with
  | [a, b, c, d, e, f, g, i], _ => exact ⟨a, b, c, d, e, f, g, i, rfl⟩
structure HC (w : World) (hb : Nat) (alg : Int) (ws vs : List Int) (rv : Value) (n : Int) : Prop where
  blk : Blk w hb (hc alg ws vs rv n)
  lw : ws.length = 8
  lv : vs.length = 8
theorem HC.alg {w : World} {hb : Nat} {alg : Int} {ws vs : List Int} {rv : Value} {n : Int} (h : HC w hb alg ws vs rv n) : w.cell? ⟨hb, 0, none⟩ = some (.int .i64 alg) := h.blk.has 0 _ rfl
theorem HC.rest {w : World} {hb : Nat} {alg : Int} {ws vs : List Int} {rv : Value} {n : Int} (h : HC w hb alg ws vs rv n) : w.cell? ⟨hb, 17, none⟩ = some rv := by
  obtain ⟨a, b, c, d, e, f, g, i, rfl⟩ := len8 h.lw
  obtain ⟨a, b, c, d, e, f, g, i, rfl⟩ := len8 h.lv
  exact h.blk.has 17 _ rfl
theorem HC.n {w : World} {hb : Nat} {alg : Int} {ws vs : List Int} {rv : Value} {n : Int} (h : HC w hb alg ws vs rv n) : w.cell? ⟨hb, 18, none⟩ = some (.int .i64 n) := by
  obtain ⟨a, b, c, d, e, f, g, i, rfl⟩ := len8 h.lw
  obtain ⟨a, b, c, d, e, f, g, i, rfl⟩ := len8 h.lv
  exact h.blk.has 18 _ rfl
theorem HC.w_ {w : World} {hb : Nat} {alg : Int} {ws vs : List Int} {rv : Value} {n : Int} (h : HC w hb alg ws vs rv n) (j : Nat) (hj : j < 8) : w.cell? ⟨hb, 1 + j, none⟩ = some (.int .u32 (at' ws j)) := by
  have lw := h.lw
  rw [h.blk.cell?, hc, Nat.add_comm 1 j, List.getElem?_cons_succ, List.getElem?_append_left (by rw [nums_length]; omega), nums_get (by omega)]
  simp [at']
theorem HC.v_ {w : World} {hb : Nat} {alg : Int} {ws vs : List Int} {rv : Value} {n : Int} (h : HC w hb alg ws vs rv n) (j : Nat) (hj : j < 8) : w.cell? ⟨hb, 9 + j, none⟩ = some (.int .u64 (at' vs j)) := by
  have lw := h.lw
  have lv := h.lv
  rw [h.blk.cell?, hc, show 9 + j = (8 + j) + 1 by omega, List.getElem?_cons_succ, List.getElem?_append_right (by rw [nums_length]; omega), nums_length, List.getElem?_append_left (by rw [nums_length]; omega), show 8 + j - ws.length = j by omega, nums_get (by omega)]
  simp [at']
theorem HC.ldw {w : World} {hb : Nat} {alg : Int} {ws vs : List Int} {rv : Value} {n : Int} (h : HC w hb alg ws vs rv n) {K : Value → Prop} (hK : K (.agg (nums .u32 ws).toArray)) : ldK w (.agg 8) ⟨hb, 1, none⟩ K := by
  have hB := h.blk
  obtain ⟨a, b, c, d, e, f, g, i, rfl⟩ := len8 h.lw
  obtain ⟨a', b', c', d', e', f', g', i', rfl⟩ := len8 h.lv
  exact ⟨nums .u32 [a, b, c, d, e, f, g, i], rfl, hB.part 1 8, hK⟩
theorem HC.ldv {w : World} {hb : Nat} {alg : Int} {ws vs : List Int} {rv : Value} {n : Int} (h : HC w hb alg ws vs rv n) {K : Value → Prop} (hK : K (.agg (nums .u64 vs).toArray)) : ldK w (.agg 8) ⟨hb, 9, none⟩ K := by
  have hB := h.blk
  obtain ⟨a, b, c, d, e, f, g, i, rfl⟩ := len8 h.lw
  obtain ⟨a', b', c', d', e', f', g', i', rfl⟩ := len8 h.lv
  exact ⟨nums .u64 [a', b', c', d', e', f', g', i'], rfl, hB.part 9 8, hK⟩
theorem hc_len {alg : Int} {ws vs : List Int} {rv : Value} {n : Int} (lw : ws.length = 8) (lv : vs.length = 8) : (hc alg ws vs rv n).length = 19 := by
  simp [hc, nums_length, lw, lv]
theorem HC.stw {w : World} {hb : Nat} {alg : Int} {ws vs : List Int} {rv : Value} {n : Int} (h : HC w hb alg ws vs rv n) {ws' : List Int} (l8 : ws'.length = 8) {K : World → Prop} (hK : ∀ w', HC w' hb alg ws' vs rv n → Fr w w' (fun b => b = hb) → K w') : stK 8 ⟨hb, 1, none⟩ (.agg (nums .u32 ws').toArray) w K := by
  refine st_part h.blk (by rw [nums_length]; exact l8) (by rw [hc_len h.lw h.lv]; omega) (nums_one _ _) fun w' p => hK w' ⟨?_, l8, h.lv⟩ p.fr
  have hB := p.blk
  obtain ⟨a, b, c, d, e, f, g, i, rfl⟩ := len8 h.lw
  obtain ⟨a', b', c', d', e', f', g', i', rfl⟩ := len8 h.lv
  obtain ⟨a'', b'', c'', d'', e'', f'', g'', i'', rfl⟩ := len8 l8
  exact hB
theorem HC.stv {w : World} {hb : Nat} {alg : Int} {ws vs : List Int} {rv : Value} {n : Int} (h : HC w hb alg ws vs rv n) {vs' : List Int} (l8 : vs'.length = 8) {K : World → Prop} (hK : ∀ w', HC w' hb alg ws vs' rv n → Fr w w' (fun b => b = hb) → K w') : stK 8 ⟨hb, 9, none⟩ (.agg (nums .u64 vs').toArray) w K := by
  refine st_part h.blk (by rw [nums_length]; exact l8) (by rw [hc_len h.lw h.lv]; omega) (nums_one _ _) fun w' p => hK w' ⟨?_, h.lw, l8⟩ p.fr
  have hB := p.blk
  obtain ⟨a, b, c, d, e, f, g, i, rfl⟩ := len8 h.lw
  obtain ⟨a', b', c', d', e', f', g', i', rfl⟩ := len8 h.lv
  obtain ⟨a'', b'', c'', d'', e'', f'', g'', i'', rfl⟩ := len8 l8
  exact hB
theorem HC.str {w : World} {hb : Nat} {alg : Int} {ws vs : List Int} {rv : Value} {n : Int} (h : HC w hb alg ws vs rv n) {A : Option Addr} {l c : Nat} {K : World → Prop} (hK : ∀ w', HC w' hb alg ws vs (.slice A l c) n → Fr w w' (fun b => b = hb) → K w') : stK 1 ⟨hb, 17, none⟩ (.slice A l c) w K := by
  refine st_one h.blk (by rw [hc_len h.lw h.lv]; omega) rfl fun w' p => hK w' ⟨?_, h.lw, h.lv⟩ p.fr
  have hB := p.blk
  obtain ⟨a, b, c, d, e, f, g, i, rfl⟩ := len8 h.lw
  obtain ⟨a', b', c', d', e', f', g', i', rfl⟩ := len8 h.lv
  exact hB
theorem HC.stn {w : World} {hb : Nat} {alg : Int} {ws vs : List Int} {rv : Value} {n : Int} (h : HC w hb alg ws vs rv n) {m : Int} {K : World → Prop} (hK : ∀ w', HC w' hb alg ws vs rv m → Fr w w' (fun b => b = hb) → K w') : stK 1 ⟨hb, 18, none⟩ (.int .i64 m) w K := by
  refine st_one h.blk (by rw [hc_len h.lw h.lv]; omega) rfl fun w' p => hK w' ⟨?_, h.lw, h.lv⟩ p.fr
  have hB := p.blk
  obtain ⟨a, b, c, d, e, f, g, i, rfl⟩ := len8 h.lw
  obtain ⟨a', b', c', d', e', f', g', i', rfl⟩ := len8 h.lv
  exact hB
theorem HC.fr {w w' : World} {hb : Nat} {alg : Int} {ws vs : List Int} {rv : Value} {n : Int} (h : HC w hb alg ws vs rv n) {P : Nat → Prop} (f : Fr w w' P) (hp : ¬ P hb) : HC w' hb alg ws vs rv n := ⟨h.blk.fr f hp, h.lw, h.lv⟩
structure Tb (w : World) : Prop where
  k256 : cellsAt w ⟨2, 0, none⟩ (nums .u32 k256)
  k512 : cellsAt w ⟨3, 0, none⟩ (nums .u64 k512)
  lt : 3 < w.heap.size
  lt0 : 2 < w.heap.size
theorem Tb.fr {w w' : World} {P : Nat → Prop} (h : Tb w) (f : Fr w w' P) (h0 : ¬ P 2) (h1 : ¬ P 3) : Tb w' :=
  ⟨h.k256.fr f h.lt0 h0, h.k512.fr f h.lt h1, Nat.lt_of_lt_of_le h.lt f.size, Nat.lt_of_lt_of_le h.lt0 f.size⟩
def mix (alg : Int) (s : List Int × List Int) (p : List Int) : List Int × List Int :=
  if alg = 1 then (one s.1 p, s.2) else if alg = 2 then (two s.1 p, s.2) else (s.1, wide s.2 p)
theorem one_len (h p : List Int) : (one h p).length = 8 := rfl
attribute [local irreducible] one
theorem block_spec {w : World} {hb : Nat} {alg : Int} {ws vs : List Int} {rv : Value} {n : Int} (h : HC w hb alg ws vs rv n) (ha : 1 ≤ alg) (ha' : alg ≤ 4) (hT : Tb w) {A : Option Addr} {c : Nat} {p : List Int} (hr : Rd w A (nums .u8 p)) (hp : p.length = blockI alg) (K : Value → World → Prop)
    (hK : ∀ w', HC w' hb alg (mix alg (ws, vs) p).1 (mix alg (ws, vs) p).2 rv n → Fr w w' (fun b => b = hb) → K (.tuple #[]) w') : callK Tryd.prog 102 [.pointer (some ⟨hb, 0, none⟩), .slice A (blockI alg) c] w K := by
  refine call_of Tryd.func102 Code.h102 (by simp [Code.c102]) ?_
  have lt := hT.lt
  have lt0 := hT.lt0
  have c : alg = 1 ∨ alg = 2 ∨ alg = 3 ∨ alg = 4 := by omega
  have hal := h.alg
  rcases c with rfl | rfl | rfl | rfl
  · simp only [Code.c102, ↓EP, EQ, EM, ↓reduceIte, Int.reduceAdd, Int.reduceEq, Int.reduceLE, Int.reduceLT, Int.reduceMul, Int.reduceNeg, Int.reducePow, Int.reduceSub, Int.reduceToNat, Nat.reduceAdd, Nat.reduceEqDiff, Nat.reduceLT, Nat.reduceLeDiff, Nat.reduceMul, reduceCtorEq, hal]
    refine h.ldw ?_
    simp only [↓EP, EQ, EM, ↓reduceIte, Int.reduceAdd, Int.reduceEq, Int.reduceLE, Int.reduceLT, Int.reduceMul, Int.reduceNeg, Int.reducePow, Int.reduceSub, Int.reduceToNat, Nat.reduceAdd, Nat.reduceEqDiff, Nat.reduceLT, Nat.reduceLeDiff, Nat.reduceMul, reduceCtorEq]
    refine one_spec ws p h.lw hp A _ w hr _ fun w1 b1 => ?_
    have f1 := fr_of b1 rfl
    simp only [↓EP, EQ, EM, ↓reduceIte, Int.reduceAdd, Int.reduceEq, Int.reduceLE, Int.reduceLT, Int.reduceMul, Int.reduceNeg, Int.reducePow, Int.reduceSub, Int.reduceToNat, Nat.reduceAdd, Nat.reduceEqDiff, Nat.reduceLT, Nat.reduceLeDiff, Nat.reduceMul, reduceCtorEq]
    refine (h.fr f1 (fun x => x)).stw (one_len _ _) fun w2 h2 f2 => ?_
    simp only [↓EP, EQ, EM, ↓reduceIte, Int.reduceAdd, Int.reduceEq, Int.reduceLE, Int.reduceLT, Int.reduceMul, Int.reduceNeg, Int.reducePow, Int.reduceSub, Int.reduceToNat, Nat.reduceAdd, Nat.reduceEqDiff, Nat.reduceLT, Nat.reduceLeDiff, Nat.reduceMul, reduceCtorEq]
    exact hK _ h2 ((f1.mono fun _ _ x => x.elim).trans f2 fun _ _ x => x)
  · simp only [Code.c102, ↓EP, EQ, EM, ↓reduceIte, Int.reduceAdd, Int.reduceEq, Int.reduceLE, Int.reduceLT, Int.reduceMul, Int.reduceNeg, Int.reducePow, Int.reduceSub, Int.reduceToNat, Nat.reduceAdd, Nat.reduceEqDiff, Nat.reduceLT, Nat.reduceLeDiff, Nat.reduceMul, reduceCtorEq, hal]
    refine h.ldw ?_
    simp only [↓EP, EQ, EM, ↓reduceIte, Int.reduceAdd, Int.reduceEq, Int.reduceLE, Int.reduceLT, Int.reduceMul, Int.reduceNeg, Int.reducePow, Int.reduceSub, Int.reduceToNat, Nat.reduceAdd, Nat.reduceEqDiff, Nat.reduceLT, Nat.reduceLeDiff, Nat.reduceMul, reduceCtorEq]
    refine two_spec ws p h.lw hp A _ w hr hT.k256 (by omega) _ fun w1 b1 => ?_
    have f1 := fr_of b1 rfl
    simp only [↓EP, EQ, EM, ↓reduceIte, Int.reduceAdd, Int.reduceEq, Int.reduceLE, Int.reduceLT, Int.reduceMul, Int.reduceNeg, Int.reducePow, Int.reduceSub, Int.reduceToNat, Nat.reduceAdd, Nat.reduceEqDiff, Nat.reduceLT, Nat.reduceLeDiff, Nat.reduceMul, reduceCtorEq]
    refine (h.fr f1 (fun x => x)).stw (two_len _ _ h.lw) fun w2 h2 f2 => ?_
    simp only [↓EP, EQ, EM, ↓reduceIte, Int.reduceAdd, Int.reduceEq, Int.reduceLE, Int.reduceLT, Int.reduceMul, Int.reduceNeg, Int.reducePow, Int.reduceSub, Int.reduceToNat, Nat.reduceAdd, Nat.reduceEqDiff, Nat.reduceLT, Nat.reduceLeDiff, Nat.reduceMul, reduceCtorEq]
    exact hK _ h2 ((f1.mono fun _ _ x => x.elim).trans f2 fun _ _ x => x)
  all_goals
    simp only [Code.c102, ↓EP, EQ, EM, ↓reduceIte, Int.reduceAdd, Int.reduceEq, Int.reduceLE, Int.reduceLT, Int.reduceMul, Int.reduceNeg, Int.reducePow, Int.reduceSub, Int.reduceToNat, Nat.reduceAdd, Nat.reduceEqDiff, Nat.reduceLT, Nat.reduceLeDiff, Nat.reduceMul, reduceCtorEq, hal]
    refine h.ldv ?_
    simp only [↓EP, EQ, EM, ↓reduceIte, Int.reduceAdd, Int.reduceEq, Int.reduceLE, Int.reduceLT, Int.reduceMul, Int.reduceNeg, Int.reducePow, Int.reduceSub, Int.reduceToNat, Nat.reduceAdd, Nat.reduceEqDiff, Nat.reduceLT, Nat.reduceLeDiff, Nat.reduceMul, reduceCtorEq]
    refine wide_spec vs p h.lv hp A _ w hr hT.k512 (by omega) _ fun w1 b1 => ?_
    have f1 := fr_of b1 rfl
    simp only [↓EP, EQ, EM, ↓reduceIte, Int.reduceAdd, Int.reduceEq, Int.reduceLE, Int.reduceLT, Int.reduceMul, Int.reduceNeg, Int.reducePow, Int.reduceSub, Int.reduceToNat, Nat.reduceAdd, Nat.reduceEqDiff, Nat.reduceLT, Nat.reduceLeDiff, Nat.reduceMul, reduceCtorEq]
    refine (h.fr f1 (fun x => x)).stv (wide_len _ _ h.lv) fun w2 h2 f2 => ?_
    simp only [↓EP, EQ, EM, ↓reduceIte, Int.reduceAdd, Int.reduceEq, Int.reduceLE, Int.reduceLT, Int.reduceMul, Int.reduceNeg, Int.reducePow, Int.reduceSub, Int.reduceToNat, Nat.reduceAdd, Nat.reduceEqDiff, Nat.reduceLT, Nat.reduceLeDiff, Nat.reduceMul, reduceCtorEq]
    exact hK _ h2 ((f1.mono fun _ _ x => x.elim).trans f2 fun _ _ x => x)
end Go.Proofs.YtcgplgpdcfocpaaDoor.Spec
end
section
set_option linter.unusedVariables false
set_option linter.unusedSimpArgs false
namespace Go.Proofs.YtcgplgpdcfocpaaDoor.Spec
open Go Go.RowKit Go.Proofs Go.Proofs.YtcgplgpdcfocpaaDoor.Eng Go.Proofs.YtcgplgpdcfocpaaDoor.Code
set_option maxRecDepth 100000
attribute [local irreducible] one
def st0 (alg : Int) : List Int × List Int :=
  if alg = 1 then ([1732584193, 4023233417, 2562383102, 271733878, 3285377520, 0, 0, 0], zs 8)
  else if alg = 2 then ([1779033703, 3144134277, 1013904242, 2773480762, 1359893119, 2600822924, 528734635, 1541459225], zs 8)
  else if alg = 3 then (zs 8, [14680500436340154072, 7105036623409894663, 10473403895298186519, 1526699215303891257, 7436329637833083697, 10282925794625328401, 15784041429090275239, 5167115440072839076])
  else (zs 8, [7640891576956012808, 13503953896175478587, 4354685564936845355, 11912009170470909681, 5840696475078001361, 11170449401992604703, 2270897969802886507, 6620516959819538809])
def part (bs : Nat) (M : List Int) (j : Nat) : List Int := (M.drop (j * bs)).take bs
def runN (alg : Int) (M : List Int) (j : Nat) : List Int × List Int := rounds (fun j s => mix alg s (part (blockI alg) M j)) j (st0 alg)
def run (alg : Int) (M : List Int) : List Int × List Int := runN alg M (M.length / blockI alg)
def rest (alg : Int) (M : List Int) : List Int := M.drop (M.length / blockI alg * blockI alg)
theorem part_app {bs : Nat} {m p : List Int} {j : Nat} (h : (j + 1) * bs ≤ m.length) : part bs (m ++ p) j = part bs m j := by
  unfold part
  have e : (j + 1) * bs = j * bs + bs := by rw [Nat.add_mul, Nat.one_mul]
  rw [e] at h
  rw [List.drop_append_of_le_length (by omega), List.take_append_of_le_length (by simp; omega)]
theorem runN_app {alg : Int} {m p : List Int} : ∀ {j : Nat}, j * blockI alg ≤ m.length → runN alg (m ++ p) j = runN alg m j
  | 0, _ => by rw [runN, runN, rounds, rounds]
  | j + 1, h => by
    have h' : j * blockI alg ≤ m.length := Nat.le_trans (Nat.mul_le_mul_right _ (by omega)) h
    show mix alg (runN alg (m ++ p) j) (part _ (m ++ p) j) = mix alg (runN alg m j) (part _ m j)
    rw [runN_app h', part_app h]
theorem runN_succ (alg : Int) (M : List Int) (j : Nat) : runN alg M (j + 1) = mix alg (runN alg M j) (part (blockI alg) M j) := rfl
theorem blockI_or {alg : Int} (h : 1 ≤ alg) (h' : alg ≤ 4) : blockI alg = 64 ∨ blockI alg = 128 := by
  have c : alg = 1 ∨ alg = 2 ∨ alg = 3 ∨ alg = 4 := by omega
  rcases c with rfl | rfl | rfl | rfl <;> decide
theorem run_of {alg : Int} (h : 1 ≤ alg) (h' : alg ≤ 4) {M : List Int} {j : Nat} (h1 : j * blockI alg ≤ M.length) (h2 : M.length < j * blockI alg + blockI alg) : M.length / blockI alg = j := by
  have hb := blockI_or h h'
  have hp : 0 < blockI alg := by omega
  apply Nat.le_antisymm
  · apply Nat.le_of_lt_succ
    rw [Nat.div_lt_iff_lt_mul hp, Nat.succ_mul]; exact h2
  · rw [Nat.le_div_iff_mul_le hp]; exact h1
theorem div_facts {alg : Int} (h : 1 ≤ alg) (h' : alg ≤ 4) (m : List Int) : m.length / blockI alg * blockI alg ≤ m.length ∧ m.length < m.length / blockI alg * blockI alg + blockI alg := by
  have hb := blockI_or h h'
  rcases hb with e | e <;> rw [e] <;> omega
structure Hsh (w : World) (hb : Nat) (rv : Value) (alg : Int) (m : List Int) : Prop where
  hc : HC w hb alg (run alg m).1 (run alg m).2 rv m.length
  a1 : 1 ≤ alg
  a4 : alg ≤ 4
  sl : Sl .u8 w rv (rest alg m)
  hi : 3 < hb
  ri : ∀ b, blkOf rv = some b → 3 < b ∧ b ≠ hb
structure Wr (w0 w : World) (hb : Nat) (rv0 : Value) (alg : Int) (s : List Int × List Int) (cv : Value) (n : Int) (x : Value) (r : List Int) : Prop where
  hc : HC w hb alg s.1 s.2 cv n
  sl : Sl .u8 w x r
  sep : ∀ b, blkOf x = some b → 3 < b ∧ b ≠ hb ∧ (blkOf rv0 = some b ∨ w0.heap.size ≤ b)
  tb : Tb w
  fr : Fr w0 w (fun b => b = hb ∨ blkOf rv0 = some b)
def hP (hb : Nat) (rv0 : Value) : Nat → Prop := fun b => b = hb ∨ blkOf rv0 = some b
variable {w0 w w' : World} {hb : Nat} {rv0 cv x : Value} {alg n : Int} {s : List Int × List Int} {r : List Int}
theorem Wr.hb_ (h : Wr w0 w hb rv0 alg s cv n x r) {s' : List Int × List Int} {cv' : Value} {n' : Int} (hi : 3 < hb) (h' : HC w' hb alg s'.1 s'.2 cv' n') (f : Fr w w' (fun b => b = hb)) : Wr w0 w' hb rv0 alg s' cv' n' x r :=
  ⟨h', h.sl.fr f fun b hb => (h.sep b hb).2.1, h.sep, h.tb.fr f (by omega) (by omega), h.fr.trans f fun b _ e => .inl e⟩
theorem Wr.drewN (h : Wr w0 w hb rv0 alg s cv n x r) (k : Nat) : Wr w0 (w.drewN k) hb rv0 alg s cv n x r :=
  ⟨h.hc.fr (Fr.drewN w k nob) (fun x => x), h.sl.drewN k, h.sep, h.tb.fr (Fr.drewN w k nob) (fun x => x) (fun x => x), h.fr.trans (Fr.drewN w k nob) fun b _ e => e.elim⟩
theorem Wr.apd (h : Wr w0 w hb rv0 alg s cv n x r) {v : Value} {l : List Int} (hh : hb < w.heap.size) (a : Apd .u8 w x l v w') : Wr w0 w' hb rv0 alg s cv n v l := by
  have lt := h.tb.lt
  refine ⟨h.hc.fr a.fr fun e => (h.sep _ e).2.1 rfl, a.sl, fun b hb' => ?_, h.tb.fr a.fr (fun e => by have := (h.sep _ e).1; omega) (fun e => by have := (h.sep _ e).1; omega), h.fr.trans a.fr fun b hb' e => ?_⟩
  · rcases a.where_ with e | e
    · exact h.sep b (e ▸ hb')
    · have := e b hb'
      have := h.fr.size
      exact ⟨by omega, by omega, .inr (by omega)⟩
  · rcases (h.sep b e).2.2 with c | c
    · exact .inr c
    · omega
theorem Wr.out (h : Wr w0 w hb rv0 alg s cv n x r) : Wr w0 w hb rv0 alg s cv n (.slice none 0 0) [] :=
  ⟨h.hc, Sl.nil _ _, fun b e => (by cases e), h.tb, h.fr⟩
theorem Wr.hsh (h : Wr w0 w hb rv0 alg (run alg r) x (r.length : Int) x (rest alg r)) (a1 : 1 ≤ alg) (a4 : alg ≤ 4) (hi : 3 < hb) : Hsh w hb x alg r :=
  ⟨h.hc, a1, a4, h.sl, hi, fun b e => ⟨(h.sep b e).1, (h.sep b e).2.1⟩⟩
theorem rest_len {alg : Int} (h : 1 ≤ alg) (h' : alg ≤ 4) (m : List Int) : (rest alg m).length = m.length - m.length / blockI alg * blockI alg := by simp [rest]
set_option maxHeartbeats 2000000 in
theorem write_spec {w : World} {hb : Nat} {rv : Value} {alg : Int} {m p : List Int} (h : Hsh w hb rv alg m) (hT : Tb w) {A : Option Addr} {c : Nat} (hr : RO .u8 w A p (hP hb rv)) (hpc : p.length ≤ c) (hmx : m.length + p.length ≤ 16777216) (K : Value → World → Prop)
    (hK : ∀ rv' w', Hsh w' hb rv' alg (m ++ p) → Tb w' → (∀ b, blkOf rv' = some b → blkOf rv = some b ∨ w.heap.size ≤ b) → Fr w w' (hP hb rv) → K (.int .i64 0) w') : callK Tryd.prog 78 [.pointer (some ⟨hb, 0, none⟩), .slice A p.length c] w K := by
  refine call_of Tryd.func78 Code.h78 (by simp [Code.c78]) ?_
  have ha1 := h.a1
  have ha4 := h.a4
  have hi := h.hi
  have hbs := blockI_or ha1 ha4
  have hlt := h.hc.blk.lt
  obtain ⟨hd1, hd2⟩ := div_facts ha1 ha4 m
  have hrl := rest_len ha1 ha4 m
  obtain ⟨RA, rc, rfl, hrc, hRd, hRb⟩ := h.sl.read
  have W0 : Wr w w hb (.slice RA (rest alg m).length rc) alg (run alg m) (.slice RA (rest alg m).length rc) m.length (.slice RA (rest alg m).length rc) (rest alg m) :=
    ⟨h.hc, h.sl, fun b e => ⟨(h.ri b e).1, (h.ri b e).2, .inl e⟩, hT, Fr.refl _ _⟩
  have fin : ∀ (x : Value) (w9 : World), Wr w w9 hb (.slice RA (rest alg m).length rc) alg (run alg (m ++ p)) x (m ++ p).length x (rest alg (m ++ p)) → K (.int .i64 0) w9 := fun x w9 h9 =>
    hK x w9 (h9.hsh ha1 ha4 hi) h9.tb (fun b e => (h9.sep b e).2.2) h9.fr
  clear hK hRd hRb
  have hn := h.hc.n
  simp (disch := omega) only [Code.c78, EO, ↓EP, EQ, EM, ↓reduceIte, Int.reduceAdd, Int.reduceEq, Int.reduceLE, Int.reduceLT, Int.reduceMul, Int.reduceNeg, Int.reducePow, Int.reduceSub, Int.reduceToNat, Nat.reduceAdd, Nat.reduceEqDiff, Nat.reduceLT, Nat.reduceLeDiff, Nat.reduceMul, reduceCtorEq, hn]
  refine h.hc.stn fun w1 h1 f1 => ?_
  have hml : ((m ++ p).length : Int) = (m.length : Int) + p.length := by simp
  rw [← hml] at h1
  have W1 := W0.hb_ hi h1 f1
  have hr1 := hr.fr (f1.mono (Q := hP hb (.slice RA (rest alg m).length rc)) fun b _ e => .inl e)
  have hal := h1.alg
  have hre := h1.rest
  clear W0 f1 hn
  simp (disch := omega) only [EO, ↓EP, EQ, EM, ↓reduceIte, Int.reduceAdd, Int.reduceEq, Int.reduceLE, Int.reduceLT, Int.reduceMul, Int.reduceNeg, Int.reducePow, Int.reduceSub, Int.reduceToNat, Nat.reduceAdd, Nat.reduceEqDiff, Nat.reduceLT, Nat.reduceLeDiff, Nat.reduceMul, reduceCtorEq, hal]
  refine blocksz_spec alg _ _ ?_
  generalize hL : (rest alg m).length = L at *
  have hrun : run alg m = runN alg (m ++ p) (m.length / blockI alg) := by rw [runN_app hd1]; rfl
  generalize hMd : m ++ p = M at *
  simp (disch := omega) only [EO, ↓EP, EQ, EM, ↓reduceIte, Int.reduceAdd, Int.reduceEq, Int.reduceLE, Int.reduceLT, Int.reduceMul, Int.reduceNeg, Int.reducePow, Int.reduceSub, Int.reduceToNat, Nat.reduceAdd, Nat.reduceEqDiff, Nat.reduceLT, Nat.reduceLeDiff, Nat.reduceMul, reduceCtorEq, W_joinT, hre]
  have hM : M.length = m.length + p.length := by rw [← hMd]; simp
  refine join_cut (fun ρ' w' => ∃ (j : Nat) (A' : Option Addr) (c' : Nat) (X : Value), ρ' 1 = .slice A' (M.length - j * blockI alg) c' ∧ j * blockI alg ≤ M.length ∧ M.length - j * blockI alg ≤ c' ∧ Wr w w' hb (.slice RA L rc) alg (runN alg M j) X M.length X [] ∧ RO .u8 w' A' (M.drop (j * blockI alg)) (hP hb (.slice RA L rc))) ?_ ?_
  · intro N hN
    by_cases hL0 : L = 0
    · subst hL0
      simp (disch := omega) only [EO, ↓EP, EQ, EM, ↓reduceIte, Int.reduceAdd, Int.reduceEq, Int.reduceLE, Int.reduceLT, Int.reduceMul, Int.reduceNeg, Int.reducePow, Int.reduceSub, Int.reduceToNat, Nat.reduceAdd, Nat.reduceEqDiff, Nat.reduceLT, Nat.reduceLeDiff, Nat.reduceMul, reduceCtorEq, W_join, hre]
      refine hN _ _ ⟨m.length / blockI alg, A, c, .slice RA 0 rc, ?_, by omega, by omega, ?_, ?_⟩
      · simp (disch := omega) only [EO, ↓EP, EQ, EM, ↓reduceIte, Int.reduceAdd, Int.reduceEq, Int.reduceLE, Int.reduceLT, Int.reduceMul, Int.reduceNeg, Int.reducePow, Int.reduceSub, Int.reduceToNat, Nat.reduceAdd, Nat.reduceEqDiff, Nat.reduceLT, Nat.reduceLeDiff, Nat.reduceMul, reduceCtorEq]
        congr 1; omega
      · rw [hrun] at W1
        rwa [List.length_eq_zero_iff.1 hL] at W1
      · have e : M.drop (m.length / blockI alg * blockI alg) = p := by
          rw [← hMd, show m.length / blockI alg * blockI alg = m.length by omega]; simp
        rw [e]; exact hr1
    · obtain ⟨k, hk, hk1, hk2⟩ : ∃ k : Nat, (if (blockI alg : Int) - (L : Int) < (p.length : Int) then (blockI alg : Int) - (L : Int) else (p.length : Int)) = (k : Int) ∧ k ≤ p.length ∧ ((L + p.length < blockI alg ∧ k = p.length) ∨ (blockI alg ≤ L + p.length ∧ L + k = blockI alg)) := by
        refine ⟨min p.length (blockI alg - L), ?_, by omega, by omega⟩
        split <;> omega
      simp (disch := omega) only [EO, ↓EP, EQ, EM, ↓reduceIte, Int.reduceAdd, Int.reduceEq, Int.reduceLE, Int.reduceLT, Int.reduceMul, Int.reduceNeg, Int.reducePow, Int.reduceSub, Int.reduceToNat, Nat.reduceAdd, Nat.reduceEqDiff, Nat.reduceLT, Nat.reduceLeDiff, Nat.reduceMul, reduceCtorEq, W_join, hre, hk]
      intro m1
      have W2 : Wr w (w1.drewN (1 + m1)) hb (.slice RA L rc) alg (run alg m) (.slice RA L rc) M.length (.slice RA L rc) (rest alg m) := W1.drewN (1 + m1)
      have hr2 : RO .u8 (w1.drewN (1 + m1)) A p (hP hb (.slice RA L rc)) := hr1.fr (Fr.drewN w1 (1 + m1) _)
      have hkl : (p.take k).length = k := by rw [List.length_take]; omega
      refine app_num W2.sl hkl (hr2.take k).rd (by omega) (by omega) fun v w3 a3 => ?_
      have W3 := W2.apd W2.hc.blk.lt a3
      have hr3 := hr2.fr (a3.fr.mono (Q := hP hb (.slice RA L rc)) fun b _ e => .inr e)
      obtain ⟨VA, vc, rfl, hvc, hVd, hVb⟩ := W3.sl.read
      have hvl : (rest alg m ++ p.take k).length = L + k := by rw [List.length_append, hkl, hL]
      rw [hvl] at hvc W3
      simp (disch := omega) only [EO, ↓EP, EQ, EM, ↓reduceIte, Int.reduceAdd, Int.reduceEq, Int.reduceLE, Int.reduceLT, Int.reduceMul, Int.reduceNeg, Int.reducePow, Int.reduceSub, Int.reduceToNat, Nat.reduceAdd, Nat.reduceEqDiff, Nat.reduceLT, Nat.reduceLeDiff, Nat.reduceMul, reduceCtorEq, W_join, hvl]
      intro m3
      refine (W3.drewN m3).hc.str fun w4 h4 f4 => ?_
      have W4 := (W3.drewN m3).hb_ hi h4 f4
      have hr4 := (hr3.fr (Fr.drewN w3 m3 _)).fr (f4.mono (Q := hP hb (.slice RA L rc)) fun b _ e => .inl e)
      clear W2 hr2 a3 W3 hr3 h4 f4 W1 hr1
      have hre4 := W4.hc.rest
      simp (disch := omega) only [EO, ↓EP, EQ, EM, ↓reduceIte, Int.reduceAdd, Int.reduceEq, Int.reduceLE, Int.reduceLT, Int.reduceMul, Int.reduceNeg, Int.reducePow, Int.reduceSub, Int.reduceToNat, Nat.reduceAdd, Nat.reduceEqDiff, Nat.reduceLT, Nat.reduceLeDiff, Nat.reduceMul, reduceCtorEq, W_join, hre4]
      intro m4
      have W5 := W4.drewN m4
      have hr5 := hr4.fr (Fr.drewN w4 m4 _)
      by_cases hfull : ((L + k : Nat) : Int) < (blockI alg : Int)
      · rw [if_pos hfull]
        have hkp : k = p.length := by omega
        have hj : M.length / blockI alg = m.length / blockI alg := run_of ha1 ha4 (by omega) (by omega)
        have e1 : run alg M = run alg m := by rw [hrun, run, hj]
        have e2 : rest alg M = rest alg m ++ p.take k := by
          rw [rest, hj, ← hMd, List.drop_append_of_le_length hd1, hkp, List.take_length]; rfl
        rw [← e1, ← e2] at W5
        exact fin _ _ W5
      · rw [if_neg hfull]
        have hLk : L + k = blockI alg := by omega
        have hpart : rest alg m ++ p.take k = part (blockI alg) M (m.length / blockI alg) := by
          rw [part, ← hMd, List.drop_append_of_le_length hd1]
          have : (List.drop (m.length / blockI alg * blockI alg) m).length = L := by simp; omega
          rw [List.take_append, this, List.take_of_length_le (l := List.drop (m.length / blockI alg * blockI alg) m) (by rw [this]; omega), show blockI alg - L = k by omega]; rfl
        rw [hLk] at W5
        rw [hLk]
        refine block_spec W5.hc ha1 ha4 W5.tb W5.sl.rdOf (by rw [hvl, hLk]) _ fun w6 h6 f6 => ?_
        have W6 := (W5.hb_ hi h6 f6).out
        have hr6 := hr5.fr (f6.mono (Q := hP hb (.slice RA L rc)) fun b _ e => .inl e)
        simp (disch := omega) only [EO, ↓EP, EQ, EM, ↓reduceIte, Int.reduceAdd, Int.reduceEq, Int.reduceLE, Int.reduceLT, Int.reduceMul, Int.reduceNeg, Int.reducePow, Int.reduceSub, Int.reduceToNat, Nat.reduceAdd, Nat.reduceEqDiff, Nat.reduceLT, Nat.reduceLeDiff, Nat.reduceMul, reduceCtorEq]
        refine W6.hc.str fun w7 h7 f7 => ?_
        have W7 := W6.hb_ hi h7 f7
        have hr7 := hr6.fr (f7.mono (Q := hP hb (.slice RA L rc)) fun b _ e => .inl e)
        have hqs : (m.length / blockI alg + 1) * blockI alg = m.length / blockI alg * blockI alg + blockI alg := by rw [Nat.add_mul, Nat.one_mul]
        simp (disch := omega) only [EO, ↓EP, EQ, EM, ↓reduceIte, Int.reduceAdd, Int.reduceEq, Int.reduceLE, Int.reduceLT, Int.reduceMul, Int.reduceNeg, Int.reducePow, Int.reduceSub, Int.reduceToNat, Nat.reduceAdd, Nat.reduceEqDiff, Nat.reduceLT, Nat.reduceLeDiff, Nat.reduceMul, reduceCtorEq]
        refine hN _ _ ⟨m.length / blockI alg + 1, subA A c k 1, c - k, .slice none 0 0, ?_, by omega, by omega, ?_, ?_⟩
        · simp (disch := omega) only [EO, ↓EP, EQ, EM, ↓reduceIte, Int.reduceAdd, Int.reduceEq, Int.reduceLE, Int.reduceLT, Int.reduceMul, Int.reduceNeg, Int.reducePow, Int.reduceSub, Int.reduceToNat, Nat.reduceAdd, Nat.reduceEqDiff, Nat.reduceLT, Nat.reduceLeDiff, Nat.reduceMul, reduceCtorEq, hk]
          have e3 : p.length - k = M.length - (m.length / blockI alg + 1) * blockI alg := by omega
          rw [e3]
        · rw [runN_succ, ← hrun, ← hpart]; exact W7
        · have e : M.drop ((m.length / blockI alg + 1) * blockI alg) = p.drop k := by
            rw [← hMd, hqs, show m.length / blockI alg * blockI alg + blockI alg = m.length + k by omega, List.drop_append]
            simp
          rw [e]
          exact hr7.subA c k hpc
  · rintro ρ' w' hf ⟨j, A', c', X, hs1, hj1, hj2, W2, hr2⟩
    have q0 : ρ' 0 = .pointer (some ⟨hb, 0, none⟩) := by rw [hf 0 rfl]; simp only [↓EP, EQ, EM, ↓reduceIte, Int.reduceAdd, Int.reduceEq, Int.reduceLE, Int.reduceLT, Int.reduceMul, Int.reduceNeg, Int.reducePow, Int.reduceSub, Int.reduceToNat, Nat.reduceAdd, Nat.reduceEqDiff, Nat.reduceLT, Nat.reduceLeDiff, Nat.reduceMul, reduceCtorEq]
    have q5 : ρ' 5 = .int .i64 (blockI alg) := by rw [hf 5 rfl]; simp only [↓EP, EQ, EM, ↓reduceIte, Int.reduceAdd, Int.reduceEq, Int.reduceLE, Int.reduceLT, Int.reduceMul, Int.reduceNeg, Int.reducePow, Int.reduceSub, Int.reduceToNat, Nat.reduceAdd, Nat.reduceEqDiff, Nat.reduceLT, Nat.reduceLeDiff, Nat.reduceMul, reduceCtorEq]
    clear hf
    simp only [↓EP, EQ, EM, ↓reduceIte, Int.reduceAdd, Int.reduceEq, Int.reduceLE, Int.reduceLT, Int.reduceMul, Int.reduceNeg, Int.reducePow, Int.reduceSub, Int.reduceToNat, Nat.reduceAdd, Nat.reduceEqDiff, Nat.reduceLT, Nat.reduceLeDiff, Nat.reduceMul, reduceCtorEq]
    refine loop_inv (fun t ρ w' => ∃ (j : Nat) (A' : Option Addr) (c' : Nat), ρ 1 = .slice A' (M.length - j * blockI alg) c' ∧ j * blockI alg ≤ M.length ∧ M.length - j * blockI alg ≤ c' ∧ t = M.length - j * blockI alg ∧ Wr w w' hb (.slice RA L rc) alg (runN alg M j) X M.length X [] ∧ RO .u8 w' A' (M.drop (j * blockI alg)) (hP hb (.slice RA L rc))) _ ⟨j, A', c', hs1, hj1, hj2, rfl, W2, hr2⟩ ?_
    clear hs1 hj1 hj2 W2 hr2 w' A' c' j
    rintro t ρ2 w2 hf ⟨j, A', c', hs1, hj1, hj2, rfl, W2, hr2⟩ N hN
    have r0 : ρ2 0 = .pointer (some ⟨hb, 0, none⟩) := by rw [hf 0 rfl]; exact q0
    have r5 : ρ2 5 = .int .i64 (blockI alg) := by rw [hf 5 rfl]; exact q5
    clear hf
    have hj3 : ((M.length - j * blockI alg : Nat) : Int) = (M.length : Int) - (j * blockI alg : Nat) := by omega
    have hjs : (j + 1) * blockI alg = j * blockI alg + blockI alg := by rw [Nat.add_mul, Nat.one_mul]
    have hdl : (M.drop (j * blockI alg)).length = M.length - j * blockI alg := by simp
    generalize hR : M.length - j * blockI alg = R at *
    by_cases hge : (blockI alg : Int) ≤ (R : Int)
    · simp (disch := omega) only [EO, ↓EP, EQ, EM, ↓reduceIte, Int.reduceAdd, Int.reduceEq, Int.reduceLE, Int.reduceLT, Int.reduceMul, Int.reduceNeg, Int.reducePow, Int.reduceSub, Int.reduceToNat, Nat.reduceAdd, Nat.reduceEqDiff, Nat.reduceLT, Nat.reduceLeDiff, Nat.reduceMul, reduceCtorEq, hs1, r0, r5]
      refine block_spec W2.hc ha1 ha4 W2.tb (p := part (blockI alg) M j) (hr2.take _).rd (by rw [part, List.length_take, hdl]; omega) _ fun w6 h6 f6 => ?_
      have W6 := W2.hb_ hi h6 f6
      have hr6 := hr2.fr (f6.mono (Q := hP hb (.slice RA L rc)) fun b _ e => .inl e)
      simp (disch := omega) only [EO, ↓EP, EQ, EM, ↓reduceIte, Int.reduceAdd, Int.reduceEq, Int.reduceLE, Int.reduceLT, Int.reduceMul, Int.reduceNeg, Int.reducePow, Int.reduceSub, Int.reduceToNat, Nat.reduceAdd, Nat.reduceEqDiff, Nat.reduceLT, Nat.reduceLeDiff, Nat.reduceMul, reduceCtorEq, hs1, r5]
      refine hN (M.length - (j + 1) * blockI alg) _ _ (by omega) ⟨j + 1, subA A' c' (blockI alg) 1, c' - blockI alg, ?_, by omega, by omega, rfl, ?_, ?_⟩
      · simp (disch := omega) only [EO, ↓EP, EQ, EM, ↓reduceIte, Int.reduceAdd, Int.reduceEq, Int.reduceLE, Int.reduceLT, Int.reduceMul, Int.reduceNeg, Int.reducePow, Int.reduceSub, Int.reduceToNat, Nat.reduceAdd, Nat.reduceEqDiff, Nat.reduceLT, Nat.reduceLeDiff, Nat.reduceMul, reduceCtorEq, hs1, r5]
        have e3 : R - blockI alg = M.length - (j + 1) * blockI alg := by omega
        rw [e3]
      · rw [runN_succ]; exact W6
      · have := hr6.subA c' (blockI alg) (by omega)
        rwa [List.drop_drop, show j * blockI alg + blockI alg = (j + 1) * blockI alg by omega] at this
    · have hjM : M.length / blockI alg = j := run_of ha1 ha4 hj1 (by omega)
      have e1 : run alg M = runN alg M j := by rw [run, hjM]
      have e2 : rest alg M = M.drop (j * blockI alg) := by rw [rest, hjM]
      rw [← e1] at W2
      rw [← e2] at hr2 hdl
      clear hN
      by_cases h0 : R = 0
      · subst h0
        simp (disch := omega) only [EO, ↓EP, EQ, EM, ↓reduceIte, Int.reduceAdd, Int.reduceEq, Int.reduceLE, Int.reduceLT, Int.reduceMul, Int.reduceNeg, Int.reducePow, Int.reduceSub, Int.reduceToNat, Nat.reduceAdd, Nat.reduceEqDiff, Nat.reduceLT, Nat.reduceLeDiff, Nat.reduceMul, reduceCtorEq, W_join, hs1, r0, r5]
        refine fin X _ ?_
        rw [List.length_eq_zero_iff.1 hdl]
        exact W2
      · simp (disch := omega) only [EO, ↓EP, EQ, EM, ↓reduceIte, Int.reduceAdd, Int.reduceEq, Int.reduceLE, Int.reduceLT, Int.reduceMul, Int.reduceNeg, Int.reducePow, Int.reduceSub, Int.reduceToNat, Nat.reduceAdd, Nat.reduceEqDiff, Nat.reduceLT, Nat.reduceLeDiff, Nat.reduceMul, reduceCtorEq, W_join, hs1, r0, r5]
        refine al_k (nums .u8 (List.replicate (blockI alg) 0)) (by rw [madeCells_list, nums_replicate]) fun w3 n3 => ?_
        have f3 := n3.fr nob
        have hnsl : Sl .u8 w3 (.slice (some ⟨w2.heap.size, 0, none⟩) 0 (blockI alg)) [] := .inr ⟨w2.heap.size, List.replicate (blockI alg) 0, by simp, by simpa using n3.blk⟩
        have W3 : Wr w w3 hb (.slice RA L rc) alg (run alg M) X M.length (.slice (some ⟨w2.heap.size, 0, none⟩) 0 (blockI alg)) [] :=
          ⟨W2.hc.fr f3 (fun x => x), hnsl, fun b e => by cases e; have z1 := W2.fr.size; have z2 := W2.tb.lt; have z3 := W2.hc.blk.lt; exact ⟨z2, by show w2.heap.size ≠ hb; omega, .inr z1⟩, W2.tb.fr f3 (fun x => x) (fun x => x), W2.fr.trans f3 fun b _ e => e.elim⟩
        have hr3 := hr2.fr (f3.mono (Q := hP hb (.slice RA L rc)) fun b _ e => e.elim)
        simp (disch := omega) only [EO, ↓EP, EQ, EM, ↓reduceIte, Int.reduceAdd, Int.reduceEq, Int.reduceLE, Int.reduceLT, Int.reduceMul, Int.reduceNeg, Int.reducePow, Int.reduceSub, Int.reduceToNat, Nat.reduceAdd, Nat.reduceEqDiff, Nat.reduceLT, Nat.reduceLeDiff, Nat.reduceMul, reduceCtorEq, hs1, r0, r5]
        refine app_num W3.sl hdl hr3.rd (by rw [List.length_nil]; omega) (by omega) fun v w4 a4 => ?_
        have W4 := W3.apd W3.hc.blk.lt a4
        rw [List.nil_append] at W4
        obtain ⟨VA, vc, rfl, hvc, hVd, hVb⟩ := W4.sl.read
        simp (disch := omega) only [EO, ↓EP, EQ, EM, ↓reduceIte, Int.reduceAdd, Int.reduceEq, Int.reduceLE, Int.reduceLT, Int.reduceMul, Int.reduceNeg, Int.reducePow, Int.reduceSub, Int.reduceToNat, Nat.reduceAdd, Nat.reduceEqDiff, Nat.reduceLT, Nat.reduceLeDiff, Nat.reduceMul, reduceCtorEq, hs1, r0, r5]
        refine W4.hc.str fun w5 h5 f5 => ?_
        simp (disch := omega) only [EO, ↓EP, EQ, EM, ↓reduceIte, Int.reduceAdd, Int.reduceEq, Int.reduceLE, Int.reduceLT, Int.reduceMul, Int.reduceNeg, Int.reducePow, Int.reduceSub, Int.reduceToNat, Nat.reduceAdd, Nat.reduceEqDiff, Nat.reduceLT, Nat.reduceLeDiff, Nat.reduceMul, reduceCtorEq, hs1, r0, r5]
        exact fin _ _ (W4.hb_ hi h5 f5)
end Go.Proofs.YtcgplgpdcfocpaaDoor.Spec
end
section
set_option linter.unusedVariables false
set_option linter.unusedSimpArgs false
namespace Go.Proofs.YtcgplgpdcfocpaaDoor.Spec
open Go Go.RowKit Go.Proofs Go.Proofs.YtcgplgpdcfocpaaDoor.Eng Go.Proofs.YtcgplgpdcfocpaaDoor.Code
set_option maxRecDepth 100000
attribute [local irreducible] one
theorem fillH (a : Int) : fillL [(0, 1), (1, 8), (9, 8), (17, 1), (18, 1)] #[(.int .i64 0), (.int .u32 0), (.int .u32 0), (.int .u32 0), (.int .u32 0), (.int .u32 0), (.int .u32 0), (.int .u32 0), (.int .u32 0), (.int .u64 0), (.int .u64 0), (.int .u64 0), (.int .u64 0), (.int .u64 0), (.int .u64 0), (.int .u64 0), (.int .u64 0), (.slice none 0 0), (.int .i64 0)] [(0, .int .i64 a)] = some (hc a (zs 8) (zs 8) (.slice none 0 0) 0).toArray := by kernel_rfl
theorem fill5 (a0 a1 a2 a3 a4 : Int) : fillL [(0, 1), (1, 1), (2, 1), (3, 1), (4, 1), (5, 1), (6, 1), (7, 1)] (Array.replicate 8 (Value.int .u32 0)) [(0, .int .u32 a0), (1, .int .u32 a1), (2, .int .u32 a2), (3, .int .u32 a3), (4, .int .u32 a4)] = some (nums .u32 [a0, a1, a2, a3, a4, 0, 0, 0]).toArray := by kernel_rfl
theorem run_nil (alg : Int) : run alg [] = st0 alg := by
  unfold run; rw [List.length_nil, Nat.zero_div, runN, rounds]
theorem rest_nil (alg : Int) : rest alg [] = [] := by simp [rest]
theorem new_spec {w : World} (alg : Int) (hT : 3 < w.heap.size) (K : Value → World → Prop)
    (hK : 1 ≤ alg → alg ≤ 4 → ∀ w', w.heap.size < w'.heap.size → Hsh w' w.heap.size (.slice none 0 0) alg [] → Fr w w' nob → K (.tuple #[.pointer (some ⟨w.heap.size, 0, none⟩), .int .i64 0]) w')
    (hK' : (alg < 1 ∨ 4 < alg) → ∀ w', Fr w w' nob → K (.tuple #[.pointer none, .int .i64 1]) w') : callK Tryd.prog 77 [.int .i64 alg] w K := by
  refine call_of Tryd.func77 Code.h77 (by simp [Code.c77]) ?_
  simp only [Code.c77, ↓EP, EQ, EM, ↓reduceIte, Int.reduceAdd, Int.reduceEq, Int.reduceLE, Int.reduceLT, Int.reduceMul, Int.reduceNeg, Int.reducePow, Int.reduceSub, Int.reduceToNat, Nat.reduceAdd, Nat.reduceEqDiff, Nat.reduceLT, Nat.reduceLeDiff, Nat.reduceMul, reduceCtorEq]
  refine ⟨_, fillH alg, ?_⟩
  simp only [↓EP, EQ, EM, ↓reduceIte, Int.reduceAdd, Int.reduceEq, Int.reduceLE, Int.reduceLT, Int.reduceMul, Int.reduceNeg, Int.reducePow, Int.reduceSub, Int.reduceToNat, Nat.reduceAdd, Nat.reduceEqDiff, Nat.reduceLT, Nat.reduceLeDiff, Nat.reduceMul, reduceCtorEq]
  refine al_k (hc alg (zs 8) (zs 8) (.slice none 0 0) 0) (by simp) fun w1 n1 => ?_
  have f1 := n1.fr nob
  have s1 := n1.size
  have H1 : HC w1 w.heap.size alg (zs 8) (zs 8) (.slice none 0 0) 0 := ⟨n1.blk, rfl, rfl⟩
  have fin : ∀ ws vs w', 1 ≤ alg → alg ≤ 4 → st0 alg = (ws, vs) → HC w' w.heap.size alg ws vs (.slice none 0 0) 0 → Fr w1 w' (fun b => b = w.heap.size) → K (.tuple #[.pointer (some ⟨w.heap.size, 0, none⟩), .int .i64 0]) w' := by
    intro ws vs w' a1 a4 e h f
    have hs := f.size
    refine hK a1 a4 w' (by omega) ⟨?_, a1, a4, ?_, hT, fun b e => by cases e⟩ (f1.trans f fun b hb e => ?_)
    · rw [run_nil, e]; exact h
    · rw [rest_nil]; exact Sl.nil _ _
    · omega
  have c : alg = 1 ∨ alg = 2 ∨ alg = 3 ∨ alg = 4 ∨ (alg < 1 ∨ 4 < alg) := by omega
  rcases c with rfl | rfl | rfl | rfl | c
  · simp only [↓EP, EQ, EM, ↓reduceIte, Int.reduceAdd, Int.reduceEq, Int.reduceLE, Int.reduceLT, Int.reduceMul, Int.reduceNeg, Int.reducePow, Int.reduceSub, Int.reduceToNat, Nat.reduceAdd, Nat.reduceEqDiff, Nat.reduceLT, Nat.reduceLeDiff, Nat.reduceMul, reduceCtorEq, W_join]
    refine ⟨_, fill5 _ _ _ _ _, ?_⟩
    simp only [↓EP, EQ, EM, ↓reduceIte, Int.reduceAdd, Int.reduceEq, Int.reduceLE, Int.reduceLT, Int.reduceMul, Int.reduceNeg, Int.reducePow, Int.reduceSub, Int.reduceToNat, Nat.reduceAdd, Nat.reduceEqDiff, Nat.reduceLT, Nat.reduceLeDiff, Nat.reduceMul, reduceCtorEq]
    refine H1.stw rfl fun w2 h2 f2 => ?_
    simp only [↓EP, EQ, EM, ↓reduceIte, Int.reduceAdd, Int.reduceEq, Int.reduceLE, Int.reduceLT, Int.reduceMul, Int.reduceNeg, Int.reducePow, Int.reduceSub, Int.reduceToNat, Nat.reduceAdd, Nat.reduceEqDiff, Nat.reduceLT, Nat.reduceLeDiff, Nat.reduceMul, reduceCtorEq]
    exact fin _ _ _ (by omega) (by omega) rfl h2 f2
  · simp only [↓EP, EQ, EM, ↓reduceIte, Int.reduceAdd, Int.reduceEq, Int.reduceLE, Int.reduceLT, Int.reduceMul, Int.reduceNeg, Int.reducePow, Int.reduceSub, Int.reduceToNat, Nat.reduceAdd, Nat.reduceEqDiff, Nat.reduceLT, Nat.reduceLeDiff, Nat.reduceMul, reduceCtorEq, W_join]
    refine ⟨_, fill8 _ _ _ _ _ _ _ _ _, ?_⟩
    simp only [↓EP, EQ, EM, ↓reduceIte, Int.reduceAdd, Int.reduceEq, Int.reduceLE, Int.reduceLT, Int.reduceMul, Int.reduceNeg, Int.reducePow, Int.reduceSub, Int.reduceToNat, Nat.reduceAdd, Nat.reduceEqDiff, Nat.reduceLT, Nat.reduceLeDiff, Nat.reduceMul, reduceCtorEq]
    refine H1.stw rfl fun w2 h2 f2 => ?_
    simp only [↓EP, EQ, EM, ↓reduceIte, Int.reduceAdd, Int.reduceEq, Int.reduceLE, Int.reduceLT, Int.reduceMul, Int.reduceNeg, Int.reducePow, Int.reduceSub, Int.reduceToNat, Nat.reduceAdd, Nat.reduceEqDiff, Nat.reduceLT, Nat.reduceLeDiff, Nat.reduceMul, reduceCtorEq]
    exact fin _ _ _ (by omega) (by omega) rfl h2 f2
  · simp only [↓EP, EQ, EM, ↓reduceIte, Int.reduceAdd, Int.reduceEq, Int.reduceLE, Int.reduceLT, Int.reduceMul, Int.reduceNeg, Int.reducePow, Int.reduceSub, Int.reduceToNat, Nat.reduceAdd, Nat.reduceEqDiff, Nat.reduceLT, Nat.reduceLeDiff, Nat.reduceMul, reduceCtorEq, W_join]
    refine ⟨_, fill8 _ _ _ _ _ _ _ _ _, ?_⟩
    simp only [↓EP, EQ, EM, ↓reduceIte, Int.reduceAdd, Int.reduceEq, Int.reduceLE, Int.reduceLT, Int.reduceMul, Int.reduceNeg, Int.reducePow, Int.reduceSub, Int.reduceToNat, Nat.reduceAdd, Nat.reduceEqDiff, Nat.reduceLT, Nat.reduceLeDiff, Nat.reduceMul, reduceCtorEq]
    refine H1.stv rfl fun w2 h2 f2 => ?_
    simp only [↓EP, EQ, EM, ↓reduceIte, Int.reduceAdd, Int.reduceEq, Int.reduceLE, Int.reduceLT, Int.reduceMul, Int.reduceNeg, Int.reducePow, Int.reduceSub, Int.reduceToNat, Nat.reduceAdd, Nat.reduceEqDiff, Nat.reduceLT, Nat.reduceLeDiff, Nat.reduceMul, reduceCtorEq]
    exact fin _ _ _ (by omega) (by omega) rfl h2 f2
  · simp only [↓EP, EQ, EM, ↓reduceIte, Int.reduceAdd, Int.reduceEq, Int.reduceLE, Int.reduceLT, Int.reduceMul, Int.reduceNeg, Int.reducePow, Int.reduceSub, Int.reduceToNat, Nat.reduceAdd, Nat.reduceEqDiff, Nat.reduceLT, Nat.reduceLeDiff, Nat.reduceMul, reduceCtorEq, W_join]
    refine ⟨_, fill8 _ _ _ _ _ _ _ _ _, ?_⟩
    simp only [↓EP, EQ, EM, ↓reduceIte, Int.reduceAdd, Int.reduceEq, Int.reduceLE, Int.reduceLT, Int.reduceMul, Int.reduceNeg, Int.reducePow, Int.reduceSub, Int.reduceToNat, Nat.reduceAdd, Nat.reduceEqDiff, Nat.reduceLT, Nat.reduceLeDiff, Nat.reduceMul, reduceCtorEq]
    refine H1.stv rfl fun w2 h2 f2 => ?_
    simp only [↓EP, EQ, EM, ↓reduceIte, Int.reduceAdd, Int.reduceEq, Int.reduceLE, Int.reduceLT, Int.reduceMul, Int.reduceNeg, Int.reducePow, Int.reduceSub, Int.reduceToNat, Nat.reduceAdd, Nat.reduceEqDiff, Nat.reduceLT, Nat.reduceLeDiff, Nat.reduceMul, reduceCtorEq]
    exact fin _ _ _ (by omega) (by omega) rfl h2 f2
  · simp (disch := omega) only [EO, ↓EP, EQ, EM, ↓reduceIte, Int.reduceAdd, Int.reduceEq, Int.reduceLE, Int.reduceLT, Int.reduceMul, Int.reduceNeg, Int.reducePow, Int.reduceSub, Int.reduceToNat, Nat.reduceAdd, Nat.reduceEqDiff, Nat.reduceLT, Nat.reduceLeDiff, Nat.reduceMul, reduceCtorEq, W_join]
    exact hK' c _ f1
end Go.Proofs.YtcgplgpdcfocpaaDoor.Spec
end
section
set_option linter.unusedVariables false
set_option linter.unusedSimpArgs false
namespace Go.Proofs.YtcgplgpdcfocpaaDoor.Spec
open Go Go.RowKit Go.Proofs Go.Proofs.YtcgplgpdcfocpaaDoor.Eng Go.Proofs.YtcgplgpdcfocpaaDoor.Code
set_option maxRecDepth 100000
attribute [local irreducible] one
def zeros1 (bs L : Nat) : Nat := if L + 9 ≤ bs then bs - 9 - L else 2 * bs - 9 - L
def zeros2 (bs L : Nat) : Nat := if bs = 128 ∧ 112 ≤ L ∧ L + 9 ≤ 128 then 128 else 0
def lenB (n : Nat) (i : Nat) : Int := IntKind.u8.wrap ((IntKind.u64.wrap (8 * (n : Int))).fdiv (2 ^ (56 - 8 * i)))
def tailF (alg : Int) (m : List Int) : List Int :=
  rest alg m ++ [128] ++ List.replicate (zeros1 (blockI alg) (rest alg m).length) 0 ++ List.replicate (zeros2 (blockI alg) (rest alg m).length) 0 ++ (List.range 8).map (lenB m.length)
def last (alg : Int) (m : List Int) : List Int × List Int :=
  rounds (fun j s => mix alg s (part (blockI alg) (tailF alg m) j)) ((tailF alg m).length / blockI alg) (run alg m)
def w4 (x : Int) : List Int := [IntKind.u8.wrap (x.fdiv 16777216), IntKind.u8.wrap (x.fdiv 65536), IntKind.u8.wrap (x.fdiv 256), IntKind.u8.wrap x]
def v8 (x : Int) : List Int := (List.range 8).map fun k => IntKind.u8.wrap (x.fdiv (2 ^ (56 - 8 * k)))
def outF (alg : Int) (s : List Int × List Int) : List Int :=
  if blockI alg = 64 then (List.range 8).flatMap fun (i : Nat) => w4 (at' s.1 (i : Int)) else (List.range 8).flatMap fun (i : Nat) => v8 (at' s.2 (i : Int))
def dig (alg : Int) (m : List Int) : List Int := (outF alg (last alg m)).take (sizeI alg).toNat
theorem tail_len {alg : Int} (a1 : 1 ≤ alg) (a4 : alg ≤ 4) (m : List Int) : (tailF alg m).length % blockI alg = 0 ∧ (tailF alg m).length ≤ 400 := by
  have hb := blockI_or a1 a4
  have hl := rest_len a1 a4 m
  have hd := div_facts a1 a4 m
  simp only [tailF, List.length_append, List.length_replicate, List.length_map, List.length_range, List.length_cons, List.length_nil]
  generalize (rest alg m).length = L at *
  generalize m.length / blockI alg * blockI alg = Q at *
  generalize blockI alg = bs at *
  unfold zeros1 zeros2
  rcases hb with rfl | rfl <;> split <;> split <;> omega
theorem zero_no {bs L z : Nat} (hb : bs = 64 ∨ bs = 128) (hL : L < bs) (hz : z < zeros1 bs L) : (((L + 1 + z : Nat) : Int) % (bs : Int) = (bs : Int) - 8) = False := by
  apply eq_false
  unfold zeros1 at hz
  rcases hb with rfl | rfl <;> split at hz <;> omega
theorem zero_yes {bs L : Nat} (hb : bs = 64 ∨ bs = 128) (hL : L < bs) : (((L + 1 + zeros1 bs L : Nat) : Int) % (bs : Int) = (bs : Int) - 8) = True := by
  apply eq_true
  unfold zeros1
  rcases hb with rfl | rfl <;> split <;> omega
theorem step_le {bs N j : Nat} (h : bs = 64 ∨ bs = 128) (hN : N % bs = 0) (hj : j * bs < N) : j * bs + bs ≤ N := by rcases h with rfl | rfl <;> omega
theorem step_end {bs N j : Nat} (h : bs = 64 ∨ bs = 128) (hj : j * bs = N) : N / bs = j := by rcases h with rfl | rfl <;> omega
theorem block_spec' {w : World} {hb : Nat} {alg : Int} {ws vs : List Int} {rv : Value} {n : Int} (h : HC w hb alg ws vs rv n) (ha : 1 ≤ alg) (ha' : alg ≤ 4) (hT : Tb w) {A : Option Addr} {c k : Nat} (hk : k = blockI alg) {p : List Int} (hr : Rd w A (nums .u8 p)) (hp : p.length = blockI alg) (K : Value → World → Prop)
    (hK : ∀ w', HC w' hb alg (mix alg (ws, vs) p).1 (mix alg (ws, vs) p).2 rv n → Fr w w' (fun b => b = hb) → K (.tuple #[]) w') : callK Tryd.prog 102 [.pointer (some ⟨hb, 0, none⟩), .slice A k c] w K := by
  subst hk; exact block_spec h ha ha' hT hr hp K hK
theorem hc_one {alg : Int} {ws vs : List Int} {rv : Value} {n : Int} (hr : rv.oneCell' = true) : ∀ u ∈ hc alg ws vs rv n, u.oneCell' = true := by
  intro u hu
  simp only [hc, List.mem_cons, List.mem_append, List.not_mem_nil, or_false] at hu
  rcases hu with rfl | hu | hu | rfl | rfl
  · rfl
  · exact nums_one _ _ u hu
  · exact nums_one _ _ u hu
  · exact hr
  · rfl
theorem readn {k : IntKind} {w : World} {v : Value} {l : List Int} (h : Sl k w v l) {n : Nat} (hn : l.length = n) : ∃ A c, v = .slice A n c ∧ n ≤ c ∧ Rd w A (nums k l) := by
  subst hn; obtain ⟨A, c, e, h1, h2, _⟩ := h.read; exact ⟨A, c, e, h1, h2⟩
theorem flat_len {f : Nat → List Int} {n : Nat} (h : ∀ i, (f i).length = n) : ∀ k, ((List.range k).flatMap f).length = k * n
  | 0 => by simp
  | k + 1 => by rw [List.range_succ, List.flatMap_append, List.length_append, flat_len h k]; simp [h]; rw [Nat.add_mul]; omega
theorem flat_succ (f : Nat → List Int) (k : Nat) : (List.range (k + 1)).flatMap f = (List.range k).flatMap f ++ f k := by
  rw [List.range_succ, List.flatMap_append]; simp
theorem map_succ (f : Nat → Int) (k : Nat) : (List.range (k + 1)).map f = (List.range k).map f ++ [f k] := by
  rw [List.range_succ, List.map_append]; simp
theorem out_len {alg : Int} (a1 : 1 ≤ alg) (a4 : alg ≤ 4) (s : List Int × List Int) : (sizeI alg).toNat ≤ (outF alg s).length ∧ (outF alg s).length ≤ 64 := by
  have h1 : ∀ i : Nat, (w4 (at' s.1 (i : Int))).length = 4 := fun i => rfl
  have h2 : ∀ i : Nat, (v8 (at' s.2 (i : Int))).length = 8 := fun i => by simp [v8]
  have c : alg = 1 ∨ alg = 2 ∨ alg = 3 ∨ alg = 4 := by omega
  rcases c with rfl | rfl | rfl | rfl
  · rw [outF, if_pos (by decide), flat_len h1]; decide
  · rw [outF, if_pos (by decide), flat_len h1]; decide
  · rw [outF, if_neg (by decide), flat_len h2]; decide
  · rw [outF, if_neg (by decide), flat_len h2]; decide
set_option maxHeartbeats 4000000 in
theorem sum_spec {w : World} {hb : Nat} {rv : Value} {alg : Int} {m : List Int} (h : Hsh w hb rv alg m) (hT : Tb w) (hmx : m.length ≤ 16777216) (K : Value → World → Prop)
    (hK : ∀ A c w', (sizeI alg).toNat ≤ c → Sl .u8 w' (.slice A (sizeI alg).toNat c) (dig alg m) → (∀ b, blkOf (.slice A (sizeI alg).toNat c) = some b → w.heap.size ≤ b) → Fr w w' nob → K (.slice A (sizeI alg).toNat c) w') : callK Tryd.prog 79 [.pointer (some ⟨hb, 0, none⟩)] w K := by
  refine call_of Tryd.func79 Code.h79 (by simp [Code.c79]) ?_
  have ha1 := h.a1
  have ha4 := h.a4
  have hi := h.hi
  have hbs := blockI_or ha1 ha4
  have hlt := h.hc.blk.lt
  have hal := h.hc.alg
  have hre := h.hc.rest
  have hn := h.hc.n
  obtain ⟨hd1, hd2⟩ := div_facts ha1 ha4 m
  have hrl := rest_len ha1 ha4 m
  have hsz : 0 < sizeI alg ∧ sizeI alg ≤ 64 := by
    have c : alg = 1 ∨ alg = 2 ∨ alg = 3 ∨ alg = 4 := by omega
    rcases c with rfl | rfl | rfl | rfl <;> decide
  simp (disch := omega) only [Code.c79, EO, ↓EP, EQ, EM, ↓reduceIte, Int.reduceAdd, Int.reduceEq, Int.reduceLE, Int.reduceLT, Int.reduceMul, Int.reduceNeg, Int.reducePow, Int.reduceSub, Int.reduceToNat, Nat.reduceAdd, Nat.reduceEqDiff, Nat.reduceLT, Nat.reduceLeDiff, Nat.reduceMul, reduceCtorEq, hal]
  refine size_spec alg _ _ ?_
  simp (disch := omega) only [EO, ↓EP, EQ, EM, ↓reduceIte, Int.reduceAdd, Int.reduceEq, Int.reduceLE, Int.reduceLT, Int.reduceMul, Int.reduceNeg, Int.reducePow, Int.reduceSub, Int.reduceToNat, Nat.reduceAdd, Nat.reduceEqDiff, Nat.reduceLT, Nat.reduceLeDiff, Nat.reduceMul, reduceCtorEq, hal]
  refine h.hc.blk.ldAgg (hc_len h.hc.lw h.hc.lv) ?_
  simp (disch := omega) only [EO, ↓EP, EQ, EM, ↓reduceIte, Int.reduceAdd, Int.reduceEq, Int.reduceLE, Int.reduceLT, Int.reduceMul, Int.reduceNeg, Int.reducePow, Int.reduceSub, Int.reduceToNat, Nat.reduceAdd, Nat.reduceEqDiff, Nat.reduceLT, Nat.reduceLeDiff, Nat.reduceMul, reduceCtorEq, hal]
  refine al_k (hc 0 (zs 8) (zs 8) (.slice none 0 0) 0) (by kernel_rfl) fun w1 n1 => ?_
  simp (disch := omega) only [EO, ↓EP, EQ, EM, ↓reduceIte, Int.reduceAdd, Int.reduceEq, Int.reduceLE, Int.reduceLT, Int.reduceMul, Int.reduceNeg, Int.reducePow, Int.reduceSub, Int.reduceToNat, Nat.reduceAdd, Nat.reduceEqDiff, Nat.reduceLT, Nat.reduceLeDiff, Nat.reduceMul, reduceCtorEq, hal]
  obtain ⟨RA, rc, rfl, hrc, hRd, hRb⟩ := h.sl.read
  refine st_whole n1.blk (hc_len h.hc.lw h.hc.lv) rfl (hc_one rfl) fun w2 p2 => ?_
  have s1 := n1.size
  have s2 := p2.size
  have f2 : Fr w w2 nob := (n1.fr nob).trans p2.fr fun b hb e => by omega
  have C2 : HC w2 w.heap.size alg (run alg m).1 (run alg m).2 (.slice RA (rest alg m).length rc) m.length := ⟨p2.blk, h.hc.lw, h.hc.lv⟩
  have H2 := h.hc.fr f2 (fun x => x)
  have T2 := hT.fr f2 (fun x => x) (fun x => x)
  have hal2 := H2.alg
  have hre2 := H2.rest
  have R2 := hRd.fr f2 (.inr fun _ _ x => x)
  simp (disch := omega) only [EO, ↓EP, EQ, EM, ↓reduceIte, Int.reduceAdd, Int.reduceEq, Int.reduceLE, Int.reduceLT, Int.reduceMul, Int.reduceNeg, Int.reducePow, Int.reduceSub, Int.reduceToNat, Nat.reduceAdd, Nat.reduceEqDiff, Nat.reduceLT, Nat.reduceLeDiff, Nat.reduceMul, reduceCtorEq, hal2]
  refine blocksz_spec alg _ _ ?_
  simp (disch := omega) only [EO, ↓EP, EQ, EM, ↓reduceIte, Int.reduceAdd, Int.reduceEq, Int.reduceLE, Int.reduceLT, Int.reduceMul, Int.reduceNeg, Int.reducePow, Int.reduceSub, Int.reduceToNat, Nat.reduceAdd, Nat.reduceEqDiff, Nat.reduceLT, Nat.reduceLeDiff, Nat.reduceMul, reduceCtorEq, hre2]
  refine app_num (Sl.nil _ _) rfl R2 (by rw [List.length_nil]; omega) (by omega) fun v3 w3 a3 => ?_
  have G3 := (Gw.nil .u8 w2).apd a3
  rw [List.nil_append] at G3
  simp (disch := omega) only [EO, ↓EP, EQ, EM, ↓reduceIte, Int.reduceAdd, Int.reduceEq, Int.reduceLE, Int.reduceLT, Int.reduceMul, Int.reduceNeg, Int.reducePow, Int.reduceSub, Int.reduceToNat, Nat.reduceAdd, Nat.reduceEqDiff, Nat.reduceLT, Nat.reduceLeDiff, Nat.reduceMul, reduceCtorEq]
  refine bsl1 fun w4 n4 => ?_
  have G4 := G3.new n4
  simp (disch := omega) only [EO, ↓EP, EQ, EM, ↓reduceIte, Int.reduceAdd, Int.reduceEq, Int.reduceLE, Int.reduceLT, Int.reduceMul, Int.reduceNeg, Int.reducePow, Int.reduceSub, Int.reduceToNat, Nat.reduceAdd, Nat.reduceEqDiff, Nat.reduceLT, Nat.reduceLeDiff, Nat.reduceMul, reduceCtorEq]
  refine app_num G4.sl rfl n4.rdl (by rw [List.length_cons, List.length_nil]; omega) (by omega) fun v5 w5 a5 => ?_
  have G5 := G4.apd a5
  simp (disch := omega) only [EO, ↓EP, EQ, EM, ↓reduceIte, Int.reduceAdd, Int.reduceEq, Int.reduceLE, Int.reduceLT, Int.reduceMul, Int.reduceNeg, Int.reducePow, Int.reduceSub, Int.reduceToNat, Nat.reduceAdd, Nat.reduceEqDiff, Nat.reduceLT, Nat.reduceLeDiff, Nat.reduceMul, reduceCtorEq]
  generalize hL : (rest alg m).length = L at *
  have hLb : L < blockI alg := by omega
  clear a3 a5 G3 G4 n4 R2
  refine loop_inv (fun t ρ w' => ∃ (z : Nat) (T : Value), ρ 5 = T ∧ z ≤ zeros1 (blockI alg) L ∧ t = zeros1 (blockI alg) L - z ∧ Gw .u8 w2 w' T (rest alg m ++ [128] ++ List.replicate z 0)) _ ⟨0, v5, by simp only [↓EP, EQ, EM, ↓reduceIte, Int.reduceAdd, Int.reduceEq, Int.reduceLE, Int.reduceLT, Int.reduceMul, Int.reduceNeg, Int.reducePow, Int.reduceSub, Int.reduceToNat, Nat.reduceAdd, Nat.reduceEqDiff, Nat.reduceLT, Nat.reduceLeDiff, Nat.reduceMul, reduceCtorEq], Nat.zero_le _, rfl, by simpa using G5⟩ ?_
  rintro t ρ w6 hf ⟨z, T, h5, hz, rfl, G6⟩ N hN
  have r0 : ρ 0 = .pointer (some ⟨hb, 0, none⟩) := by rw [hf 0 rfl]; simp only [↓EP, EQ, EM, ↓reduceIte, Int.reduceAdd, Int.reduceEq, Int.reduceLE, Int.reduceLT, Int.reduceMul, Int.reduceNeg, Int.reducePow, Int.reduceSub, Int.reduceToNat, Nat.reduceAdd, Nat.reduceEqDiff, Nat.reduceLT, Nat.reduceLeDiff, Nat.reduceMul, reduceCtorEq]
  have r3 : ρ 3 = .pointer (some ⟨w.heap.size, 0, none⟩) := by rw [hf 3 rfl]; simp only [↓EP, EQ, EM, ↓reduceIte, Int.reduceAdd, Int.reduceEq, Int.reduceLE, Int.reduceLT, Int.reduceMul, Int.reduceNeg, Int.reducePow, Int.reduceSub, Int.reduceToNat, Nat.reduceAdd, Nat.reduceEqDiff, Nat.reduceLT, Nat.reduceLeDiff, Nat.reduceMul, reduceCtorEq]
  have r4 : ρ 4 = .int .i64 (blockI alg) := by rw [hf 4 rfl]; simp only [↓EP, EQ, EM, ↓reduceIte, Int.reduceAdd, Int.reduceEq, Int.reduceLE, Int.reduceLT, Int.reduceMul, Int.reduceNeg, Int.reducePow, Int.reduceSub, Int.reduceToNat, Nat.reduceAdd, Nat.reduceEqDiff, Nat.reduceLT, Nat.reduceLeDiff, Nat.reduceMul, reduceCtorEq]
  clear hf G5
  have hz1 : zeros1 (blockI alg) L ≤ 128 := by unfold zeros1; split <;> omega
  obtain ⟨TA, tc, rfl, htc, hTd⟩ := readn G6.sl (n := L + 1 + z) (by simp [hL]; omega)
  by_cases hzz : z < zeros1 (blockI alg) L
  · have hcond := zero_no hbs hLb hzz
    simp (disch := omega) only [EO, ↓EP, EQ, EM, ↓reduceIte, Int.reduceAdd, Int.reduceEq, Int.reduceLE, Int.reduceLT, Int.reduceMul, Int.reduceNeg, Int.reducePow, Int.reduceSub, Int.reduceToNat, Nat.reduceAdd, Nat.reduceEqDiff, Nat.reduceLT, Nat.reduceLeDiff, Nat.reduceMul, reduceCtorEq, h5, r4, hcond]
    refine bsl1 fun w7 n7 => ?_
    have G7 := G6.new n7
    simp (disch := omega) only [EO, ↓EP, EQ, EM, ↓reduceIte, Int.reduceAdd, Int.reduceEq, Int.reduceLE, Int.reduceLT, Int.reduceMul, Int.reduceNeg, Int.reducePow, Int.reduceSub, Int.reduceToNat, Nat.reduceAdd, Nat.reduceEqDiff, Nat.reduceLT, Nat.reduceLeDiff, Nat.reduceMul, reduceCtorEq, h5, r4]
    refine app_num G7.sl rfl n7.rdl (by simp only [List.length_append, List.length_replicate, List.length_cons, List.length_nil]; omega) (by omega) fun v8 w8 a8 => ?_
    have G8 := G7.apd a8
    simp (disch := omega) only [EO, ↓EP, EQ, EM, ↓reduceIte, Int.reduceAdd, Int.reduceEq, Int.reduceLE, Int.reduceLT, Int.reduceMul, Int.reduceNeg, Int.reducePow, Int.reduceSub, Int.reduceToNat, Nat.reduceAdd, Nat.reduceEqDiff, Nat.reduceLT, Nat.reduceLeDiff, Nat.reduceMul, reduceCtorEq, h5, r4]
    refine hN _ _ _ (by omega) ⟨z + 1, v8, by simp only [↓EP, EQ, EM, ↓reduceIte, Int.reduceAdd, Int.reduceEq, Int.reduceLE, Int.reduceLT, Int.reduceMul, Int.reduceNeg, Int.reducePow, Int.reduceSub, Int.reduceToNat, Nat.reduceAdd, Nat.reduceEqDiff, Nat.reduceLT, Nat.reduceLeDiff, Nat.reduceMul, reduceCtorEq], by omega, rfl, ?_⟩
    rw [List.replicate_succ', ← List.append_assoc]; exact G8
  have hze : z = zeros1 (blockI alg) L := by omega
  subst hze
  have hcond := zero_yes hbs hLb
  simp (disch := omega) only [EO, ↓EP, EQ, EM, ↓reduceIte, Int.reduceAdd, Int.reduceEq, Int.reduceLE, Int.reduceLT, Int.reduceMul, Int.reduceNeg, Int.reducePow, Int.reduceSub, Int.reduceToNat, Nat.reduceAdd, Nat.reduceEqDiff, Nat.reduceLT, Nat.reduceLeDiff, Nat.reduceMul, reduceCtorEq, h5, r4, hcond, W_joinT]
  clear hN hcond
  have hre6 := (H2.fr G6.fr (fun x => x)).rest
  refine join_cut (fun ρ' w' => ∃ T : Value, ρ' 5 = T ∧ Gw .u8 w2 w' T (rest alg m ++ [128] ++ List.replicate (zeros1 (blockI alg) L) 0 ++ List.replicate (zeros2 (blockI alg) L) 0)) ?_ ?_
  · intro N hN
    have stay : zeros2 (blockI alg) L = 0 → ∀ ρ', ρ' 5 = .slice TA (L + 1 + zeros1 (blockI alg) L) tc → endK N ρ' w6 := by
      intro hz2 ρ' h5'
      refine hN _ _ ⟨_, h5', ?_⟩
      rw [hz2, List.replicate_zero, List.append_nil]; exact G6
    rcases hbs with e | e
    · have e' : (blockI alg : Int) = 64 := by omega
      simp (disch := omega) only [EO, ↓EP, EQ, EM, ↓reduceIte, Int.reduceAdd, Int.reduceEq, Int.reduceLE, Int.reduceLT, Int.reduceMul, Int.reduceNeg, Int.reducePow, Int.reduceSub, Int.reduceToNat, Nat.reduceAdd, Nat.reduceEqDiff, Nat.reduceLT, Nat.reduceLeDiff, Nat.reduceMul, reduceCtorEq, h5, r4, e']
      exact stay (by rw [zeros2, if_neg (by omega)]) _ (by simp only [↓EP, EQ, EM, ↓reduceIte, Int.reduceAdd, Int.reduceEq, Int.reduceLE, Int.reduceLT, Int.reduceMul, Int.reduceNeg, Int.reducePow, Int.reduceSub, Int.reduceToNat, Nat.reduceAdd, Nat.reduceEqDiff, Nat.reduceLT, Nat.reduceLeDiff, Nat.reduceMul, reduceCtorEq, h5])
    · have e' : (blockI alg : Int) = 128 := by omega
      have c : (L : Int) < 112 ∨ ((112 ≤ (L : Int)) ∧ (L : Int) < 120) ∨ 120 ≤ (L : Int) := by omega
      rcases c with c | c | c
      · simp (disch := omega) only [EO, ↓EP, EQ, EM, ↓reduceIte, Int.reduceAdd, Int.reduceEq, Int.reduceLE, Int.reduceLT, Int.reduceMul, Int.reduceNeg, Int.reducePow, Int.reduceSub, Int.reduceToNat, Nat.reduceAdd, Nat.reduceEqDiff, Nat.reduceLT, Nat.reduceLeDiff, Nat.reduceMul, reduceCtorEq, h5, r4, r0, e', hre6]
        exact stay (by rw [zeros2, if_neg (by omega)]) _ (by simp only [↓EP, EQ, EM, ↓reduceIte, Int.reduceAdd, Int.reduceEq, Int.reduceLE, Int.reduceLT, Int.reduceMul, Int.reduceNeg, Int.reducePow, Int.reduceSub, Int.reduceToNat, Nat.reduceAdd, Nat.reduceEqDiff, Nat.reduceLT, Nat.reduceLeDiff, Nat.reduceMul, reduceCtorEq, h5])
      · have hz3 : zeros1 (blockI alg) L = 119 - L := by rw [zeros1, if_pos (by omega)]; omega
        simp (disch := omega) only [EO, ↓EP, EQ, EM, ↓reduceIte, Int.reduceAdd, Int.reduceEq, Int.reduceLE, Int.reduceLT, Int.reduceMul, Int.reduceNeg, Int.reducePow, Int.reduceSub, Int.reduceToNat, Nat.reduceAdd, Nat.reduceEqDiff, Nat.reduceLT, Nat.reduceLeDiff, Nat.reduceMul, reduceCtorEq, h5, r4, r0, e', hre6]
        refine appz_num G6.sl (by omega) (by simp only [List.length_append, List.length_replicate, List.length_cons, List.length_nil]; omega) (by omega) fun v7 w7 a7 => ?_
        have G7 := G6.apd a7
        simp (disch := omega) only [EO, ↓EP, EQ, EM, ↓reduceIte, Int.reduceAdd, Int.reduceEq, Int.reduceLE, Int.reduceLT, Int.reduceMul, Int.reduceNeg, Int.reducePow, Int.reduceSub, Int.reduceToNat, Nat.reduceAdd, Nat.reduceEqDiff, Nat.reduceLT, Nat.reduceLeDiff, Nat.reduceMul, reduceCtorEq]
        refine hN _ _ ⟨v7, by simp only [↓EP, EQ, EM, ↓reduceIte, Int.reduceAdd, Int.reduceEq, Int.reduceLE, Int.reduceLT, Int.reduceMul, Int.reduceNeg, Int.reducePow, Int.reduceSub, Int.reduceToNat, Nat.reduceAdd, Nat.reduceEqDiff, Nat.reduceLT, Nat.reduceLeDiff, Nat.reduceMul, reduceCtorEq], ?_⟩
        rw [show zeros2 (blockI alg) L = 128 by rw [zeros2, if_pos (by omega)]]; exact G7
      · have hz3 : zeros1 (blockI alg) L = 247 - L := by rw [zeros1, if_neg (by omega)]; omega
        simp (disch := omega) only [EO, ↓EP, EQ, EM, ↓reduceIte, Int.reduceAdd, Int.reduceEq, Int.reduceLE, Int.reduceLT, Int.reduceMul, Int.reduceNeg, Int.reducePow, Int.reduceSub, Int.reduceToNat, Nat.reduceAdd, Nat.reduceEqDiff, Nat.reduceLT, Nat.reduceLeDiff, Nat.reduceMul, reduceCtorEq, h5, r4, r0, e', hre6]
        exact stay (by rw [zeros2, if_neg (by omega)]) _ (by simp only [↓EP, EQ, EM, ↓reduceIte, Int.reduceAdd, Int.reduceEq, Int.reduceLE, Int.reduceLT, Int.reduceMul, Int.reduceNeg, Int.reducePow, Int.reduceSub, Int.reduceToNat, Nat.reduceAdd, Nat.reduceEqDiff, Nat.reduceLT, Nat.reduceLeDiff, Nat.reduceMul, reduceCtorEq, h5])
  rintro ρ7 w7 hf ⟨T7, h57, G7⟩
  have r0' : ρ7 0 = .pointer (some ⟨hb, 0, none⟩) := by rw [hf 0 rfl]; simp only [↓EP, EQ, EM, ↓reduceIte, Int.reduceAdd, Int.reduceEq, Int.reduceLE, Int.reduceLT, Int.reduceMul, Int.reduceNeg, Int.reducePow, Int.reduceSub, Int.reduceToNat, Nat.reduceAdd, Nat.reduceEqDiff, Nat.reduceLT, Nat.reduceLeDiff, Nat.reduceMul, reduceCtorEq, r0]
  have r3' : ρ7 3 = .pointer (some ⟨w.heap.size, 0, none⟩) := by rw [hf 3 rfl]; simp only [↓EP, EQ, EM, ↓reduceIte, Int.reduceAdd, Int.reduceEq, Int.reduceLE, Int.reduceLT, Int.reduceMul, Int.reduceNeg, Int.reducePow, Int.reduceSub, Int.reduceToNat, Nat.reduceAdd, Nat.reduceEqDiff, Nat.reduceLT, Nat.reduceLeDiff, Nat.reduceMul, reduceCtorEq, r3]
  have r4' : ρ7 4 = .int .i64 (blockI alg) := by rw [hf 4 rfl]; simp only [↓EP, EQ, EM, ↓reduceIte, Int.reduceAdd, Int.reduceEq, Int.reduceLE, Int.reduceLT, Int.reduceMul, Int.reduceNeg, Int.reducePow, Int.reduceSub, Int.reduceToNat, Nat.reduceAdd, Nat.reduceEqDiff, Nat.reduceLT, Nat.reduceLeDiff, Nat.reduceMul, reduceCtorEq, r4]
  clear hf h5 r0 r3 r4 G6 hTd hre6
  have hz1 : zeros1 (blockI alg) L + zeros2 (blockI alg) L ≤ 260 := by
    unfold zeros2; split <;> omega
  simp only [↓EP, EQ, EM, ↓reduceIte, Int.reduceAdd, Int.reduceEq, Int.reduceLE, Int.reduceLT, Int.reduceMul, Int.reduceNeg, Int.reducePow, Int.reduceSub, Int.reduceToNat, Nat.reduceAdd, Nat.reduceEqDiff, Nat.reduceLT, Nat.reduceLeDiff, Nat.reduceMul, reduceCtorEq]
  refine loop_inv (fun t ρ w' => ∃ (k : Nat) (T : Value), ρ 63 = .int .i64 k ∧ ρ 5 = T ∧ k ≤ 8 ∧ t = 8 - k ∧ Gw .u8 w2 w' T (rest alg m ++ [128] ++ List.replicate (zeros1 (blockI alg) L) 0 ++ List.replicate (zeros2 (blockI alg) L) 0 ++ (List.range k).map (lenB m.length))) 8 ⟨0, T7, by simp only [↓EP, EQ, EM, ↓reduceIte, Int.reduceAdd, Int.reduceEq, Int.reduceLE, Int.reduceLT, Int.reduceMul, Int.reduceNeg, Int.reducePow, Int.reduceSub, Int.reduceToNat, Nat.reduceAdd, Nat.reduceEqDiff, Nat.reduceLT, Nat.reduceLeDiff, Nat.reduceMul, reduceCtorEq], by simp only [↓EP, EQ, EM, ↓reduceIte, Int.reduceAdd, Int.reduceEq, Int.reduceLE, Int.reduceLT, Int.reduceMul, Int.reduceNeg, Int.reducePow, Int.reduceSub, Int.reduceToNat, Nat.reduceAdd, Nat.reduceEqDiff, Nat.reduceLT, Nat.reduceLeDiff, Nat.reduceMul, reduceCtorEq, h57], Nat.zero_le _, rfl, by simpa using G7⟩ ?_
  rintro t ρ8 w8 hf ⟨k, T8, h63, h58, hk, rfl, G8⟩ N hN
  have r0 : ρ8 0 = .pointer (some ⟨hb, 0, none⟩) := by rw [hf 0 rfl]; simp only [↓EP, EQ, EM, ↓reduceIte, Int.reduceAdd, Int.reduceEq, Int.reduceLE, Int.reduceLT, Int.reduceMul, Int.reduceNeg, Int.reducePow, Int.reduceSub, Int.reduceToNat, Nat.reduceAdd, Nat.reduceEqDiff, Nat.reduceLT, Nat.reduceLeDiff, Nat.reduceMul, reduceCtorEq, r0']
  have r3 : ρ8 3 = .pointer (some ⟨w.heap.size, 0, none⟩) := by rw [hf 3 rfl]; simp only [↓EP, EQ, EM, ↓reduceIte, Int.reduceAdd, Int.reduceEq, Int.reduceLE, Int.reduceLT, Int.reduceMul, Int.reduceNeg, Int.reducePow, Int.reduceSub, Int.reduceToNat, Nat.reduceAdd, Nat.reduceEqDiff, Nat.reduceLT, Nat.reduceLeDiff, Nat.reduceMul, reduceCtorEq, r3']
  have r4 : ρ8 4 = .int .i64 (blockI alg) := by rw [hf 4 rfl]; simp only [↓EP, EQ, EM, ↓reduceIte, Int.reduceAdd, Int.reduceEq, Int.reduceLE, Int.reduceLT, Int.reduceMul, Int.reduceNeg, Int.reducePow, Int.reduceSub, Int.reduceToNat, Nat.reduceAdd, Nat.reduceEqDiff, Nat.reduceLT, Nat.reduceLeDiff, Nat.reduceMul, reduceCtorEq, r4']
  clear hf h57 r0' r3' r4' G7
  have H8 := H2.fr G8.fr (fun x => x)
  have hn8 := H8.n
  by_cases hk8 : (k : Int) < 8
  · have e2 : min (56 - 8 * (k : Int)).toNat 64 = 56 - 8 * k := by omega
    simp (disch := omega) only [EO, ↓EP, EQ, EM, ↓reduceIte, Int.reduceAdd, Int.reduceEq, Int.reduceLE, Int.reduceLT, Int.reduceMul, Int.reduceNeg, Int.reducePow, Int.reduceSub, Int.reduceToNat, Nat.reduceAdd, Nat.reduceEqDiff, Nat.reduceLT, Nat.reduceLeDiff, Nat.reduceMul, reduceCtorEq, h63, h58, r0, hn8, e2]
    refine bsl1 fun w9 n9 => ?_
    have G9 := G8.new n9
    simp (disch := omega) only [EO, ↓EP, EQ, EM, ↓reduceIte, Int.reduceAdd, Int.reduceEq, Int.reduceLE, Int.reduceLT, Int.reduceMul, Int.reduceNeg, Int.reducePow, Int.reduceSub, Int.reduceToNat, Nat.reduceAdd, Nat.reduceEqDiff, Nat.reduceLT, Nat.reduceLeDiff, Nat.reduceMul, reduceCtorEq, h63, h58, r0, hn8, e2]
    refine app_num G9.sl rfl n9.rdl (by simp only [List.length_append, List.length_replicate, List.length_cons, List.length_nil, List.length_map, List.length_range]; omega) (by omega) fun v10 w10 a10 => ?_
    have G10 := G9.apd a10
    simp (disch := omega) only [EO, ↓EP, EQ, EM, ↓reduceIte, Int.reduceAdd, Int.reduceEq, Int.reduceLE, Int.reduceLT, Int.reduceMul, Int.reduceNeg, Int.reducePow, Int.reduceSub, Int.reduceToNat, Nat.reduceAdd, Nat.reduceEqDiff, Nat.reduceLT, Nat.reduceLeDiff, Nat.reduceMul, reduceCtorEq, h63, h58, r0, hn8, e2]
    refine hN (8 - (k + 1)) _ _ (by omega) ⟨k + 1, v10, by simp (disch := omega) only [EO, ↓EP, EQ, EM, ↓reduceIte, Int.reduceAdd, Int.reduceEq, Int.reduceLE, Int.reduceLT, Int.reduceMul, Int.reduceNeg, Int.reducePow, Int.reduceSub, Int.reduceToNat, Nat.reduceAdd, Nat.reduceEqDiff, Nat.reduceLT, Nat.reduceLeDiff, Nat.reduceMul, reduceCtorEq, h63, Int.natCast_add], by simp only [↓EP, EQ, EM, ↓reduceIte, Int.reduceAdd, Int.reduceEq, Int.reduceLE, Int.reduceLT, Int.reduceMul, Int.reduceNeg, Int.reducePow, Int.reduceSub, Int.reduceToNat, Nat.reduceAdd, Nat.reduceEqDiff, Nat.reduceLT, Nat.reduceLeDiff, Nat.reduceMul, reduceCtorEq], by omega, rfl, ?_⟩
    rw [map_succ, ← List.append_assoc]; exact G10
  have hke : k = 8 := by omega
  subst hke
  simp (disch := omega) only [EO, ↓EP, EQ, EM, ↓reduceIte, Int.reduceAdd, Int.reduceEq, Int.reduceLE, Int.reduceLT, Int.reduceMul, Int.reduceNeg, Int.reducePow, Int.reduceSub, Int.reduceToNat, Nat.reduceAdd, Nat.reduceEqDiff, Nat.reduceLT, Nat.reduceLeDiff, Nat.reduceMul, reduceCtorEq, h63, h58, r0]
  clear hN
  rw [← hL] at G8
  have G8 : Gw .u8 w2 w8 T8 (tailF alg m) := G8
  obtain ⟨ht1, ht2⟩ := tail_len ha1 ha4 m
  generalize hTl : (tailF alg m).length = N8 at *
  have C8 := C2.fr G8.fr (fun x => x)
  obtain ⟨TA8, tc8, rfl, htc8, hTd8⟩ := readn G8.sl hTl
  refine loop_inv (fun t ρ w' => ∃ (j : Nat), ρ 7 = .int .i64 ((j * blockI alg : Nat) : Int) ∧ j * blockI alg ≤ N8 ∧ t = N8 - j * blockI alg ∧ HC w' w.heap.size alg (rounds (fun j s => mix alg s (part (blockI alg) (tailF alg m) j)) j (run alg m)).1 (rounds (fun j s => mix alg s (part (blockI alg) (tailF alg m) j)) j (run alg m)).2 (.slice RA L rc) m.length ∧ Fr w8 w' (fun b => b = w.heap.size)) N8 ⟨0, by simp only [↓EP, EQ, EM, ↓reduceIte, Int.reduceAdd, Int.reduceEq, Int.reduceLE, Int.reduceLT, Int.reduceMul, Int.reduceNeg, Int.reducePow, Int.reduceSub, Int.reduceToNat, Nat.reduceAdd, Nat.reduceEqDiff, Nat.reduceLT, Nat.reduceLeDiff, Nat.reduceMul, reduceCtorEq, Nat.zero_mul], by omega, by omega, C8, Fr.refl _ _⟩ ?_
  rintro t ρ9 w9 hf ⟨j, h7, hj, rfl, C9, f9⟩ N hN
  have r0' : ρ9 0 = .pointer (some ⟨hb, 0, none⟩) := by rw [hf 0 rfl]; simp only [↓EP, EQ, EM, ↓reduceIte, Int.reduceAdd, Int.reduceEq, Int.reduceLE, Int.reduceLT, Int.reduceMul, Int.reduceNeg, Int.reducePow, Int.reduceSub, Int.reduceToNat, Nat.reduceAdd, Nat.reduceEqDiff, Nat.reduceLT, Nat.reduceLeDiff, Nat.reduceMul, reduceCtorEq, r0]
  have r3' : ρ9 3 = .pointer (some ⟨w.heap.size, 0, none⟩) := by rw [hf 3 rfl]; simp only [↓EP, EQ, EM, ↓reduceIte, Int.reduceAdd, Int.reduceEq, Int.reduceLE, Int.reduceLT, Int.reduceMul, Int.reduceNeg, Int.reducePow, Int.reduceSub, Int.reduceToNat, Nat.reduceAdd, Nat.reduceEqDiff, Nat.reduceLT, Nat.reduceLeDiff, Nat.reduceMul, reduceCtorEq, r3]
  have r4' : ρ9 4 = .int .i64 (blockI alg) := by rw [hf 4 rfl]; simp only [↓EP, EQ, EM, ↓reduceIte, Int.reduceAdd, Int.reduceEq, Int.reduceLE, Int.reduceLT, Int.reduceMul, Int.reduceNeg, Int.reducePow, Int.reduceSub, Int.reduceToNat, Nat.reduceAdd, Nat.reduceEqDiff, Nat.reduceLT, Nat.reduceLeDiff, Nat.reduceMul, reduceCtorEq, r4]
  have r5' : ρ9 5 = .slice TA8 N8 tc8 := by rw [hf 5 rfl]; simp only [↓EP, EQ, EM, ↓reduceIte, Int.reduceAdd, Int.reduceEq, Int.reduceLE, Int.reduceLT, Int.reduceMul, Int.reduceNeg, Int.reducePow, Int.reduceSub, Int.reduceToNat, Nat.reduceAdd, Nat.reduceEqDiff, Nat.reduceLT, Nat.reduceLeDiff, Nat.reduceMul, reduceCtorEq, h58]
  clear hf
  by_cases hjN : ((j * blockI alg : Nat) : Int) < (N8 : Int)
  · have hjl : j * blockI alg + blockI alg ≤ N8 := step_le hbs ht1 (by omega)
    have hjs : (j + 1) * blockI alg = j * blockI alg + blockI alg := by rw [Nat.add_mul, Nat.one_mul]
    simp (disch := omega) only [EO, ↓EP, EQ, EM, ↓reduceIte, Int.reduceAdd, Int.reduceEq, Int.reduceLE, Int.reduceLT, Int.reduceMul, Int.reduceNeg, Int.reducePow, Int.reduceSub, Int.reduceToNat, Nat.reduceAdd, Nat.reduceEqDiff, Nat.reduceLT, Nat.reduceLeDiff, Nat.reduceMul, reduceCtorEq, h7, r3', r4', r5']
    have hoff : offA TA8 (fun b => b = w.heap.size) := fun p e h' => by
      have := G8.up p.block (by rw [e]; rfl)
      omega
    have hTd9 := (hTd8.fr f9 (.inr hoff)).subA tc8 (j * blockI alg) (by omega)
    refine block_spec' C9 ha1 ha4 ((T2.fr G8.fr (fun x => x) (fun x => x)).fr f9 (by omega) (by omega)) (by omega) (p := part (blockI alg) (tailF alg m) j) (hTd9.take (blockI alg)) (by rw [part, List.length_take, List.length_drop, hTl]; omega) _ fun w10 C10 f10 => ?_
    simp (disch := omega) only [EO, ↓EP, EQ, EM, ↓reduceIte, Int.reduceAdd, Int.reduceEq, Int.reduceLE, Int.reduceLT, Int.reduceMul, Int.reduceNeg, Int.reducePow, Int.reduceSub, Int.reduceToNat, Nat.reduceAdd, Nat.reduceEqDiff, Nat.reduceLT, Nat.reduceLeDiff, Nat.reduceMul, reduceCtorEq, h7, r3', r4', r5']
    refine hN (N8 - (j + 1) * blockI alg) _ _ (by omega) ⟨j + 1, ?_, by omega, rfl, C10, f9.trans f10 fun _ _ e => e⟩
    simp (disch := omega) only [EO, ↓EP, EQ, EM, ↓reduceIte, Int.reduceAdd, Int.reduceEq, Int.reduceLE, Int.reduceLT, Int.reduceMul, Int.reduceNeg, Int.reducePow, Int.reduceSub, Int.reduceToNat, Nat.reduceAdd, Nat.reduceEqDiff, Nat.reduceLT, Nat.reduceLeDiff, Nat.reduceMul, reduceCtorEq, h7, r4']
    rw [hjs, Int.natCast_add]
  have hje : N8 / blockI alg = j := step_end hbs (by omega)
  have hlast : last alg m = rounds (fun j s => mix alg s (part (blockI alg) (tailF alg m) j)) j (run alg m) := by rw [last, hTl, hje]
  rw [← hlast] at C9
  have H9 := H8.fr f9 (by omega)
  have f09 : Fr w w9 nob := (f2.trans G8.fr fun _ _ e => e).trans f9 fun b hb e => by omega
  simp (disch := omega) only [EO, ↓EP, EQ, EM, ↓reduceIte, Int.reduceAdd, Int.reduceEq, Int.reduceLE, Int.reduceLT, Int.reduceMul, Int.reduceNeg, Int.reducePow, Int.reduceSub, Int.reduceToNat, Nat.reduceAdd, Nat.reduceEqDiff, Nat.reduceLT, Nat.reduceLeDiff, Nat.reduceMul, reduceCtorEq, h7, r0', r3', r4', r5']
  clear hN h7 h63 h58 r0 r3 r4 r5' hTd8 G8 f9 C8 H8 hn8 C2 H2 hal2 hre2
  have hal9 := H9.alg
  have hol := out_len ha1 ha4 (last alg m)
  have fin : ∀ (A : Option Addr) (c : Nat) (w12 : World), Gw .u8 w9 w12 (.slice A (outF alg (last alg m)).length c) (outF alg (last alg m)) → (outF alg (last alg m)).length ≤ c → K (.slice A (sizeI alg).toNat c) w12 := by
    intro A c w12 G hc
    refine hK A c w12 (by omega) (G.sl.cut hol.1 (by omega)) (fun b hb => Nat.le_trans f09.size (G.up b (by cases A with | none => cases hb | some p => exact hb))) (f09.trans G.fr fun _ _ e => e)
  rcases hbs with e | e
  · have e' : (blockI alg : Int) = 64 := by omega
    refine loop_inv (fun t ρ w' => ∃ (i : Nat) (O : Value), ρ 95 = .int .i64 i ∧ ρ 8 = O ∧ i ≤ 8 ∧ t = 8 - i ∧ Gw .u8 w9 w' O ((List.range i).flatMap fun (i : Nat) => Spec.w4 (at' (last alg m).1 (i : Int)))) 8 ⟨0, .slice none 0 0, by simp only [↓EP, EQ, EM, ↓reduceIte, Int.reduceAdd, Int.reduceEq, Int.reduceLE, Int.reduceLT, Int.reduceMul, Int.reduceNeg, Int.reducePow, Int.reduceSub, Int.reduceToNat, Nat.reduceAdd, Nat.reduceEqDiff, Nat.reduceLT, Nat.reduceLeDiff, Nat.reduceMul, reduceCtorEq], by simp only [↓EP, EQ, EM, ↓reduceIte, Int.reduceAdd, Int.reduceEq, Int.reduceLE, Int.reduceLT, Int.reduceMul, Int.reduceNeg, Int.reducePow, Int.reduceSub, Int.reduceToNat, Nat.reduceAdd, Nat.reduceEqDiff, Nat.reduceLT, Nat.reduceLeDiff, Nat.reduceMul, reduceCtorEq], Nat.zero_le _, rfl, Gw.nil _ _⟩ ?_
    rintro t ρ10 w10 hf ⟨i, O, h95, h8, hi8, rfl, G10⟩ N hN
    have r0 : ρ10 0 = .pointer (some ⟨hb, 0, none⟩) := by rw [hf 0 rfl]; simp only [↓EP, EQ, EM, ↓reduceIte, Int.reduceAdd, Int.reduceEq, Int.reduceLE, Int.reduceLT, Int.reduceMul, Int.reduceNeg, Int.reducePow, Int.reduceSub, Int.reduceToNat, Nat.reduceAdd, Nat.reduceEqDiff, Nat.reduceLT, Nat.reduceLeDiff, Nat.reduceMul, reduceCtorEq, r0']
    have r3 : ρ10 3 = .pointer (some ⟨w.heap.size, 0, none⟩) := by rw [hf 3 rfl]; simp only [↓EP, EQ, EM, ↓reduceIte, Int.reduceAdd, Int.reduceEq, Int.reduceLE, Int.reduceLT, Int.reduceMul, Int.reduceNeg, Int.reducePow, Int.reduceSub, Int.reduceToNat, Nat.reduceAdd, Nat.reduceEqDiff, Nat.reduceLT, Nat.reduceLeDiff, Nat.reduceMul, reduceCtorEq, r3']
    have r4 : ρ10 4 = .int .i64 (blockI alg) := by rw [hf 4 rfl]; simp only [↓EP, EQ, EM, ↓reduceIte, Int.reduceAdd, Int.reduceEq, Int.reduceLE, Int.reduceLT, Int.reduceMul, Int.reduceNeg, Int.reducePow, Int.reduceSub, Int.reduceToNat, Nat.reduceAdd, Nat.reduceEqDiff, Nat.reduceLT, Nat.reduceLeDiff, Nat.reduceMul, reduceCtorEq, r4']
    have hgl := flat_len (f := fun (i : Nat) => Spec.w4 (at' (last alg m).1 (i : Int))) (n := 4) (fun _ => rfl) i
    clear hf
    by_cases hi9 : (i : Int) < 8
    · have C10 := C9.fr G10.fr (fun x => x)
      have hcw := C10.w_ i (by omega)
      simp (disch := omega) only [EO, ↓EP, EQ, EM, ↓reduceIte, Int.reduceAdd, Int.reduceEq, Int.reduceLE, Int.reduceLT, Int.reduceMul, Int.reduceNeg, Int.reducePow, Int.reduceSub, Int.reduceToNat, Nat.reduceAdd, Nat.reduceEqDiff, Nat.reduceLT, Nat.reduceLeDiff, Nat.reduceMul, reduceCtorEq, W_join, h95, h8, r0, r3, r4, e', hcw]
      intro m1
      have G11 := G10.drewN (1 + m1)
      refine bsl4 fun w11 n11 => ?_
      have G12 := G11.new n11
      simp (disch := omega) only [EO, ↓EP, EQ, EM, ↓reduceIte, Int.reduceAdd, Int.reduceEq, Int.reduceLE, Int.reduceLT, Int.reduceMul, Int.reduceNeg, Int.reducePow, Int.reduceSub, Int.reduceToNat, Nat.reduceAdd, Nat.reduceEqDiff, Nat.reduceLT, Nat.reduceLeDiff, Nat.reduceMul, reduceCtorEq, h8]
      intro m2
      refine app_num (G12.drewN m2).sl rfl (n11.rdl.drewN m2) (by rw [hgl]; simp only [List.length_cons, List.length_nil]; omega) (by omega) fun v13 w13 a13 => ?_
      have G13 := (G12.drewN m2).apd a13
      simp (disch := omega) only [EO, ↓EP, EQ, EM, ↓reduceIte, Int.reduceAdd, Int.reduceEq, Int.reduceLE, Int.reduceLT, Int.reduceMul, Int.reduceNeg, Int.reducePow, Int.reduceSub, Int.reduceToNat, Nat.reduceAdd, Nat.reduceEqDiff, Nat.reduceLT, Nat.reduceLeDiff, Nat.reduceMul, reduceCtorEq, h95]
      intro m3
      refine hN (8 - (i + 1)) _ _ (by omega) ⟨i + 1, v13, by simp (disch := omega) only [EO, ↓EP, EQ, EM, ↓reduceIte, Int.reduceAdd, Int.reduceEq, Int.reduceLE, Int.reduceLT, Int.reduceMul, Int.reduceNeg, Int.reducePow, Int.reduceSub, Int.reduceToNat, Nat.reduceAdd, Nat.reduceEqDiff, Nat.reduceLT, Nat.reduceLeDiff, Nat.reduceMul, reduceCtorEq, h95, Int.natCast_add], by simp only [↓EP, EQ, EM, ↓reduceIte, Int.reduceAdd, Int.reduceEq, Int.reduceLE, Int.reduceLT, Int.reduceMul, Int.reduceNeg, Int.reducePow, Int.reduceSub, Int.reduceToNat, Nat.reduceAdd, Nat.reduceEqDiff, Nat.reduceLT, Nat.reduceLeDiff, Nat.reduceMul, reduceCtorEq], by omega, rfl, ?_⟩
      rw [flat_succ]; exact G13.drewN m3
    · have hie : i = 8 := by omega
      subst hie
      have hout : outF alg (last alg m) = (List.range 8).flatMap fun (i : Nat) => Spec.w4 (at' (last alg m).1 (i : Int)) := by rw [outF, if_pos e]
      rw [← hout] at G10
      obtain ⟨OA, oc, rfl, hoc, hOd⟩ := readn G10.sl rfl
      have hal10 := (H9.fr G10.fr (fun x => x)).alg
      simp (disch := omega) only [EO, ↓EP, EQ, EM, ↓reduceIte, Int.reduceAdd, Int.reduceEq, Int.reduceLE, Int.reduceLT, Int.reduceMul, Int.reduceNeg, Int.reducePow, Int.reduceSub, Int.reduceToNat, Nat.reduceAdd, Nat.reduceEqDiff, Nat.reduceLT, Nat.reduceLeDiff, Nat.reduceMul, reduceCtorEq, h95, h8, r0, hal10]
      refine size_spec alg _ _ ?_
      simp (disch := omega) only [EO, ↓EP, EQ, EM, ↓reduceIte, Int.reduceAdd, Int.reduceEq, Int.reduceLE, Int.reduceLT, Int.reduceMul, Int.reduceNeg, Int.reducePow, Int.reduceSub, Int.reduceToNat, Nat.reduceAdd, Nat.reduceEqDiff, Nat.reduceLT, Nat.reduceLeDiff, Nat.reduceMul, reduceCtorEq, h95, h8, r0, hal10]
      exact fin OA oc w10 G10 hoc
  · have e' : (blockI alg : Int) = 128 := by omega
    refine loop_inv (fun t ρ w' => ∃ (i : Nat) (O : Value), ρ 95 = .int .i64 i ∧ ρ 8 = O ∧ i ≤ 8 ∧ t = 8 - i ∧ Gw .u8 w9 w' O ((List.range i).flatMap fun (i : Nat) => v8 (at' (last alg m).2 (i : Int)))) 8 ⟨0, .slice none 0 0, by simp only [↓EP, EQ, EM, ↓reduceIte, Int.reduceAdd, Int.reduceEq, Int.reduceLE, Int.reduceLT, Int.reduceMul, Int.reduceNeg, Int.reducePow, Int.reduceSub, Int.reduceToNat, Nat.reduceAdd, Nat.reduceEqDiff, Nat.reduceLT, Nat.reduceLeDiff, Nat.reduceMul, reduceCtorEq], by simp only [↓EP, EQ, EM, ↓reduceIte, Int.reduceAdd, Int.reduceEq, Int.reduceLE, Int.reduceLT, Int.reduceMul, Int.reduceNeg, Int.reducePow, Int.reduceSub, Int.reduceToNat, Nat.reduceAdd, Nat.reduceEqDiff, Nat.reduceLT, Nat.reduceLeDiff, Nat.reduceMul, reduceCtorEq], Nat.zero_le _, rfl, Gw.nil _ _⟩ ?_
    rintro t ρ10 w10 hf ⟨i, O, h95, h8, hi8, rfl, G10⟩ N hN
    have r0 : ρ10 0 = .pointer (some ⟨hb, 0, none⟩) := by rw [hf 0 rfl]; simp only [↓EP, EQ, EM, ↓reduceIte, Int.reduceAdd, Int.reduceEq, Int.reduceLE, Int.reduceLT, Int.reduceMul, Int.reduceNeg, Int.reducePow, Int.reduceSub, Int.reduceToNat, Nat.reduceAdd, Nat.reduceEqDiff, Nat.reduceLT, Nat.reduceLeDiff, Nat.reduceMul, reduceCtorEq, r0']
    have r3 : ρ10 3 = .pointer (some ⟨w.heap.size, 0, none⟩) := by rw [hf 3 rfl]; simp only [↓EP, EQ, EM, ↓reduceIte, Int.reduceAdd, Int.reduceEq, Int.reduceLE, Int.reduceLT, Int.reduceMul, Int.reduceNeg, Int.reducePow, Int.reduceSub, Int.reduceToNat, Nat.reduceAdd, Nat.reduceEqDiff, Nat.reduceLT, Nat.reduceLeDiff, Nat.reduceMul, reduceCtorEq, r3']
    have r4 : ρ10 4 = .int .i64 (blockI alg) := by rw [hf 4 rfl]; simp only [↓EP, EQ, EM, ↓reduceIte, Int.reduceAdd, Int.reduceEq, Int.reduceLE, Int.reduceLT, Int.reduceMul, Int.reduceNeg, Int.reducePow, Int.reduceSub, Int.reduceToNat, Nat.reduceAdd, Nat.reduceEqDiff, Nat.reduceLT, Nat.reduceLeDiff, Nat.reduceMul, reduceCtorEq, r4']
    have hgl := flat_len (f := fun (i : Nat) => v8 (at' (last alg m).2 (i : Int))) (n := 8) (fun _ => by simp [v8]) i
    clear hf
    by_cases hi9 : (i : Int) < 8
    · simp (disch := omega) only [EO, ↓EP, EQ, EM, ↓reduceIte, Int.reduceAdd, Int.reduceEq, Int.reduceLE, Int.reduceLT, Int.reduceMul, Int.reduceNeg, Int.reducePow, Int.reduceSub, Int.reduceToNat, Nat.reduceAdd, Nat.reduceEqDiff, Nat.reduceLT, Nat.reduceLeDiff, Nat.reduceMul, reduceCtorEq, W_join, h95, h8, r0, r3, r4, e']
      refine loop_inv (fun t ρ w' => ∃ (k : Nat) (O : Value), ρ 126 = .int .i64 k ∧ ρ 8 = O ∧ k ≤ 8 ∧ t = 8 - k ∧ Gw .u8 w9 w' O (((List.range i).flatMap fun (i : Nat) => v8 (at' (last alg m).2 (i : Int))) ++ (List.range k).map fun k => IntKind.u8.wrap ((at' (last alg m).2 (i : Int)).fdiv (2 ^ (56 - 8 * k))))) 8 ⟨0, O, by simp only [↓EP, EQ, EM, ↓reduceIte, Int.reduceAdd, Int.reduceEq, Int.reduceLE, Int.reduceLT, Int.reduceMul, Int.reduceNeg, Int.reducePow, Int.reduceSub, Int.reduceToNat, Nat.reduceAdd, Nat.reduceEqDiff, Nat.reduceLT, Nat.reduceLeDiff, Nat.reduceMul, reduceCtorEq], by simp only [↓EP, EQ, EM, ↓reduceIte, Int.reduceAdd, Int.reduceEq, Int.reduceLE, Int.reduceLT, Int.reduceMul, Int.reduceNeg, Int.reducePow, Int.reduceSub, Int.reduceToNat, Nat.reduceAdd, Nat.reduceEqDiff, Nat.reduceLT, Nat.reduceLeDiff, Nat.reduceMul, reduceCtorEq, h8], Nat.zero_le _, rfl, by simpa using G10⟩ ?_
      rintro t ρ11 w11 hf ⟨k, O', h126, h8', hk8, rfl, G11⟩ N' hN'
      have q3 : ρ11 3 = .pointer (some ⟨w.heap.size, 0, none⟩) := by rw [hf 3 rfl]; simp only [↓EP, EQ, EM, ↓reduceIte, Int.reduceAdd, Int.reduceEq, Int.reduceLE, Int.reduceLT, Int.reduceMul, Int.reduceNeg, Int.reducePow, Int.reduceSub, Int.reduceToNat, Nat.reduceAdd, Nat.reduceEqDiff, Nat.reduceLT, Nat.reduceLeDiff, Nat.reduceMul, reduceCtorEq, r3]
      have q9 : ρ11 9 = .int .i64 i := by rw [hf 9 rfl]; simp only [↓EP, EQ, EM, ↓reduceIte, Int.reduceAdd, Int.reduceEq, Int.reduceLE, Int.reduceLT, Int.reduceMul, Int.reduceNeg, Int.reducePow, Int.reduceSub, Int.reduceToNat, Nat.reduceAdd, Nat.reduceEqDiff, Nat.reduceLT, Nat.reduceLeDiff, Nat.reduceMul, reduceCtorEq, h95]
      have q95 : ρ11 95 = .int .i64 i := by rw [hf 95 rfl]; simp only [↓EP, EQ, EM, ↓reduceIte, Int.reduceAdd, Int.reduceEq, Int.reduceLE, Int.reduceLT, Int.reduceMul, Int.reduceNeg, Int.reducePow, Int.reduceSub, Int.reduceToNat, Nat.reduceAdd, Nat.reduceEqDiff, Nat.reduceLT, Nat.reduceLeDiff, Nat.reduceMul, reduceCtorEq, h95]
      clear hf
      by_cases hk9 : (k : Int) < 8
      · have e2 : min (56 - 8 * (k : Int)).toNat 64 = 56 - 8 * k := by omega
        have hcv := (C9.fr G11.fr (fun x => x)).v_ i (by omega)
        simp (disch := omega) only [EO, ↓EP, EQ, EM, ↓reduceIte, Int.reduceAdd, Int.reduceEq, Int.reduceLE, Int.reduceLT, Int.reduceMul, Int.reduceNeg, Int.reducePow, Int.reduceSub, Int.reduceToNat, Nat.reduceAdd, Nat.reduceEqDiff, Nat.reduceLT, Nat.reduceLeDiff, Nat.reduceMul, reduceCtorEq, h126, h8', q3, q9, hcv, e2]
        refine bsl1 fun w12 n12 => ?_
        have G12 := G11.new n12
        simp (disch := omega) only [EO, ↓EP, EQ, EM, ↓reduceIte, Int.reduceAdd, Int.reduceEq, Int.reduceLE, Int.reduceLT, Int.reduceMul, Int.reduceNeg, Int.reducePow, Int.reduceSub, Int.reduceToNat, Nat.reduceAdd, Nat.reduceEqDiff, Nat.reduceLT, Nat.reduceLeDiff, Nat.reduceMul, reduceCtorEq, h126, h8', q3, q9, hcv, e2]
        refine app_num G12.sl rfl n12.rdl (by rw [List.length_append, hgl]; simp only [List.length_cons, List.length_nil, List.length_map, List.length_range]; omega) (by omega) fun v13 w13 a13 => ?_
        have G13 := G12.apd a13
        simp (disch := omega) only [EO, ↓EP, EQ, EM, ↓reduceIte, Int.reduceAdd, Int.reduceEq, Int.reduceLE, Int.reduceLT, Int.reduceMul, Int.reduceNeg, Int.reducePow, Int.reduceSub, Int.reduceToNat, Nat.reduceAdd, Nat.reduceEqDiff, Nat.reduceLT, Nat.reduceLeDiff, Nat.reduceMul, reduceCtorEq, h126]
        refine hN' (8 - (k + 1)) _ _ (by omega) ⟨k + 1, v13, by simp (disch := omega) only [EO, ↓EP, EQ, EM, ↓reduceIte, Int.reduceAdd, Int.reduceEq, Int.reduceLE, Int.reduceLT, Int.reduceMul, Int.reduceNeg, Int.reducePow, Int.reduceSub, Int.reduceToNat, Nat.reduceAdd, Nat.reduceEqDiff, Nat.reduceLT, Nat.reduceLeDiff, Nat.reduceMul, reduceCtorEq, h126, Int.natCast_add], by simp only [↓EP, EQ, EM, ↓reduceIte, Int.reduceAdd, Int.reduceEq, Int.reduceLE, Int.reduceLT, Int.reduceMul, Int.reduceNeg, Int.reducePow, Int.reduceSub, Int.reduceToNat, Nat.reduceAdd, Nat.reduceEqDiff, Nat.reduceLT, Nat.reduceLeDiff, Nat.reduceMul, reduceCtorEq], by omega, rfl, ?_⟩
        rw [map_succ, ← List.append_assoc]; exact G13
      · have hke : k = 8 := by omega
        subst hke
        simp (disch := omega) only [EO, ↓EP, EQ, EM, ↓reduceIte, Int.reduceAdd, Int.reduceEq, Int.reduceLE, Int.reduceLT, Int.reduceMul, Int.reduceNeg, Int.reducePow, Int.reduceSub, Int.reduceToNat, Nat.reduceAdd, Nat.reduceEqDiff, Nat.reduceLT, Nat.reduceLeDiff, Nat.reduceMul, reduceCtorEq, h126, q95]
        refine hN (8 - (i + 1)) _ _ (by omega) ⟨i + 1, O', by simp (disch := omega) only [EO, ↓EP, EQ, EM, ↓reduceIte, Int.reduceAdd, Int.reduceEq, Int.reduceLE, Int.reduceLT, Int.reduceMul, Int.reduceNeg, Int.reducePow, Int.reduceSub, Int.reduceToNat, Nat.reduceAdd, Nat.reduceEqDiff, Nat.reduceLT, Nat.reduceLeDiff, Nat.reduceMul, reduceCtorEq, q95, Int.natCast_add], by simp only [↓EP, EQ, EM, ↓reduceIte, Int.reduceAdd, Int.reduceEq, Int.reduceLE, Int.reduceLT, Int.reduceMul, Int.reduceNeg, Int.reducePow, Int.reduceSub, Int.reduceToNat, Nat.reduceAdd, Nat.reduceEqDiff, Nat.reduceLT, Nat.reduceLeDiff, Nat.reduceMul, reduceCtorEq, h8'], by omega, rfl, ?_⟩
        rw [flat_succ]; exact G11
    · have hie : i = 8 := by omega
      subst hie
      have hout : outF alg (last alg m) = (List.range 8).flatMap fun (i : Nat) => v8 (at' (last alg m).2 (i : Int)) := by rw [outF, if_neg (by omega)]
      rw [← hout] at G10
      obtain ⟨OA, oc, rfl, hoc, hOd⟩ := readn G10.sl rfl
      have hal10 := (H9.fr G10.fr (fun x => x)).alg
      simp (disch := omega) only [EO, ↓EP, EQ, EM, ↓reduceIte, Int.reduceAdd, Int.reduceEq, Int.reduceLE, Int.reduceLT, Int.reduceMul, Int.reduceNeg, Int.reducePow, Int.reduceSub, Int.reduceToNat, Nat.reduceAdd, Nat.reduceEqDiff, Nat.reduceLT, Nat.reduceLeDiff, Nat.reduceMul, reduceCtorEq, h95, h8, r0, hal10]
      refine size_spec alg _ _ ?_
      simp (disch := omega) only [EO, ↓EP, EQ, EM, ↓reduceIte, Int.reduceAdd, Int.reduceEq, Int.reduceLE, Int.reduceLT, Int.reduceMul, Int.reduceNeg, Int.reducePow, Int.reduceSub, Int.reduceToNat, Nat.reduceAdd, Nat.reduceEqDiff, Nat.reduceLT, Nat.reduceLeDiff, Nat.reduceMul, reduceCtorEq, h95, h8, r0, hal10]
      exact fin OA oc w10 G10 hoc
end Go.Proofs.YtcgplgpdcfocpaaDoor.Spec
end
section
set_option linter.unusedVariables false
set_option linter.unusedSimpArgs false
namespace Go.Proofs.YtcgplgpdcfocpaaDoor.Spec
open Go Go.RowKit Go.Proofs Go.Proofs.YtcgplgpdcfocpaaDoor.Eng Go.Proofs.YtcgplgpdcfocpaaDoor.Code
set_option maxRecDepth 100000
attribute [local irreducible] one
structure LL (w : World) (A : Option Addr) (l : List (List Int)) (hs : List Value) : Prop where
  rd : Rd w A hs
  len : hs.length = l.length
  each : ∀ (i : Nat) (p : List Int) (v : Value), l[i]? = some p → hs[i]? = some v → ∃ (B : Option Addr) (c : Nat), v = .slice B p.length c ∧ p.length ≤ c ∧ Rd w B (nums .u8 p)
theorem LL.fr {w w' : World} {A : Option Addr} {l : List (List Int)} {hs : List Value} (h : LL w A l hs) (f : Fr w w' nob) : LL w' A l hs :=
  ⟨h.rd.fr f (.inr fun _ _ x => x), h.len, fun i p v h1 h2 => by
    obtain ⟨B, c, e, hc, hr⟩ := h.each i p v h1 h2
    exact ⟨B, c, e, hc, hr.fr f (.inr fun _ _ x => x)⟩⟩
theorem rd_ro {k : IntKind} {w : World} {A : Option Addr} {l : List Int} (h : Rd w A (nums k l)) {P : Nat → Prop} (hp : ∀ b, P b → w.heap.size ≤ b) : RO k w A l P := by
  rcases h with h | ⟨p, e, h1, h2⟩
  · exact .inl (nums_isNil h)
  · exact .inr ⟨p, e, h1, fun x => by have := hp _ x; omega, h2⟩
def total (l : List (List Int)) : Nat := (l.map List.length).sum
theorem total_take (l : List (List Int)) (k : Nat) : total (l.take k) ≤ total l := by
  induction l generalizing k with
  | nil => simp [total]
  | cons a r ih =>
    cases k with
    | zero => simp [total]
    | succ k => have := ih k; simp only [total, List.take_succ_cons, List.map_cons, List.sum_cons] at *; omega
theorem total_succ {l : List (List Int)} {k : Nat} {p : List Int} (h : l[k]? = some p) : total (l.take (k + 1)) = total (l.take k) + p.length := by
  rw [List.take_add_one, h]
  simp [total]
theorem flat_take {l : List (List Int)} {k : Nat} {p : List Int} (h : l[k]? = some p) : (l.take (k + 1)).flatten = (l.take k).flatten ++ p := by
  rw [List.take_add_one, h]
  simp
theorem flat_total (l : List (List Int)) : l.flatten.length = total l := by simp [total, List.length_flatten]
set_option maxHeartbeats 2000000 in
theorem dsum_spec {w : World} (alg : Int) {A : Option Addr} {c : Nat} {l : List (List Int)} {hs : List Value} (hl : LL w A l hs) (hT : Tb w) (hmx : total l ≤ 16777216) (hn : l.length ≤ 4611686018427387904) (K : Value → World → Prop)
    (hK : 1 ≤ alg → alg ≤ 4 → ∀ B c w', (sizeI alg).toNat ≤ c → Sl .u8 w' (.slice B (sizeI alg).toNat c) (dig alg l.flatten) → (∀ b, blkOf (.slice B (sizeI alg).toNat c) = some b → w.heap.size ≤ b) → Fr w w' nob → K (.tuple #[.slice B (sizeI alg).toNat c, .int .i64 0]) w')
    (hK' : (alg < 1 ∨ 4 < alg) → ∀ w', Fr w w' nob → K (.tuple #[.slice none 0 0, .int .i64 1]) w') : callK Tryd.prog 51 [.int .i64 alg, .slice A l.length c] w K := by
  refine call_of Tryd.func51 Code.h51 (by simp [Code.c51]) ?_
  simp only [Code.c51, ↓EP, EQ, EM, ↓reduceIte, Int.reduceAdd, Int.reduceEq, Int.reduceLE, Int.reduceLT, Int.reduceMul, Int.reduceNeg, Int.reducePow, Int.reduceSub, Int.reduceToNat, Nat.reduceAdd, Nat.reduceEqDiff, Nat.reduceLT, Nat.reduceLeDiff, Nat.reduceMul, reduceCtorEq]
  refine size_spec alg _ _ ?_
  by_cases ha : alg < 1 ∨ 4 < alg
  · have h0 : sizeI alg = 0 := by unfold sizeI; rw [if_neg (by omega), if_neg (by omega), if_neg (by omega), if_neg (by omega)]
    simp only [↓EP, EQ, EM, ↓reduceIte, Int.reduceAdd, Int.reduceEq, Int.reduceLE, Int.reduceLT, Int.reduceMul, Int.reduceNeg, Int.reducePow, Int.reduceSub, Int.reduceToNat, Nat.reduceAdd, Nat.reduceEqDiff, Nat.reduceLT, Nat.reduceLeDiff, Nat.reduceMul, reduceCtorEq, h0]
    exact hK' ha w (Fr.refl _ _)
  have ha1 : 1 ≤ alg := by omega
  have ha4 : alg ≤ 4 := by omega
  have hsz : 0 < sizeI alg := by
    have c : alg = 1 ∨ alg = 2 ∨ alg = 3 ∨ alg = 4 := by omega
    rcases c with rfl | rfl | rfl | rfl <;> decide
  simp (disch := omega) only [EO, ↓EP, EQ, EM, ↓reduceIte, Int.reduceAdd, Int.reduceEq, Int.reduceLE, Int.reduceLT, Int.reduceMul, Int.reduceNeg, Int.reducePow, Int.reduceSub, Int.reduceToNat, Nat.reduceAdd, Nat.reduceEqDiff, Nat.reduceLT, Nat.reduceLeDiff, Nat.reduceMul, reduceCtorEq]
  have getE : ∀ (w' : World) (k : Nat), Fr w w' nob → k < l.length → ∃ ad p B c', A = some ad ∧ l[k]? = some p ∧ w'.cell? (ad.add k) = some (.slice B p.length c') ∧ p.length ≤ c' ∧ Rd w B (nums .u8 p) := by
    intro w' k f hk
    obtain ⟨ad, e, _, hc⟩ := (hl.fr f).rd.get (by rw [hl.len]; omega)
    have hk' : k < hs.length := by rw [hl.len]; exact hk
    obtain ⟨B, c', e1, h1, h2⟩ := hl.each k _ _ (List.getElem?_eq_getElem hk) (List.getElem?_eq_getElem hk')
    refine ⟨ad, _, B, c', e, List.getElem?_eq_getElem hk, ?_, h1, h2⟩
    rw [← e1]; exact hc k _ (List.getElem?_eq_getElem hk')
  refine loop_inv (fun t ρ w' => w' = w ∧ ∃ k : Nat, ρ 18 = .int .i64 k ∧ k ≤ l.length ∧ t = l.length - k ∧ ρ 6 = .int .i64 (total (l.take k))) _ ⟨rfl, 0, by simp only [↓EP, EQ, EM, ↓reduceIte, Int.reduceAdd, Int.reduceEq, Int.reduceLE, Int.reduceLT, Int.reduceMul, Int.reduceNeg, Int.reducePow, Int.reduceSub, Int.reduceToNat, Nat.reduceAdd, Nat.reduceEqDiff, Nat.reduceLT, Nat.reduceLeDiff, Nat.reduceMul, reduceCtorEq], Nat.zero_le _, rfl, by simp only [↓EP, EQ, EM, ↓reduceIte, Int.reduceAdd, Int.reduceEq, Int.reduceLE, Int.reduceLT, Int.reduceMul, Int.reduceNeg, Int.reducePow, Int.reduceSub, Int.reduceToNat, Nat.reduceAdd, Nat.reduceEqDiff, Nat.reduceLT, Nat.reduceLeDiff, Nat.reduceMul, reduceCtorEq]; rfl⟩ ?_
  rintro t ρ w' hf ⟨rfl, k, h18, hk, rfl, h6⟩ N hN
  have r0 : ρ 0 = .int .i64 alg := by rw [hf 0 rfl]; simp only [↓EP, EQ, EM, ↓reduceIte, Int.reduceAdd, Int.reduceEq, Int.reduceLE, Int.reduceLT, Int.reduceMul, Int.reduceNeg, Int.reducePow, Int.reduceSub, Int.reduceToNat, Nat.reduceAdd, Nat.reduceEqDiff, Nat.reduceLT, Nat.reduceLeDiff, Nat.reduceMul, reduceCtorEq]
  have r1 : ρ 1 = .slice A l.length c := by rw [hf 1 rfl]; simp only [↓EP, EQ, EM, ↓reduceIte, Int.reduceAdd, Int.reduceEq, Int.reduceLE, Int.reduceLT, Int.reduceMul, Int.reduceNeg, Int.reducePow, Int.reduceSub, Int.reduceToNat, Nat.reduceAdd, Nat.reduceEqDiff, Nat.reduceLT, Nat.reduceLeDiff, Nat.reduceMul, reduceCtorEq]
  have r16 : ρ 16 = .slice A l.length c := by rw [hf 16 rfl]; simp only [↓EP, EQ, EM, ↓reduceIte, Int.reduceAdd, Int.reduceEq, Int.reduceLE, Int.reduceLT, Int.reduceMul, Int.reduceNeg, Int.reducePow, Int.reduceSub, Int.reduceToNat, Nat.reduceAdd, Nat.reduceEqDiff, Nat.reduceLT, Nat.reduceLeDiff, Nat.reduceMul, reduceCtorEq]
  have r17 : ρ 17 = .int .i64 l.length := by rw [hf 17 rfl]; simp only [↓EP, EQ, EM, ↓reduceIte, Int.reduceAdd, Int.reduceEq, Int.reduceLE, Int.reduceLT, Int.reduceMul, Int.reduceNeg, Int.reducePow, Int.reduceSub, Int.reduceToNat, Nat.reduceAdd, Nat.reduceEqDiff, Nat.reduceLT, Nat.reduceLeDiff, Nat.reduceMul, reduceCtorEq]
  clear hf
  by_cases hkl : (k : Int) < (l.length : Int)
  · obtain ⟨ad, p, B, c', rfl, hp, hcell, hpc, hpr⟩ := getE w' k (Fr.refl _ _) (by omega)
    have ht := total_succ hp
    have ht2 := total_take l (k + 1)
    simp (disch := omega) only [EO, ↓EP, EQ, EM, ↓reduceIte, Int.reduceAdd, Int.reduceEq, Int.reduceLE, Int.reduceLT, Int.reduceMul, Int.reduceNeg, Int.reducePow, Int.reduceSub, Int.reduceToNat, Nat.reduceAdd, Nat.reduceEqDiff, Nat.reduceLT, Nat.reduceLeDiff, Nat.reduceMul, reduceCtorEq, h18, r16, r17, h6, hcell]
    refine hN (l.length - (k + 1)) _ _ (by omega) ⟨rfl, k + 1, by simp (disch := omega) only [EO, ↓EP, EQ, EM, ↓reduceIte, Int.reduceAdd, Int.reduceEq, Int.reduceLE, Int.reduceLT, Int.reduceMul, Int.reduceNeg, Int.reducePow, Int.reduceSub, Int.reduceToNat, Nat.reduceAdd, Nat.reduceEqDiff, Nat.reduceLT, Nat.reduceLeDiff, Nat.reduceMul, reduceCtorEq, h18, Int.natCast_add], by omega, rfl, ?_⟩
    simp (disch := omega) only [EO, ↓EP, EQ, EM, ↓reduceIte, Int.reduceAdd, Int.reduceEq, Int.reduceLE, Int.reduceLT, Int.reduceMul, Int.reduceNeg, Int.reducePow, Int.reduceSub, Int.reduceToNat, Nat.reduceAdd, Nat.reduceEqDiff, Nat.reduceLT, Nat.reduceLeDiff, Nat.reduceMul, reduceCtorEq, h6, ht, Int.natCast_add]
  simp (disch := omega) only [EO, ↓EP, EQ, EM, ↓reduceIte, Int.reduceAdd, Int.reduceEq, Int.reduceLE, Int.reduceLT, Int.reduceMul, Int.reduceNeg, Int.reducePow, Int.reduceSub, Int.reduceToNat, Nat.reduceAdd, Nat.reduceEqDiff, Nat.reduceLT, Nat.reduceLeDiff, Nat.reduceMul, reduceCtorEq, h18, r17, r0, r1]
  clear hN h18 h6 r16 r17
  have lt := hT.lt
  refine new_spec alg lt _ (fun _ _ w1 s1 H1 f1 => ?_) (fun h _ _ => absurd h ha)
  simp (disch := omega) only [EO, ↓EP, EQ, EM, ↓reduceIte, Int.reduceAdd, Int.reduceEq, Int.reduceLE, Int.reduceLT, Int.reduceMul, Int.reduceNeg, Int.reducePow, Int.reduceSub, Int.reduceToNat, Nat.reduceAdd, Nat.reduceEqDiff, Nat.reduceLT, Nat.reduceLeDiff, Nat.reduceMul, reduceCtorEq, r1]
  refine loop_inv (fun t ρ2 w2 => ∃ (k : Nat) (rv : Value), ρ2 39 = .int .i64 k ∧ k ≤ l.length ∧ t = l.length - k ∧ Hsh w2 w'.heap.size rv alg (l.take k).flatten ∧ (∀ b, blkOf rv = some b → w'.heap.size < b) ∧ Fr w' w2 nob) _ ⟨0, .slice none 0 0, by simp only [↓EP, EQ, EM, ↓reduceIte, Int.reduceAdd, Int.reduceEq, Int.reduceLE, Int.reduceLT, Int.reduceMul, Int.reduceNeg, Int.reducePow, Int.reduceSub, Int.reduceToNat, Nat.reduceAdd, Nat.reduceEqDiff, Nat.reduceLT, Nat.reduceLeDiff, Nat.reduceMul, reduceCtorEq], Nat.zero_le _, rfl, H1, fun b e => (by cases e), f1⟩ ?_
  rintro t ρ2 w2 hf ⟨k2, rv, h39, hk2, rfl, H2, hrv, f2⟩ N2 hN2
  have q9 : ρ2 9 = .pointer (some ⟨w'.heap.size, 0, none⟩) := by rw [hf 9 rfl]; simp only [↓EP, EQ, EM, ↓reduceIte, Int.reduceAdd, Int.reduceEq, Int.reduceLE, Int.reduceLT, Int.reduceMul, Int.reduceNeg, Int.reducePow, Int.reduceSub, Int.reduceToNat, Nat.reduceAdd, Nat.reduceEqDiff, Nat.reduceLT, Nat.reduceLeDiff, Nat.reduceMul, reduceCtorEq]
  have q37 : ρ2 37 = .slice A l.length c := by rw [hf 37 rfl]; simp only [↓EP, EQ, EM, ↓reduceIte, Int.reduceAdd, Int.reduceEq, Int.reduceLE, Int.reduceLT, Int.reduceMul, Int.reduceNeg, Int.reducePow, Int.reduceSub, Int.reduceToNat, Nat.reduceAdd, Nat.reduceEqDiff, Nat.reduceLT, Nat.reduceLeDiff, Nat.reduceMul, reduceCtorEq, r1]
  have q38 : ρ2 38 = .int .i64 l.length := by rw [hf 38 rfl]; simp only [↓EP, EQ, EM, ↓reduceIte, Int.reduceAdd, Int.reduceEq, Int.reduceLE, Int.reduceLT, Int.reduceMul, Int.reduceNeg, Int.reducePow, Int.reduceSub, Int.reduceToNat, Nat.reduceAdd, Nat.reduceEqDiff, Nat.reduceLT, Nat.reduceLeDiff, Nat.reduceMul, reduceCtorEq, r1]
  clear hf
  have hl2 := hl.fr f2
  have T2 := hT.fr f2 (fun x => x) (fun x => x)
  by_cases hkl : (k2 : Int) < (l.length : Int)
  · obtain ⟨ad, p, B, c', rfl, hp, hcell, hpc, hpr⟩ := getE w2 k2 f2 (by omega)
    have ht := total_succ hp
    have ht2 := total_take l (k2 + 1)
    have htf := flat_total (l.take k2)
    simp (disch := omega) only [EO, ↓EP, EQ, EM, ↓reduceIte, Int.reduceAdd, Int.reduceEq, Int.reduceLE, Int.reduceLT, Int.reduceMul, Int.reduceNeg, Int.reducePow, Int.reduceSub, Int.reduceToNat, Nat.reduceAdd, Nat.reduceEqDiff, Nat.reduceLT, Nat.reduceLeDiff, Nat.reduceMul, reduceCtorEq, h39, q9, q37, q38, hcell]
    have hro : RO .u8 w2 B p (hP w'.heap.size rv) := (rd_ro hpr (P := hP w'.heap.size rv) fun b e => by
      rcases e with e | e
      · omega
      · have := hrv b e; omega).fr (f2.mono fun _ _ e => e.elim)
    refine write_spec H2 T2 hro hpc (by omega) _ fun rv' w3 H3 T3 hrv3 f3 => ?_
    simp (disch := omega) only [EO, ↓EP, EQ, EM, ↓reduceIte, Int.reduceAdd, Int.reduceEq, Int.reduceLE, Int.reduceLT, Int.reduceMul, Int.reduceNeg, Int.reducePow, Int.reduceSub, Int.reduceToNat, Nat.reduceAdd, Nat.reduceEqDiff, Nat.reduceLT, Nat.reduceLeDiff, Nat.reduceMul, reduceCtorEq, h39]
    refine hN2 (l.length - (k2 + 1)) _ _ (by omega) ⟨k2 + 1, rv', by simp (disch := omega) only [EO, ↓EP, EQ, EM, ↓reduceIte, Int.reduceAdd, Int.reduceEq, Int.reduceLE, Int.reduceLT, Int.reduceMul, Int.reduceNeg, Int.reducePow, Int.reduceSub, Int.reduceToNat, Nat.reduceAdd, Nat.reduceEqDiff, Nat.reduceLT, Nat.reduceLeDiff, Nat.reduceMul, reduceCtorEq, h39, Int.natCast_add], by omega, rfl, ?_, ?_, ?_⟩
    · rw [flat_take hp]; exact H3
    · intro b e
      rcases hrv3 b e with h | h
      · exact hrv b h
      · have := H2.hc.blk.lt; omega
    · refine f2.trans f3 fun b hb e => ?_
      rcases e with e | e
      · omega
      · have := hrv b e; omega
  have hke : k2 = l.length := by omega
  subst hke
  rw [List.take_length] at H2
  have htf := flat_total l
  simp (disch := omega) only [EO, ↓EP, EQ, EM, ↓reduceIte, Int.reduceAdd, Int.reduceEq, Int.reduceLE, Int.reduceLT, Int.reduceMul, Int.reduceNeg, Int.reducePow, Int.reduceSub, Int.reduceToNat, Nat.reduceAdd, Nat.reduceEqDiff, Nat.reduceLT, Nat.reduceLeDiff, Nat.reduceMul, reduceCtorEq, h39, q9, q38]
  refine sum_spec H2 T2 (by omega) _ fun D cc w4 hcc hsl hup f4 => ?_
  simp (disch := omega) only [EO, ↓EP, EQ, EM, ↓reduceIte, Int.reduceAdd, Int.reduceEq, Int.reduceLE, Int.reduceLT, Int.reduceMul, Int.reduceNeg, Int.reducePow, Int.reduceSub, Int.reduceToNat, Nat.reduceAdd, Nat.reduceEqDiff, Nat.reduceLT, Nat.reduceLeDiff, Nat.reduceMul, reduceCtorEq]
  exact hK ha1 ha4 D cc w4 hcc hsl (fun b e => Nat.le_trans f2.size (hup b e)) (f2.trans f4 fun _ _ e => e)
end Go.Proofs.YtcgplgpdcfocpaaDoor.Spec
end
section
set_option linter.unusedVariables false
namespace Go.Proofs.YtcgplgpdcfocpaaDoor.Row
open Go Go.ChangeShapes Go.WideShapes Go.ChangeAt Go.WideMaps Go.WideElems Go.RowKit Go.Proofs.YtcgplgpdcfocpaaDoor.Eng
set_option maxRecDepth 100000
section
variable {H : Type} {enc : TypeId × Value → H} {P : Program}
theorem fr_below {W W' : World} (f : Fr W W' nob) : Below W.heap.size W W' := f.below (Nat.le_refl _) fun _ h => h.elim
theorem trodAll_stays (hl : laidOutB P = true) {W W' : World} (hb : Below W.heap.size W W') : ∀ (ts : List TypeId) (vs : List Value) (ds : List (DataW H)) (ps : List MemPlace), (∀ t ∈ ts, P.readableRec t = true ∧ t < P.types.size) →
    DataW.TrodAll enc P W 0 (fun _ => true) true ts vs ds ps → (∀ x ∈ ps, x.block < W.heap.size) → DataW.TrodAll enc P W' 0 (fun b => decide (b < W.heap.size)) true ts vs ds ps
  | [], vs, ds, ps, _, h, _ => by
    obtain ⟨rfl, rfl, rfl⟩ := trodAll_nil h
    exact h
  | t :: ts, vs, ds, ps, hr, h, hlt => by
    obtain ⟨v, vs', d, ds', p, q, rfl, rfl, rfl, hd, hrest⟩ := trodAll_cons h
    exact trodAll_cons_mk (Below.trod hl (hr t (by simp)).1 (hr t (by simp)).2 hd hb fun x hx => hlt x (by simp [hx]))
      (trodAll_stays hl hb ts vs' ds' q (fun u hu => hr u (by simp [hu])) hrest fun x hx => hlt x (by simp [hx]))
theorem lifted_of {C : Checked} {os : Os} {f : FuncId} {fn : Func} {s : ChangeSpec} {X : World → Array Value → Prop} {tb : TypeId} (hX : ∀ (w w' : World) (args : Array Value), w.heap = w'.heap → X w args → X w' args)
    (own : ownKnob C.prog.godebug = none) (started : os.Started) (noInit : C.prog.inits.idxOf? f = none) (hfn : C.prog.funcs[f]? = some fn)
    (witness : ∃ (w : World) (tape : Tape) (i : Input), w.os = os ∧ (w.forCall tape i).Shaped C.prog ∧ i.vars = [] ∧ Input.okWide C.prog (w.forCall tape i) .any w.heap.size f i ∧
      ((s.pre enc C.prog fn [] false (w.forCall tape i).memory i.args ∧ X (w.forCall tape i).memory i.args) ∧ sizedMet enc C.prog fn (OpenSpec.ofChange s) false (w.forCall tape i).memory i.args) ∧ ({} : Assume).holds C.prog (lone (Frame.enter C.prog f i.args .normal) [] (w.forCall tape i)))
    (hl : laidOutB C.prog = true) (hres : fn.resultTypes = #[tb]) (htb : C.prog.underlying tb = some .bool) (hvars : s.vars = []) (hread : ∀ t ∈ fn.params.toList, C.prog.readableRec t = true ∧ t < C.prog.types.size)
    (hspec : ∀ ds : List (DataW H), ds.length = fn.params.size → (s.fn H ds).results = [.lit (.bool true)] ∧ (s.fn H ds).args = ds ∧ (s.fn H ds).vars = [])
    (walk : ∀ (W : World) (base : Nat) (args : Array Value) (ds : List (DataW H)) (p : List MemPlace), DataW.TrodAll enc C.prog W 0 (fun _ => true) true fn.params.toList args.toList ds p →
      (∀ (j : Nat) t v, fn.params[j]? = some t → args[j]? = some v → Value.okWide C.prog W .any base t v) → (DataW.weightsEach C.prog fn.params.toList ds).all (· ≤ reachBytes) = true → X W args →
      callK C.prog f args.toList W fun v w' => v = .bool true ∧ Fr W w' nob) :
    ReturnsInHanded {} C os f .any (fun w args => (s.pre enc C.prog fn [] false w args ∧ X w args) ∧ sizedMet enc C.prog fn (OpenSpec.ofChange s) false w args) (s.post enc C.prog fn false true false false) := by
  refine returnsInHanded_of_change_and (C := C) (X := X) hX own started noInit hfn witness ?_
  intro W base args ds gs before hval hW _ hz hL _
  have hW' := hW
  obtain ⟨p, q, hA, hV, rfl, hfz, hnd⟩ := hW
  rw [hvars] at hV
  obtain ⟨rfl, rfl⟩ := trodVars_none hV
  have hvt : s.plain.varTypes C.prog = [] := by
    have : s.plain.vars = [] := by show s.vars = []; exact hvars
    simp [DataSpec.varTypes, this]
  rw [hvt, List.append_nil, List.append_nil] at hz
  have hlen : ds.length = fn.params.size := by have := (trodAll_length hA).2; simpa using this
  obtain ⟨h1, h2, h3⟩ := hspec ds hlen
  have hlt : ∀ x ∈ p, x.block < W.heap.size := fun x hx => hW'.lt x (by simp [hx])
  have hc := walk W base args ds p hA hval hz hL
  unfold callK at hc
  rw [Array.toArray_toList] at hc
  refine hc.mono fun e W' he => ?_
  obtain ⟨v, rfl, rfl, f⟩ := he
  have bel := fr_below f
  refine ⟨_, rfl, ds, [], p ++ [], [], p, [], hW', ?_, ?_, ?_, bel.frame _, fun h => by cases h⟩
  · rw [List.append_nil, h1, hres]
    exact trodAll_mk1 (shut_bool htb _)
  · rw [List.append_nil, h2]
    exact trodAll_stays hl bel _ _ _ _ hread hA hlt
  · rw [List.append_nil, h3, hvars]
    exact hV
theorem wf_u32 {n : Int} (h : (Lit.int .u32 n).wf = true) : 0 ≤ n ∧ n < 4294967296 := by have := bounds_u32 h; omega
theorem len1 {α : Type} {l : List α} (h : l.length = 1) : ∃ a, l = [a] := by
  match l, h with
  | [a], _ => exact ⟨a, rfl⟩
end
end Go.Proofs.YtcgplgpdcfocpaaDoor.Row
end
section
namespace Go.Proofs.YtcgplgpdcfocpaaDoor
open Go Go.ChangeShapes Go.WideShapes Go.ChangeAt Go.WideMaps Go.WideElems Go.RowKit Go.Proofs.YtcgplgpdcfocpaaDoor.Eng Go.Proofs.YtcgplgpdcfocpaaDoor.Spec
set_option maxRecDepth 100000
theorem own : ownKnob Tryd.prog.godebug = none := by kernel_rfl
theorem laidOut : laidOutB Tryd.prog = true := by kernel_rfl
theorem cells_u32 : Tryd.prog.cellsOf 46 = 1 := by kernel_rfl
def laid2 : List (String × DataW Unit) := [("chirograph/digest.k256", Rows.laid_chirograph_digest_k256), ("chirograph/digest.k512", Rows.laid_chirograph_digest_k512), ("unicode/utf8.acceptRanges", Rows.laid_unicode_utf8_acceptRanges), ("unicode/utf8.first", Rows.laid_unicode_utf8_first)]
theorem lay_shaped (os : Os) : (World.laidAll Tryd.prog os laid2).Shaped Tryd.prog := World.shaped_of_ZipB (by kernel_rfl) (by kernel_rfl)
theorem door_met (os : Os) (args : Array Value) : laidMetH Tryd.prog laid2 ((World.laidAll Tryd.prog os laid2).forCall (fun _ _ => 0) ⟨#[], args, []⟩).memory := by
  rw [MakeChecks.laidMetH_plain _ _ _ (by kernel_rfl)]
  exact laidMet_laidAll _ (by kernel_rfl) (by kernel_rfl)
theorem g0 : Tryd.prog.globalNamed "chirograph/digest.k256" = some 2 := by kernel_rfl
theorem g1 : Tryd.prog.globalNamed "chirograph/digest.k512" = some 3 := by kernel_rfl
theorem t0 : (Tryd.prog.globals[2]?).map (·.type) = some 108 := by kernel_rfl
theorem t1 : (Tryd.prog.globals[3]?).map (·.type) = some 111 := by kernel_rfl
theorem d0 : (Rows.laid_chirograph_digest_k256 : DataW Unit) = .agg (k256.map fun z => .lit (.int .u32 z)) := by kernel_rfl
theorem d1 : (Rows.laid_chirograph_digest_k512 : DataW Unit) = .agg (k512.map fun z => .lit (.int .u64 z)) := by kernel_rfl
theorem tab_cells {H : Type} {enc : TypeId × Value → H} {P : Program} {w : World} {k : IntKind} {t e n base fuel : Nat} {spare : Nat → Bool} {held : Bool} {cs : List Value} {l : List Int} {ps : List MemPlace} (ht : P.underlying t = some (.array n e)) (he : P.underlying e = some (.int k)) (hc : P.cellsOf e = 1)
    (h : DataW.trod enc P w base spare held fuel t cs = some (.agg (l.map fun z => .lit (.int k z)), ps)) {j : Nat} {v : Value} (hv : (nums k l)[j]? = some v) : cs[j]? = some v := by
  obtain ⟨xs, m, rfl, hx, hlen, hn, hel⟩ := DataW.trod_array ht h
  simp only [Prod.mk.injEq, DataW.agg.injEq] at hx
  have hll : l.length = n := by have := congrArg List.length hx.1; simpa [hn] using this
  have hj : j < l.length := by
    have := (List.getElem?_eq_some_iff.1 hv).1
    simpa [nums_length] using this
  have hjx : j < xs.length := by omega
  have h1 := hel j (by omega)
  rw [List.getElem?_eq_getElem hjx, hc, Nat.mul_one] at h1
  obtain ⟨z, e1, e2, _⟩ := DataW.trod_int he h1
  have h3 : l[j] = z := by
    have := congrArg (fun q => q[j]?) hx.1
    simp only [List.getElem?_map, List.getElem?_eq_getElem hjx, List.getElem?_eq_getElem hj, Option.map_some, e2, Option.some.injEq, DataW.lit.injEq, Lit.int.injEq, true_and] at this
    exact this
  have h4 : cs[j]? = some (.int k z) := by
    have := congrArg (fun q => q[0]?) e1
    simpa using this
  rw [h4, ← hv, nums_get hj]
  simp [List.getD_eq_getElem?_getD, hj, h3]
theorem of_laid {W : World} (h : laidMetH Tryd.prog laid2 W) : Tb W := by
  rw [MakeChecks.laidMetH_plain _ _ _ (by kernel_rfl)] at h
  obtain ⟨ps, ⟨y0, ty0, cs0, f0, p0, q0, hg0, ht0, hv0, hd0, ⟨y1, ty1, cs1, f1, p1, q1, hg1, ht1, hv1, hd1, _, _⟩, _⟩, _, _⟩ := h
  obtain rfl := Option.some.inj (g0.symm.trans hg0)
  obtain rfl := Option.some.inj (g1.symm.trans hg1)
  obtain rfl := Option.some.inj (t0.symm.trans ht0)
  obtain rfl := Option.some.inj (t1.symm.trans ht1)
  rw [d0] at hd0
  rw [d1] at hd1
  refine ⟨fun j v hj => ?_, fun j v hj => ?_, ?_, ?_⟩
  · rw [Addr.add_lit, Nat.zero_add, World.var?_cell hg0 hv0 j, ← Array.getElem?_toList]
    exact tab_cells Tryd.underlying108 Tryd.underlying46 (by kernel_rfl) hd0 hj
  · rw [Addr.add_lit, Nat.zero_add, World.var?_cell hg1 hv1 j, ← Array.getElem?_toList]
    exact tab_cells Tryd.underlying111 Tryd.underlying71 (by kernel_rfl) hd1 hj
  · simp only [World.var?, hg1, Option.bind_some] at hv1
    cases hh : W.heap[3]? with
    | none => rw [hh] at hv1; simp at hv1
    | some o => exact (Array.getElem?_eq_some_iff.1 hh).1
  · simp only [World.var?, hg0, Option.bind_some] at hv0
    cases hh : W.heap[2]? with
    | none => rw [hh] at hv0; simp at hv0
    | some o => exact (Array.getElem?_eq_some_iff.1 hh).1
end Go.Proofs.YtcgplgpdcfocpaaDoor
end
section
set_option linter.unusedVariables false
namespace Go.Proofs.YtcgplgpdcfocpaaDoor.Row
open Go Go.ChangeShapes Go.WideShapes Go.ChangeAt Go.WideMaps Go.WideElems Go.RowKit Go.Proofs.YtcgplgpdcfocpaaDoor.Eng
set_option maxRecDepth 100000
section
variable {H : Type} {enc : TypeId × Value → H} {P : Program}
theorem rd_of_cells {W : World} {a : Addr} {vs : List Value} (h : ∀ i, i < vs.length → W.cell? (a.add i) = vs[i]?) : Rd W (some a) vs := by
  by_cases h0 : vs = []
  · exact .inl h0
  · right
    have hp : 0 < vs.length := List.length_pos_iff.2 h0
    refine ⟨a, rfl, ?_, fun j v hj => ?_⟩
    · have h00 := h 0 hp
      rw [add_zero'] at h00
      rw [List.getElem?_eq_getElem hp] at h00
      unfold World.cell? at h00
      cases hh : W.heap[a.block]? with
      | none => rw [hh] at h00; simp at h00
      | some o => exact (Array.getElem?_eq_some_iff.1 hh).1
    · rw [h j (List.getElem?_eq_some_iff.1 hj).1, hj]
theorem cell_sl {W : World} {e e1 : TypeId} {k : IntKind} {fuel : Nat} {cs : List Value} {y : DataW H × List MemPlace} (he : P.underlying e = some (.slice e1)) (he1 : P.underlying e1 = some (.int k)) (hc1 : P.cellsOf e1 = 1)
    (h : DataW.trod enc P W 0 (fun _ => true) true fuel e cs = some y) : ∃ (B : Option Addr) (c' : Nat) (p : List Int), cs = [.slice B p.length c'] ∧ p.length ≤ c' ∧ Rd W B (nums k p) ∧ (∀ n ∈ p, (Lit.int k n).wf = true) ∧ p.length ≤ maxLen := by
  rcases open_ints he he1 hc1 h with ⟨rfl, rfl⟩ | ⟨a, len, cap, zs, rfl, _, hl, hm, hz, hx, hcell, hwz⟩
  · exact ⟨none, 0, [], rfl, Nat.le_refl _, .inl rfl, (fun n hn => by cases hn), Nat.zero_le _⟩
  · simp only [if_true] at hz
    have hlen : (zs.take len).length = len := by simp; omega
    refine ⟨some a, cap, zs.take len, by rw [hlen], by omega, rd_of_cells fun i hi => ?_, fun n hn => hwz n (List.mem_of_mem_take hn), by omega⟩
    rw [nums_length, hlen] at hi
    rw [hcell i (by omega), nums_get (by omega)]
    congr 2
    rw [List.getD_eq_getElem?_getD, List.getD_eq_getElem?_getD, List.getElem?_take, if_pos hi]
end
end Go.Proofs.YtcgplgpdcfocpaaDoor.Row
end
section
set_option linter.unusedVariables false
namespace Go.Proofs.YtcgplgpdcfocpaaDoor.Row
open Go Go.ChangeShapes Go.WideShapes Go.ChangeAt Go.WideMaps Go.WideElems Go.RowKit Go.Proofs.YtcgplgpdcfocpaaDoor.Eng
set_option maxRecDepth 100000
section
variable {H : Type} {enc : TypeId × Value → H} {P : Program}
theorem cell_slv {W : World} {t e1 : TypeId} {k : IntKind} {fuel : Nat} {v : Value} {y : DataW H × List MemPlace} (ht : P.underlying t = some (.slice e1)) (he1 : P.underlying e1 = some (.int k)) (hc1 : P.cellsOf e1 = 1) (h : DataW.trod enc P W 0 (fun _ => true) true fuel t [v] = some y) :
    ∃ (B : Option Addr) (c' : Nat) (p : List Int), v = .slice B p.length c' ∧ p.length ≤ c' ∧ Rd W B (nums k p) ∧ (∀ n ∈ p, (Lit.int k n).wf = true) ∧ p.length ≤ maxLen := by
  obtain ⟨B, c', p, h1, h2⟩ := cell_sl ht he1 hc1 h
  cases h1
  exact ⟨B, c', p, rfl, h2⟩
end
end Go.Proofs.YtcgplgpdcfocpaaDoor.Row
end
section
set_option linter.unusedVariables false
set_option linter.unusedSimpArgs false
namespace Go.Proofs.YtcgplgpdcfocpaaDoor.Spec
open Go Go.RowKit Go.Proofs Go.Proofs.YtcgplgpdcfocpaaDoor.Eng Go.Proofs.YtcgplgpdcfocpaaDoor.Code
set_option maxRecDepth 100000
attribute [local irreducible] callK S.W opsW scrW dig
def be4 (i : Nat) : List Int := [((i / 16777216 % 256 : Nat) : Int), ((i / 65536 % 256 : Nat) : Int), ((i / 256 % 256 : Nat) : Int), ((i % 256 : Nat) : Int)]
def blkM (alg : Int) (seed : List Int) (i : Nat) : List Int := dig alg (seed ++ be4 i)
theorem mk_size {alg : Int} (a1 : 1 ≤ alg) (a4 : alg ≤ 4) : 20 ≤ sizeI alg ∧ sizeI alg ≤ 64 := by
  have c : alg = 1 ∨ alg = 2 ∨ alg = 3 ∨ alg = 4 := by omega
  rcases c with rfl | rfl | rfl | rfl <;> decide
theorem dig_len {alg : Int} (a1 : 1 ≤ alg) (a4 : alg ≤ 4) (m : List Int) : (dig alg m).length = (sizeI alg).toNat := by
  have := out_len a1 a4 (last alg m)
  unfold dig
  rw [List.length_take]; omega
theorem two_ll {w w' : World} {A B : Option Addr} {c d : Nat} {p q : List Int} (n : New w w' [.slice A p.length c, .slice B q.length d]) (hc : p.length ≤ c) (hd : q.length ≤ d) (hp : Rd w' A (nums .u8 p)) (hq : Rd w' B (nums .u8 q)) : LL w' (some ⟨w.heap.size, 0, none⟩) [p, q] [.slice A p.length c, .slice B q.length d] := by
  refine ⟨n.rdv, rfl, fun i u v h1 h2 => ?_⟩
  match i, h1, h2 with
  | 0, h1, h2 => simp at h1 h2; subst h1 h2; exact ⟨A, c, rfl, hc, hp⟩
  | 1, h1, h2 => simp at h1 h2; subst h1 h2; exact ⟨B, d, rfl, hd, hq⟩
  | i + 2, h1, h2 => simp at h1
theorem r3_form : ∃ (id : Nat) (o1 o2 o3 o4 : Oper) (R0 R1 R2 : Code), Tryd.f50.body = some (.seq R0 (.block 0 (.loop (.seq (.block 1 (.seq R2 (.seq (.region id #[o1, o2, o3, o4] false) (.cond (.tmp 31) .ret .skip)))) R1)))) ∧
    strS Tryd.prog 32 [] R0 = some (.ops [⟨some 4, none, .mv (.const (.int .i64 0))⟩]) ∧ o1.op = .move (.tmp 0) ∧ o1.guard = none ∧ o1.dst = some 28 ∧ o2.op = .move (.tmp 5) ∧ o2.guard = none ∧ o2.dst = some 29 ∧
    o3.op = .call { callee := .value (.tmp 28), args := #[.tmp 29], argTypes := #[31] } ∧ o3.guard = none ∧ o3.dst = some 30 ∧ o4.op = .unOp .not 4 (.tmp 30) ∧ o4.guard = none ∧ o4.dst = some 31 := by
  exact ⟨_, _, _, _, _, _, _, _, rfl, by kernel_rfl, rfl, rfl, rfl, rfl, rfl, rfl, rfl, rfl, rfl, rfl, rfl, rfl⟩
theorem strF_code {P : Program} {dn : List (Nat × Sc)} {fn : Func} {F : Fun} {c : Go.Code} (h : strF P dn fn = some F) (hb : fn.body = some c) : strS P F.n dn c = some F.code ∧ F.n = fn.ntmps := by
  unfold strF at h
  rw [hb] at h
  simp only at h
  split at h
  · rename_i s r hs hr
    cases h
    exact ⟨hs, rfl⟩
  · cases h
theorem env_args (args : List Value) (k : Nat) : envOf ⟨args.toArray ++ Array.replicate k undef, []⟩ = env0 args := by
  funext t
  simp only [envOf, env0, Array.getD_eq_getD_getElem?, List.getD_eq_getElem?_getD]
  rcases Nat.lt_or_ge t args.length with ht | ht
  · simp [Array.getElem?_append, ht]
  · simp only [Array.getElem?_append, List.size_toArray]
    rw [if_neg (by omega), List.getElem?_eq_none ht]
    simp only [Array.getElem?_replicate]
    split <;> simp
theorem run_move {P : Program} {o : Oper} {x : Operand} (h : o.op = .move x) (e : Operand → Value) (w : World) (K : Value → World → Prop) (hK : K (e x) w) : runK P o e w K := by
  obtain ⟨d, op, ty, pos, af, gd⟩ := o
  subst h
  exact hK
theorem run_not {P : Program} {o : Oper} {t : TypeId} {x : Operand} {b : Bool} (h : o.op = .unOp .not t x) (e : Operand → Value) (he : e x = .bool b) (w : World) (K : Value → World → Prop) (hK : K (.bool !b) w) : runK P o e w K := by
  obtain ⟨d, op, ty, pos, af, gd⟩ := o
  subst h
  have : (execOp e ⟨d, .unOp .not t x, ty, pos, af, gd⟩).run P w = .ok (.value (.bool !b)) w := by
    simp [execOp, he, go_sem, Op.unary]
  unfold runK
  rw [this]
  exact hK
theorem run_yld {P : Program} {o : Oper} {x y : Operand} {ts : Array TypeId} {l : Nat} {r : Next} (h : o.op = .call { callee := .value x, args := #[y], argTypes := ts }) (e : Operand → Value) (hx : e x = .func (.yield l) #[] #[]) (w : World) (hy : (Instr.yield l #[e y]).run P w = .ok r w) : (execOp e o).run P w = .ok r w := by
  obtain ⟨d, op, ty, pos, af, gd⟩ := o
  subst h
  simp [execOp, hx, go_sem, resolve, invoke, hy]
def YldAt (m : Nat) (P : Program) (l : Nat) (x : Value) (W : World) (R : Ending → World → Prop) : Prop := ∃ fn tmps assign body, (Instr.yield l #[x]).run P W = .ok (.round l fn tmps assign body) W ∧ RoundIn Fence.wide m P l fn tmps assign body W R
def idxOf (v : Value) : Nat := match v with | .int _ n => n.toNat | _ => 0
set_option maxHeartbeats 4000000 in
theorem blk_iter {alg : Int} {seed : List Int} (a1 : 1 ≤ alg) (a4 : alg ≤ 4) (hseed : seed.length ≤ 16777000) {N l ba bs m : Nat} (hN : N ≤ 2147483648) {I : Nat → World → Prop} {Ix : World → Prop} {W0 : World}
    (hbd : ∀ i W, I i W → i < N)
    (hrd : ∀ i W, I i W → W.cell? ⟨ba, 0, none⟩ = some (.int .i64 alg) ∧ (∃ A c, W.cell? ⟨bs, 0, none⟩ = some (.slice A seed.length c) ∧ seed.length ≤ c ∧ Rd W A (nums .u8 seed)) ∧ Tb W)
    (hround : ∀ i W A c W', I i W → Gw .u8 W W' (.slice A (sizeI alg).toNat c) (blkM alg seed i) → YldAt m Tryd.prog l (.slice A (sizeI alg).toNat c) W' fun e W'' => (e = .returned (.bool true) ∧ I (i + 1) W'') ∨ (e = .returned (.bool false) ∧ Ix W''))
    (h0 : I 0 W0) : CallsIn Fence.wide (m + 1) Tryd.prog 50 #[.func (.yield l) #[] #[], .pointer (some ⟨ba, 0, none⟩), .pointer (some ⟨bs, 0, none⟩)] W0 fun e W => (∃ v, e = .returned v) ∧ Ix W := by
  obtain ⟨id, o1, o2, o3, o4, R0, R1, R2, hb, hs0, h1, g1, d1, h2, g2, d2, h3, g3, d3, h4, g4, d4⟩ := r3_form
  obtain ⟨hs, hn⟩ := strF_code Code.h50 hb
  simp only [Code.c50] at hs hn
  obtain ⟨_, _, e, hsa, hs⟩ := inv_seq hs
  cases e
  obtain ⟨_, e, hs⟩ := inv_block hs
  cases e
  obtain ⟨_, e, hs⟩ := inv_loop hs
  cases e
  obtain ⟨_, _, e, hs, hs1⟩ := inv_seq hs
  cases e
  obtain ⟨_, e, hs⟩ := inv_block hs
  cases e
  obtain ⟨_, _, e, hs2, hs⟩ := inv_seq hs
  cases e
  clear hs hs0
  refine callsIn_of_wp Tryd.func50 hb trivial ?_ rfl
  rw [← hn]
  refine wpIn_seq ?_
  refine eng_wide hsa (dfs := []) (by simp) rfl (K := fun e ρ w' => e = .normal ∧ w' = W0 ∧ ρ 0 = .func (.yield l) #[] #[] ∧ ρ 1 = .pointer (some ⟨ba, 0, none⟩) ∧ ρ 2 = .pointer (some ⟨bs, 0, none⟩) ∧ ρ 4 = .int .i64 0) ?_ ?_
  · rw [show envOf { tmps := #[.func (.yield l) #[] #[], .pointer (some ⟨ba, 0, none⟩), .pointer (some ⟨bs, 0, none⟩)] ++ Array.replicate (32 - #[Value.func (.yield l) #[] #[], Value.pointer (some ⟨ba, 0, none⟩), Value.pointer (some ⟨bs, 0, none⟩)].size) undef, defers := [] } = env0 [.func (.yield l) #[] #[], .pointer (some ⟨ba, 0, none⟩), .pointer (some ⟨bs, 0, none⟩)] from env_args _ _]
    simp (disch := omega) only [wu64, wu32, wu8, fdiv_nn, EO, ↓EP, EQ, EM, ↓reduceIte, Int.reduceAdd, Int.reduceEq, Int.reduceLE, Int.reduceLT, Int.reduceMul, Int.reduceNeg, Int.reducePow, Int.reduceSub, Int.reduceToNat, Nat.reduceAdd, Nat.reduceEqDiff, Nat.reduceLT, Nat.reduceLeDiff, Nat.reduceMul, reduceCtorEq]
  rintro e a w ⟨hsz, hdf, rfl, rfl, e0, e1, e2, e4⟩
  show (Go.Code.block 0 _).wpIn _ _ _ _ _ _
  refine wpIn_block ?_
  refine wpIn_loop (fun a w => a.tmps.size = 32 ∧ a.defers = [] ∧ ∃ i : Nat, I i w ∧ envOf a 0 = .func (.yield l) #[] #[] ∧ envOf a 1 = .pointer (some ⟨ba, 0, none⟩) ∧ envOf a 2 = .pointer (some ⟨bs, 0, none⟩) ∧ envOf a 4 = .int .i64 i) (fun a _ => N - idxOf (envOf a 4)) ⟨hsz, hdf, 0, h0, e0, e1, e2, e4⟩ ?_
  clear hsz hdf e0 e1 e2 e4 h0
  rintro a W ⟨hsz, hdf, i, hI, e0, e1, e2, e4⟩
  have hiN := hbd i W hI
  obtain ⟨c1, ⟨A, c, c2, hc, hr⟩, hT⟩ := hrd i W hI
  have hzz := mk_size a1 a4
  refine wpIn_seq ?_
  refine wpIn_block ?_
  refine wpIn_seq ?_
  refine eng_wide hs2 (dfs := []) hsz hdf (K := fun e ρ w' => e = .normal ∧ ∃ A c, Gw .u8 W w' (.slice A (sizeI alg).toNat c) (blkM alg seed i) ∧ ρ 0 = .func (.yield l) #[] #[] ∧ ρ 1 = .pointer (some ⟨ba, 0, none⟩) ∧ ρ 2 = .pointer (some ⟨bs, 0, none⟩) ∧ ρ 4 = .int .i64 i ∧ ρ 5 = .slice A (sizeI alg).toNat c) ?_ ?_
  · have e24 : (2 : Int) ^ 24 = 16777216 := rfl
    have e16 : (2 : Int) ^ 16 = 65536 := rfl
    have e8 : (2 : Int) ^ 8 = 256 := rfl
    have w24 : IntKind.u8.wrap ((i : Int) / 16777216) = ((i / 16777216 % 256 : Nat) : Int) := by rw [wu8_mod]; omega
    have w16 : IntKind.u8.wrap ((i : Int) / 65536) = ((i / 65536 % 256 : Nat) : Int) := by rw [wu8_mod]; omega
    have w8 : IntKind.u8.wrap ((i : Int) / 256) = ((i / 256 % 256 : Nat) : Int) := by rw [wu8_mod]; omega
    have w0 : IntKind.u8.wrap (i : Int) = ((i % 256 : Nat) : Int) := by rw [wu8_mod]; omega
    simp (disch := omega) only [wu64, wu32, wu8, fdiv_nn, EO, ↓EP, EQ, EM, ↓reduceIte, Int.reduceAdd, Int.reduceEq, Int.reduceLE, Int.reduceLT, Int.reduceMul, Int.reduceNeg, Int.reducePow, Int.reduceSub, Int.reduceToNat, Nat.reduceAdd, Nat.reduceEqDiff, Nat.reduceLT, Nat.reduceLeDiff, Nat.reduceMul, reduceCtorEq, e0, e1, e2, e4, c1, c2, e24, e16, e8, w24, w16, w8, w0]
    refine bsl4 fun w2 n2 => ?_
    have f2 := n2.fr nob
    simp (disch := omega) only [wu64, wu32, wu8, fdiv_nn, EO, ↓EP, EQ, EM, ↓reduceIte, Int.reduceAdd, Int.reduceEq, Int.reduceLE, Int.reduceLT, Int.reduceMul, Int.reduceNeg, Int.reducePow, Int.reduceSub, Int.reduceToNat, Nat.reduceAdd, Nat.reduceEqDiff, Nat.reduceLT, Nat.reduceLeDiff, Nat.reduceMul, reduceCtorEq]
    refine bslS2 fun w3 n3 => ?_
    have f3 := n3.fr nob
    simp (disch := omega) only [wu64, wu32, wu8, fdiv_nn, EO, ↓EP, EQ, EM, ↓reduceIte, Int.reduceAdd, Int.reduceEq, Int.reduceLE, Int.reduceLT, Int.reduceMul, Int.reduceNeg, Int.reducePow, Int.reduceSub, Int.reduceToNat, Nat.reduceAdd, Nat.reduceEqDiff, Nat.reduceLT, Nat.reduceLeDiff, Nat.reduceMul, reduceCtorEq]
    have L := two_ll (p := seed) (q := be4 i) n3 hc (Nat.le_refl 4) ((hr.nb f2).nb f3) (n2.rdv.nb f3)
    have hfl : [seed, be4 i].flatten = seed ++ be4 i := by simp
    refine dsum_spec alg (l := [seed, be4 i]) L ((hT.fr f2 (fun x => x) (fun x => x)).fr f3 (fun x => x) (fun x => x)) (by simp [total, be4]; omega) (by simp) _ (fun _ _ B d w4 hd s4 u4 f4 => ?_) (fun h => by omega)
    rw [hfl] at s4
    simp (disch := omega) only [wu64, wu32, wu8, fdiv_nn, EO, ↓EP, EQ, EM, ↓reduceIte, Int.reduceAdd, Int.reduceEq, Int.reduceLE, Int.reduceLT, Int.reduceMul, Int.reduceNeg, Int.reducePow, Int.reduceSub, Int.reduceToNat, Nat.reduceAdd, Nat.reduceEqDiff, Nat.reduceLT, Nat.reduceLeDiff, Nat.reduceMul, reduceCtorEq]
    refine ⟨B, d, ⟨s4, fun b e => ?_, (f2.nb f3).nb f4⟩, e0, e1, e2, e4, rfl⟩
    have := u4 b e
    have := (f2.nb f3).size
    omega
  rintro e a' w' ⟨hsz', hdf', rfl, A', c', g, k0, k1, k2, k4, k5⟩
  show (Go.Code.seq _ _).wpIn _ _ _ _ _ _
  refine wpIn_seq ?_
  refine wpIn_region_list ?_
  show wpListIn _ _ _ _ _ [o1, o2, o3, o4] a' w'
  refine wpListIn_plain g1 fun K1 hK1 => ?_
  refine oper_wpIn (ro := none) (by rw [h1]; exact fun _ h => by cases h) (K := fun v w'' => v = .func (.yield l) #[] #[] ∧ w' = w'') (run_move h1 _ _ _ ⟨by rw [eval_env]; exact k0, rfl⟩) ?_
  rintro v w'' ⟨rfl, rfl⟩
  refine hK1 _ _ ?_
  rw [d1]
  have hz1 : (a'.put (some 28) (.func (.yield l) #[] #[])).tmps.size = 32 := by rw [put_size]; exact hsz'
  have v1 := env_put (a := a') (d := 28) (by omega) (.func (.yield l) #[] #[])
  have f1 : (a'.put (some 28) (.func (.yield l) #[] #[])).defers = [] := by rw [put_defers]; exact hdf'
  generalize a'.put (some 28) (.func (.yield l) #[] #[]) = b1 at hz1 v1 f1
  have q5 : envOf b1 5 = .slice A' (sizeI alg).toNat c' := by rw [v1]; exact k5
  refine wpListIn_plain g2 fun K2 hK2 => ?_
  refine oper_wpIn (ro := none) (by rw [h2]; exact fun _ h => by cases h) (K := fun v w'' => v = .slice A' (sizeI alg).toNat c' ∧ w' = w'') (run_move h2 _ _ _ ⟨by rw [eval_env]; exact q5, rfl⟩) ?_
  rintro v w'' ⟨rfl, rfl⟩
  refine hK2 _ _ ?_
  rw [d2]
  have hz2 : (b1.put (some 29) (.slice A' (sizeI alg).toNat c')).tmps.size = 32 := by rw [put_size]; exact hz1
  have v2 := env_put (a := b1) (d := 29) (by omega) (.slice A' (sizeI alg).toNat c')
  have f2 : (b1.put (some 29) (.slice A' (sizeI alg).toNat c')).defers = [] := by rw [put_defers]; exact f1
  generalize b1.put (some 29) (.slice A' (sizeI alg).toNat c') = b2 at hz2 v2 f2
  have q28 : envOf b2 28 = .func (.yield l) #[] #[] := by rw [v2, v1]; rfl
  have q29 : envOf b2 29 = .slice A' (sizeI alg).toNat c' := by rw [v2]; rfl
  have q0 : envOf b2 0 = .func (.yield l) #[] #[] := by rw [v2, v1]; exact k0
  have q1 : envOf b2 1 = .pointer (some ⟨ba, 0, none⟩) := by rw [v2, v1]; exact k1
  have q2 : envOf b2 2 = .pointer (some ⟨bs, 0, none⟩) := by rw [v2, v1]; exact k2
  have q4 : envOf b2 4 = .int .i64 i := by rw [v2, v1]; exact k4
  obtain ⟨fn, tmps, asg, body, hy, hR⟩ := hround i W A' c' w' hI g
  refine wpListIn_plain g3 fun K3 hK3 => ?_
  refine ⟨fun f _ => trivial, ?_⟩
  rw [show o3.semAt Fence.wide.round b2.eval = execOp b2.eval o3 from rfl, run_yld h3 b2.eval (by rw [eval_env]; exact q28) w' (by rw [eval_env]; show (Instr.yield l #[envOf b2 29]).run _ _ = _; rw [q29]; exact hy)]
  rw [Oper.uponIn_round]
  refine ⟨(fun h => by cases h), ?_⟩
  refine hR.mono ?_
  rintro e W'' hW
  have hv : ∃ bb : Bool, e = .returned (.bool bb) ∧ ((bb = true ∧ I (i + 1) W'') ∨ (bb = false ∧ Ix W'')) := by
    rcases hW with ⟨rfl, h⟩ | ⟨rfl, h⟩
    · exact ⟨true, rfl, .inl ⟨rfl, h⟩⟩
    · exact ⟨false, rfl, .inr ⟨rfl, h⟩⟩
  obtain ⟨bb, rfl, hbb⟩ := hv
  refine hK3 _ _ ?_
  rw [d3]
  have hz3 : (b2.put (some 30) (.bool bb)).tmps.size = 32 := by rw [put_size]; exact hz2
  have v3 := env_put (a := b2) (d := 30) (by omega) (.bool bb)
  have f3 : (b2.put (some 30) (.bool bb)).defers = [] := by rw [put_defers]; exact f2
  generalize b2.put (some 30) (.bool bb) = b3 at hz3 v3 f3
  have r30 : envOf b3 30 = .bool bb := by rw [v3]; rfl
  refine wpListIn_plain g4 fun K4 hK4 => ?_
  refine oper_wpIn (ro := none) (by rw [h4]; exact fun _ h => by cases h) (K := fun v w'' => v = .bool !bb ∧ W'' = w'') (run_not h4 _ (by rw [eval_env]; exact r30) _ _ ⟨rfl, rfl⟩) ?_
  rintro v w'' ⟨rfl, rfl⟩
  refine hK4 _ _ ?_
  rw [d4]
  have hz4 : (b3.put (some 31) (.bool !bb)).tmps.size = 32 := by rw [put_size]; exact hz3
  have v4 := env_put (a := b3) (d := 31) (by omega) (.bool !bb)
  have f4 : (b3.put (some 31) (.bool !bb)).defers = [] := by rw [put_defers]; exact f3
  generalize b3.put (some 31) (.bool !bb) = b4 at hz4 v4 f4
  have s31 : envOf b4 31 = .bool !bb := by rw [v4]; rfl
  have s0 : envOf b4 0 = .func (.yield l) #[] #[] := by rw [v4, v3]; exact q0
  have s1 : envOf b4 1 = .pointer (some ⟨ba, 0, none⟩) := by rw [v4, v3]; exact q1
  have s2 : envOf b4 2 = .pointer (some ⟨bs, 0, none⟩) := by rw [v4, v3]; exact q2
  have s4 : envOf b4 4 = .int .i64 i := by rw [v4, v3]; exact q4
  show (Go.Code.cond (.tmp 31) .ret .skip).wpIn _ _ _ _ _ _
  refine wpIn_cond (t := !bb) (by rw [eval_env]; exact s31) ?_
  rcases hbb with ⟨rfl, hI2⟩ | ⟨rfl, hx⟩
  · show Go.Code.skip.wpIn _ _ _ _ _ _
    refine wpIn_skip ?_
    show R1.wpIn _ _ _ _ _ _
    refine eng_wide hs1 (dfs := []) hz4 f4 (K := fun e ρ w' => e = .normal ∧ w' = W'' ∧ ρ 0 = .func (.yield l) #[] #[] ∧ ρ 1 = .pointer (some ⟨ba, 0, none⟩) ∧ ρ 2 = .pointer (some ⟨bs, 0, none⟩) ∧ ρ 4 = .int .i64 ((i + 1 : Nat) : Int)) ?_ ?_
    · have hi1 := hbd _ _ hI2
      simp (disch := omega) only [wu64, wu32, wu8, fdiv_nn, EO, ↓EP, EQ, EM, ↓reduceIte, Int.reduceAdd, Int.reduceEq, Int.reduceLE, Int.reduceLT, Int.reduceMul, Int.reduceNeg, Int.reducePow, Int.reduceSub, Int.reduceToNat, Nat.reduceAdd, Nat.reduceEqDiff, Nat.reduceLT, Nat.reduceLeDiff, Nat.reduceMul, reduceCtorEq, s4]
      exact ⟨s0, s1, s2, by rw [Int.natCast_add]; rfl⟩
    rintro e a5 w5 ⟨z5, d5, rfl, rfl, t0, t1, t2, t4⟩
    refine ⟨⟨z5, d5, i + 1, hI2, t0, t1, t2, t4⟩, ?_⟩
    show N - idxOf (envOf a5 4) < N - idxOf (envOf a 4)
    rw [t4, e4]
    show N - ((i + 1 : Nat) : Int).toNat < N - (i : Int).toNat
    omega
  · show Go.Code.ret.wpIn _ _ _ _ _ _
    refine wpIn_ret ?_
    show bodyPost Tryd.prog Tryd.f50 (fun e W => (∃ v, e = Ending.returned v) ∧ Ix W) .ret b4 W''
    obtain ⟨v, hv, _⟩ := results_run (P := Tryd.prog) (fn := Tryd.f50) (a := b4) (w := W'') (l := []) (by rfl) (K := fun _ => True) trivial
    exact ⟨f4, v, hv, ⟨v, rfl⟩, hx⟩
end Go.Proofs.YtcgplgpdcfocpaaDoor.Spec
end
section
set_option linter.unusedVariables false
set_option linter.unusedSimpArgs false
namespace Go.Proofs.YtcgplgpdcfocpaaDoor.Spec
open Go Go.RowKit Go.Proofs Go.Proofs.YtcgplgpdcfocpaaDoor.Eng Go.Proofs.YtcgplgpdcfocpaaDoor.Code
set_option maxRecDepth 100000
attribute [local irreducible] callK S.W opsW scrW dig
def maskL (alg : Int) (seed : List Int) (k : Nat) : List Int := (List.range k).flatMap (blkM alg seed)
def maskR (alg : Int) (seed : List Int) (n : Int) : List Int × Int := if sizeI alg = 0 ∨ n < 0 ∨ 2048 < n then ([], 1) else ((maskL alg seed n.toNat).take n.toNat, 0)
theorem maskL_zero (alg : Int) (seed : List Int) : maskL alg seed 0 = [] := rfl
theorem maskL_succ (alg : Int) (seed : List Int) (k : Nat) : maskL alg seed (k + 1) = maskL alg seed k ++ blkM alg seed k := by
  unfold maskL
  rw [List.range_succ, List.flatMap_append]
  simp
theorem maskL_len {alg : Int} (a1 : 1 ≤ alg) (a4 : alg ≤ 4) (seed : List Int) (k : Nat) : (maskL alg seed k).length = k * (sizeI alg).toNat := by
  induction k with
  | zero => rw [maskL_zero]; simp
  | succ k ih => rw [maskL_succ, List.length_append, ih, Nat.succ_mul]; congr 1; exact dig_len a1 a4 _
theorem maskL_pre (alg : Int) (seed : List Int) (i k : Nat) : ∃ r, maskL alg seed (i + k) = maskL alg seed i ++ r := by
  induction k with
  | zero => exact ⟨[], by simp⟩
  | succ k ih =>
    obtain ⟨r, e⟩ := ih
    exact ⟨r ++ blkM alg seed (i + k), by rw [show i + (k + 1) = (i + k) + 1 by omega, maskL_succ, e, List.append_assoc]⟩
theorem maskL_take {alg : Int} (a1 : 1 ≤ alg) (a4 : alg ≤ 4) (seed : List Int) {i n : Nat} (h : n ≤ (maskL alg seed i).length) : (maskL alg seed i).take n = (maskL alg seed n).take n := by
  have hz := mk_size a1 a4
  have hn : n ≤ (maskL alg seed n).length := by
    rw [maskL_len a1 a4]
    exact Nat.le_mul_of_pos_right _ (by omega)
  rcases Nat.le_total i n with hi | hi
  · obtain ⟨r, e⟩ := maskL_pre alg seed i (n - i)
    rw [show i + (n - i) = n by omega] at e
    rw [e, List.take_append_of_le_length h]
  · obtain ⟨r, e⟩ := maskL_pre alg seed n (i - n)
    rw [show n + (i - n) = i by omega] at e
    rw [e, List.take_append_of_le_length hn]
theorem blocks_form : ∃ (id : Nat) (o1 o2 : Oper) (R0 : Code), Tryd.f28.body = some (.seq R0 (.seq (.region id #[o1, o2] false) .ret)) ∧
    strS Tryd.prog 6 [] R0 = some (.ops [⟨some 2, none, .box 3 (.tmp 0)⟩, ⟨some 3, none, .box 31 (.tmp 1)⟩, ⟨some 4, none, .mv (.const .nilFunc)⟩]) ∧
    o1.op = .makeFunc (.func 50) #[] #[.tmp 2, .tmp 3] ∧ o1.guard = none ∧ o1.dst = some 5 ∧ o2.op = .assign (.tmp 5) ∧ o2.guard = none ∧ o2.dst = some 4 := by
  exact ⟨_, _, _, _, rfl, by kernel_rfl, rfl, rfl, rfl, rfl, rfl, rfl⟩
theorem run_mkf {P : Program} {o : Oper} {fn : Fn} {x y : Operand} (h : o.op = .makeFunc fn #[] #[x, y]) (e : Operand → Value) (w : World) (K : Value → World → Prop) (hK : K (.func fn #[] #[e x, e y]) w) : runK P o e w K := by
  obtain ⟨d, op, ty, pos, af, gd⟩ := o
  subst h
  have : (execOp e ⟨d, .makeFunc fn #[] #[x, y], ty, pos, af, gd⟩).run P w = .ok (.value (.func fn #[] #[e x, e y])) w := by
    simp [execOp, go_sem, Instr.makeFunc]
  unfold runK
  rw [this]
  exact hK
theorem run_asg {P : Program} {o : Oper} {x : Operand} (h : o.op = .assign x) (e : Operand → Value) (w : World) (K : Value → World → Prop) (hK : K (e x) w) : runK P o e w K := by
  obtain ⟨d, op, ty, pos, af, gd⟩ := o
  subst h
  exact hK
theorem blocks_k {alg : Int} {A : Option Addr} {n c : Nat} {w : World} {K : Value → World → Prop}
    (hK : ∀ w1 w', New w w1 [.int .i64 alg] → New w1 w' [.slice A n c] → K (.func (.func 50) #[] #[.pointer (some ⟨w.heap.size, 0, none⟩), .pointer (some ⟨w.heap.size + 1, 0, none⟩)]) w') : callK Tryd.prog 28 [.int .i64 alg, .slice A n c] w K := by
  obtain ⟨id, o1, o2, R0, hb, hs0, h1, g1, d1, h2, g2, d2⟩ := blocks_form
  refine call_marks (m := 0) Tryd.func28 hb ?_
  refine wpIn_seq ?_
  refine eng_wide hs0 (dfs := []) (by simp) rfl (K := fun e ρ w' => e = .normal ∧ (∃ w1, New w w1 [.int .i64 alg] ∧ New w1 w' [.slice A n c]) ∧ ρ 2 = .pointer (some ⟨w.heap.size, 0, none⟩) ∧ ρ 3 = .pointer (some ⟨w.heap.size + 1, 0, none⟩)) ?_ ?_
  · rw [env_args]
    simp (disch := omega) only [wu64, wu32, wu8, fdiv_nn, EO, ↓EP, EQ, EM, ↓reduceIte, Int.reduceAdd, Int.reduceEq, Int.reduceLE, Int.reduceLT, Int.reduceMul, Int.reduceNeg, Int.reducePow, Int.reduceSub, Int.reduceToNat, Nat.reduceAdd, Nat.reduceEqDiff, Nat.reduceLT, Nat.reduceLeDiff, Nat.reduceMul, reduceCtorEq]
    refine al_k [.int .i64 alg] rfl fun w1 n1 => ?_
    simp (disch := omega) only [wu64, wu32, wu8, fdiv_nn, EO, ↓EP, EQ, EM, ↓reduceIte, Int.reduceAdd, Int.reduceEq, Int.reduceLE, Int.reduceLT, Int.reduceMul, Int.reduceNeg, Int.reducePow, Int.reduceSub, Int.reduceToNat, Nat.reduceAdd, Nat.reduceEqDiff, Nat.reduceLT, Nat.reduceLeDiff, Nat.reduceMul, reduceCtorEq]
    refine al_k [.slice A n c] rfl fun w2 n2 => ?_
    simp (disch := omega) only [wu64, wu32, wu8, fdiv_nn, EO, ↓EP, EQ, EM, ↓reduceIte, Int.reduceAdd, Int.reduceEq, Int.reduceLE, Int.reduceLT, Int.reduceMul, Int.reduceNeg, Int.reducePow, Int.reduceSub, Int.reduceToNat, Nat.reduceAdd, Nat.reduceEqDiff, Nat.reduceLT, Nat.reduceLeDiff, Nat.reduceMul, reduceCtorEq]
    exact ⟨⟨w1, n1, n2⟩, by rw [n1.size]⟩
  rintro e a w' ⟨hsz, hdf, rfl, ⟨w1, n1, n2⟩, e2, e3⟩
  show (Go.Code.seq _ _).wpIn _ _ _ _ _ _
  refine wpIn_seq ?_
  refine wpIn_region_list ?_
  show wpListIn _ _ _ _ _ [o1, o2] a w'
  refine wpListIn_plain g1 fun K1 hK1 => ?_
  refine oper_wpIn (ro := none) (by rw [h1]; exact fun _ h => by cases h) (K := fun v w'' => v = .func (.func 50) #[] #[.pointer (some ⟨w.heap.size, 0, none⟩), .pointer (some ⟨w.heap.size + 1, 0, none⟩)] ∧ w' = w'') (run_mkf h1 _ _ _ ⟨by rw [eval_env]; show Value.func _ _ #[envOf a 2, envOf a 3] = _; rw [e2, e3], rfl⟩) ?_
  rintro v w'' ⟨rfl, rfl⟩
  refine hK1 _ _ ?_
  rw [d1]
  generalize hF : Value.func (.func 50) #[] #[.pointer (some ⟨w.heap.size, 0, none⟩), .pointer (some ⟨w.heap.size + 1, 0, none⟩)] = F
  rw [hF] at hK
  have hz1 : (a.put (some 5) F).tmps.size = 6 := by rw [put_size]; exact hsz
  have v1 := env_put (a := a) (d := 5) (by omega) F
  have f1 : (a.put (some 5) F).defers = [] := by rw [put_defers]; exact hdf
  generalize a.put (some 5) F = b1 at hz1 v1 f1
  refine wpListIn_plain g2 fun K2 hK2 => ?_
  refine oper_wpIn (ro := none) (by rw [h2]; exact fun _ h => by cases h) (K := fun v w'' => v = F ∧ w' = w'') (run_asg h2 _ _ _ ⟨by rw [eval_env]; show envOf b1 5 = F; rw [v1]; rfl, rfl⟩) ?_
  rintro v w'' ⟨rfl, rfl⟩
  refine hK2 _ _ ?_
  rw [d2]
  have hz2 : (b1.put (some 4) v).tmps.size = 6 := by rw [put_size]; exact hz1
  have v2 := env_put (a := b1) (d := 4) (by omega) v
  have f2 : (b1.put (some 4) v).defers = [] := by rw [put_defers]; exact f1
  generalize b1.put (some 4) v = b2 at hz2 v2 f2
  show Go.Code.ret.wpIn _ _ _ _ _ _
  refine wpIn_ret ?_
  show LeavesInM _ _ _ _ _ _ b2.defers _ _
  rw [f2]
  obtain ⟨u, hu, e⟩ := results_run (P := Tryd.prog) (fn := Tryd.f28) (a := b2) (w := w') (l := [.inl 4]) (by rfl) (K := fun u => u = v) (by show packV [envOf b2 4] = v; rw [v2]; rfl)
  exact ⟨u, hu, u, rfl, by rw [e]; exact hK w1 w' n1 n2⟩
end Go.Proofs.YtcgplgpdcfocpaaDoor.Spec
end
section
set_option linter.unusedVariables false
set_option linter.unusedSimpArgs false
namespace Go.Proofs.YtcgplgpdcfocpaaDoor.Spec
open Go Go.RowKit Go.Proofs Go.Proofs.YtcgplgpdcfocpaaDoor.Eng Go.Proofs.YtcgplgpdcfocpaaDoor.Code
set_option maxRecDepth 100000
attribute [local irreducible] callK S.W opsW scrW one
def gB (r n j : Nat) : Int := if (r : Int) - 1 - j < 8 then lenB n (j - (r - 8)) else 0
end Go.Proofs.YtcgplgpdcfocpaaDoor.Spec
end
section
set_option linter.unusedVariables false
set_option linter.unusedSimpArgs false
namespace Go.Proofs.YtcgplgpdcfocpaaDoor.Spec
open Go Go.RowKit Go.Proofs Go.Proofs.YtcgplgpdcfocpaaDoor.Eng Go.Proofs.YtcgplgpdcfocpaaDoor.Code
set_option maxRecDepth 100000
attribute [local irreducible] callK S.W opsW scrW one
end Go.Proofs.YtcgplgpdcfocpaaDoor.Spec
end
section
set_option linter.unusedVariables false
set_option linter.unusedSimpArgs false
namespace Go.Proofs.YtcgplgpdcfocpaaDoor.Spec
open Go Go.RowKit Go.Proofs Go.Proofs.YtcgplgpdcfocpaaDoor.Eng Go.Proofs.YtcgplgpdcfocpaaDoor.Code
set_option maxRecDepth 100000
attribute [local irreducible] callK S.W opsW scrW one
end Go.Proofs.YtcgplgpdcfocpaaDoor.Spec
end
section
set_option linter.unusedVariables false
set_option linter.unusedSimpArgs false
namespace Go.Proofs.YtcgplgpdcfocpaaDoor.Spec
open Go Go.RowKit Go.Proofs Go.Proofs.YtcgplgpdcfocpaaDoor.Eng Go.Proofs.YtcgplgpdcfocpaaDoor.Code
set_option maxRecDepth 100000
attribute [local irreducible] callK S.W opsW scrW one
end Go.Proofs.YtcgplgpdcfocpaaDoor.Spec
end
section
set_option linter.unusedVariables false
set_option linter.unusedSimpArgs false
namespace Go.Proofs.YtcgplgpdcfocpaaDoor.Spec
open Go Go.RowKit Go.Proofs Go.Proofs.YtcgplgpdcfocpaaDoor.Eng Go.Proofs.YtcgplgpdcfocpaaDoor.Code
set_option maxRecDepth 100000
attribute [local irreducible] callK S.W opsW scrW one
end Go.Proofs.YtcgplgpdcfocpaaDoor.Spec
end
section
set_option linter.unusedVariables false
set_option linter.unusedSimpArgs false
namespace Go.Proofs.YtcgplgpdcfocpaaDoor.Spec
open Go Go.RowKit Go.Proofs Go.Proofs.YtcgplgpdcfocpaaDoor.Eng Go.Proofs.YtcgplgpdcfocpaaDoor.Code
set_option maxRecDepth 100000
attribute [local irreducible] callK S.W opsW scrW dig
end Go.Proofs.YtcgplgpdcfocpaaDoor.Spec
end
