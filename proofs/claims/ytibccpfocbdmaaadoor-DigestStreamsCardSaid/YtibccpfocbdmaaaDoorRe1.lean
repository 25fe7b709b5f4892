/- The document's digests: words that are turned, and words by their bits. -/
import Derived.Test.YtibccpfocbdmaaaDoorDig8
import Derived.Test.YtibccpfocbdmaaaDoorBit
set_option linter.unusedVariables false
set_option linter.unusedSimpArgs false
namespace Go.Proofs.YtibccpfocbdmaaaDoor.Spec
open Go Go.RowKit Go.Proofs Go.Proofs.YtibccpfocbdmaaaDoor.Eng Go.Proofs.YtibccpfocbdmaaaDoor.Code
set_option maxRecDepth 100000

def B32 (a : Int) : BitVec 32 := BitVec.ofInt 32 a
def B64 (a : Int) : BitVec 64 := BitVec.ofInt 64 a
theorem wrapN32 (x : BitVec 32) : IntKind.u32.wrap ((x.toNat : Nat) : Int) = ((x.toNat : Nat) : Int) := wu32 (by omega) (by have := x.isLt; omega)
theorem wrapN64 (x : BitVec 64) : IntKind.u64.wrap ((x.toNat : Nat) : Int) = ((x.toNat : Nat) : Int) := wu64 (by omega) (by have := x.isLt; omega)
theorem B32_nat (x : BitVec 32) : B32 ((x.toNat : Nat) : Int) = x := by unfold B32; simp
theorem B64_nat (x : BitVec 64) : B64 ((x.toNat : Nat) : Int) = x := by unfold B64; simp
theorem and32_b (a b : Int) : bits .and .u32 a b = (((B32 a &&& B32 b).toNat : Nat) : Int) := wrapN32 _
theorem or32_b (a b : Int) : bits .or .u32 a b = (((B32 a ||| B32 b).toNat : Nat) : Int) := wrapN32 _
theorem xor32_b (a b : Int) : bits .xor .u32 a b = (((B32 a ^^^ B32 b).toNat : Nat) : Int) := wrapN32 _
theorem and64_b (a b : Int) : bits .and .u64 a b = (((B64 a &&& B64 b).toNat : Nat) : Int) := wrapN64 _
theorem or64_b (a b : Int) : bits .or .u64 a b = (((B64 a ||| B64 b).toNat : Nat) : Int) := wrapN64 _
theorem xor64_b (a b : Int) : bits .xor .u64 a b = (((B64 a ^^^ B64 b).toNat : Nat) : Int) := wrapN64 _
theorem not32_b (x : BitVec 32) : B32 4294967295 ^^^ x = ~~~ x := by
  have : B32 4294967295 = BitVec.allOnes 32 := by decide +kernel
  rw [this, BitVec.allOnes_xor]
theorem not64_b (x : BitVec 64) : B64 18446744073709551615 ^^^ x = ~~~ x := by
  have : B64 18446744073709551615 = BitVec.allOnes 64 := by decide +kernel
  rw [this, BitVec.allOnes_xor]
theorem o32_comm (a b : Int) : bits .or .u32 a b = bits .or .u32 b a := by rw [or32_b, or32_b, BitVec.or_comm]
theorem o64_comm (a b : Int) : bits .or .u64 a b = bits .or .u64 b a := by rw [or64_b, or64_b, BitVec.or_comm]

section
variable {n : Nat} (x y z : BitVec n)
theorem bv_ch : (x &&& y) ||| (~~~ x &&& z) = z ^^^ (x &&& (y ^^^ z)) := by
  apply BitVec.eq_of_getLsbD_eq; intro i hi
  simp only [BitVec.getLsbD_or, BitVec.getLsbD_and, BitVec.getLsbD_xor, BitVec.getLsbD_not, hi, decide_true, Bool.true_and]
  cases x.getLsbD i <;> cases y.getLsbD i <;> cases z.getLsbD i <;> rfl
theorem bv_chx : (x &&& y) ^^^ (~~~ x &&& z) = z ^^^ (x &&& (y ^^^ z)) := by
  apply BitVec.eq_of_getLsbD_eq; intro i hi
  simp only [BitVec.getLsbD_or, BitVec.getLsbD_and, BitVec.getLsbD_xor, BitVec.getLsbD_not, hi, decide_true, Bool.true_and]
  cases x.getLsbD i <;> cases y.getLsbD i <;> cases z.getLsbD i <;> rfl
theorem bv_maj : (x &&& y) ||| (x &&& z) ||| (y &&& z) = (x &&& y) ||| (z &&& (x ||| y)) := by
  apply BitVec.eq_of_getLsbD_eq; intro i hi
  simp only [BitVec.getLsbD_or, BitVec.getLsbD_and, BitVec.getLsbD_xor]
  cases x.getLsbD i <;> cases y.getLsbD i <;> cases z.getLsbD i <;> rfl
theorem bv_majx : (x &&& y) ^^^ (x &&& z) ^^^ (y &&& z) = (x &&& y) ||| (z &&& (x ||| y)) := by
  apply BitVec.eq_of_getLsbD_eq; intro i hi
  simp only [BitVec.getLsbD_or, BitVec.getLsbD_and, BitVec.getLsbD_xor]
  cases x.getLsbD i <;> cases y.getLsbD i <;> cases z.getLsbD i <;> rfl
end
theorem ch32 (b c d : Int) : bits .or .u32 (bits .and .u32 b c) (bits .and .u32 (bits .xor .u32 4294967295 b) d) = x32 d (a32 b (x32 c d)) := by
  unfold x32 a32
  simp only [and32_b, or32_b, xor32_b, B32_nat, not32_b, bv_ch]
theorem chx32 (b c d : Int) : bits .xor .u32 (bits .and .u32 b c) (bits .and .u32 (bits .xor .u32 4294967295 b) d) = x32 d (a32 b (x32 c d)) := by
  unfold x32 a32
  simp only [and32_b, or32_b, xor32_b, B32_nat, not32_b, bv_chx]
theorem maj32 (b c d : Int) : bits .or .u32 (bits .or .u32 (bits .and .u32 b c) (bits .and .u32 b d)) (bits .and .u32 c d) = o32 (a32 b c) (a32 d (o32 b c)) := by
  unfold o32 a32
  simp only [and32_b, or32_b, xor32_b, B32_nat, bv_maj]
theorem majx32 (b c d : Int) : bits .xor .u32 (bits .xor .u32 (bits .and .u32 b c) (bits .and .u32 b d)) (bits .and .u32 c d) = o32 (a32 b c) (a32 d (o32 b c)) := by
  unfold o32 a32
  simp only [and32_b, or32_b, xor32_b, B32_nat, bv_majx]
theorem chx64 (b c d : Int) : bits .xor .u64 (bits .and .u64 b c) (bits .and .u64 (bits .xor .u64 18446744073709551615 b) d) = x64 d (a64 b (x64 c d)) := by
  unfold x64 a64
  simp only [and64_b, or64_b, xor64_b, B64_nat, not64_b, bv_chx]
theorem majx64 (b c d : Int) : bits .xor .u64 (bits .xor .u64 (bits .and .u64 b c) (bits .and .u64 b d)) (bits .and .u64 c d) = o64 (a64 b c) (a64 d (o64 b c)) := by
  unfold o64 a64
  simp only [and64_b, or64_b, xor64_b, B64_nat, bv_majx]
theorem add32w (a b : Int) : IntKind.u32.wrap (IntKind.u32.wrap a + b) = IntKind.u32.wrap (a + b) := by rw [wu32_mod, wu32_mod, wu32_mod]; omega
theorem add64w (a b : Int) : IntKind.u64.wrap (IntKind.u64.wrap a + b) = IntKind.u64.wrap (a + b) := by rw [wu64_mod, wu64_mod, wu64_mod]; omega
/-- The four bytes of a word. -/
theorem word_sum {a b c d : Int} (ha : 0 ≤ a ∧ a < 256) (hb : 0 ≤ b ∧ b < 256) (hc : 0 ≤ c ∧ c < 256) (hd : 0 ≤ d ∧ d < 256) :
    IntKind.u32.wrap (IntKind.u32.wrap (IntKind.u32.wrap (IntKind.u32.wrap (IntKind.u32.wrap a * 16777216) + IntKind.u32.wrap (IntKind.u32.wrap b * 65536)) + IntKind.u32.wrap (IntKind.u32.wrap c * 256)) + IntKind.u32.wrap d) =
      bits .or .u32 (bits .or .u32 (bits .or .u32 (IntKind.u32.wrap (IntKind.u32.wrap a * 16777216)) (IntKind.u32.wrap (IntKind.u32.wrap b * 65536))) (IntKind.u32.wrap (IntKind.u32.wrap c * 256))) (IntKind.u32.wrap d) := by
  have e : ∀ x : Int, 0 ≤ x → x < 4294967296 → IntKind.u32.wrap x = x := fun x h h' => wu32 h h'
  rw [e a (by omega) (by omega), e b (by omega) (by omega), e c (by omega) (by omega), e d (by omega) (by omega)]
  rw [e (a * 16777216) (by omega) (by omega), e (b * 65536) (by omega) (by omega), e (c * 256) (by omega) (by omega)]
  rw [e (a * 16777216 + b * 65536) (by omega) (by omega), e (a * 16777216 + b * 65536 + c * 256) (by omega) (by omega), e (a * 16777216 + b * 65536 + c * 256 + d) (by omega) (by omega)]
  have h1 : bits .or .u32 (a * 16777216) (b * 65536) = a * 16777216 + b * 65536 := by
    rw [o32_comm, show a * 16777216 = a * 2 ^ 24 by rfl, or32_add (by omega) (by omega) (by omega) (by omega)]
  have h2 : bits .or .u32 (a * 16777216 + b * 65536) (c * 256) = a * 16777216 + b * 65536 + c * 256 := by
    rw [o32_comm, show a * 16777216 + b * 65536 = (a * 256 + b) * 2 ^ 16 by omega, or32_add (by omega) (by omega) (by omega) (by omega)]
  have h3 : bits .or .u32 (a * 16777216 + b * 65536 + c * 256) d = a * 16777216 + b * 65536 + c * 256 + d := by
    rw [o32_comm, show a * 16777216 + b * 65536 + c * 256 = (a * 65536 + b * 256 + c) * 2 ^ 8 by omega, or32_add (by omega) (by omega) (by omega) (by omega)]
  rw [h1, h2, h3]
theorem byte_in {x b : Int} (hb : 0 ≤ b ∧ b < 256) : o64 (IntKind.u64.wrap (x * 256)) (IntKind.u64.wrap b) = IntKind.u64.wrap (IntKind.u64.wrap (x * 256) + IntKind.u64.wrap b) := by
  unfold o64
  rw [wu64 (n := b) (by omega) (by omega), wu64_mod]
  have h1 : x * 256 % 18446744073709551616 = (x % 72057594037927936) * 256 := by omega
  rw [h1]
  have hx : 0 ≤ x % 72057594037927936 ∧ x % 72057594037927936 < 72057594037927936 := by omega
  generalize x % 72057594037927936 = y at hx
  rw [u64_or _ _ (by omega) (by omega) (by omega) (by omega), wu64 (by omega) (by omega)]
  have e : (y * 256).toNat = y.toNat * 2 ^ 8 := by omega
  rw [e, nat_or_add _ _ _ (by omega)]
  omega
theorem quiet_draw {P : Program} {f : FuncId} {args : List Value} {w : World} {K : Value → Prop} (v : Value) (h : ∀ w' (K' : Value → World → Prop), (∀ m, K' v (w'.drewN m)) → callK P f args w' K') (hK : K v) : qcallK P f args w K :=
  ⟨v, fun n => h _ _ fun m => ⟨rfl, n + m, by rw [World.drewN_drewN]⟩, hK⟩
theorem left_d (x : Int) (n : Nat) (h0 : 0 < n) (h1 : n < 32) (w : World) (K : Value → World → Prop) (hK : ∀ m, K (.int .u32 (rl32 x n)) (w.drewN m)) : callK Tryd.prog 36 [.int .u32 x, .int .i64 n] w K := by
  refine call_of Tryd.func36 Code.h36 (by simp [Code.c36]) ?_
  simp (disch := omega) only [EO, ↓EP, EQ, EM, ↓reduceIte, Int.reduceAdd, Int.reduceEq, Int.reduceLE, Int.reduceLT, Int.reduceMul, Int.reduceNeg, Int.reducePow, Int.reduceSub, Int.reduceToNat, Nat.reduceAdd, Nat.reduceEqDiff, Nat.reduceLT, Nat.reduceLeDiff, Nat.reduceMul, reduceCtorEq, Code.c36]
  have e1 : min ((n : Int)).toNat 32 = n := by omega
  have e2 : min (32 - (n : Int)).toNat 32 = (32 - (n : Int)).toNat := by omega
  exact hK
theorem left_q (x n : Int) (h0 : 0 < n) (h1 : n < 32) (w : World) (K : Value → Prop) (hK : K (.int .u32 (rl32 x n))) : qcallK Tryd.prog 36 [.int .u32 x, .int .i64 n] w K := by
  obtain ⟨n, rfl⟩ : ∃ k : Nat, n = k := ⟨n.toNat, by omega⟩
  exact quiet_draw _ (fun w' K' h => left_d x n (by omega) (by omega) w' K' h) hK
theorem right_d (x : Int) (n : Nat) (h0 : 0 < n) (h1 : n < 32) (w : World) (K : Value → World → Prop) (hK : ∀ m, K (.int .u32 (rl32 x (32 - (n : Int)))) (w.drewN m)) : callK Tryd.prog 38 [.int .u32 x, .int .i64 n] w K := by
  refine call_of Tryd.func38 Code.h38 (by simp [Code.c38]) ?_
  simp (disch := omega) only [EO, ↓EP, EQ, EM, ↓reduceIte, Int.reduceAdd, Int.reduceEq, Int.reduceLE, Int.reduceLT, Int.reduceMul, Int.reduceNeg, Int.reducePow, Int.reduceSub, Int.reduceToNat, Nat.reduceAdd, Nat.reduceEqDiff, Nat.reduceLT, Nat.reduceLeDiff, Nat.reduceMul, reduceCtorEq, Code.c38]
  intro m
  have := hK m
  unfold rl32 at this
  rw [o32_comm, show (32 - (32 - (n : Int))).toNat = n by omega] at this
  exact this
theorem right_q (x n : Int) (h0 : 0 < n) (h1 : n < 32) (w : World) (K : Value → Prop) (hK : K (.int .u32 (rl32 x (32 - n)))) : qcallK Tryd.prog 38 [.int .u32 x, .int .i64 n] w K := by
  obtain ⟨n, rfl⟩ : ∃ k : Nat, n = k := ⟨n.toNat, by omega⟩
  exact quiet_draw _ (fun w' K' h => right_d x n (by omega) (by omega) w' K' h) hK
theorem turn_d (x : Int) (n : Nat) (h0 : 0 < n) (h1 : n < 64) (w : World) (K : Value → World → Prop) (hK : ∀ m, K (.int .u64 (rl64 x (64 - (n : Int)))) (w.drewN m)) : callK Tryd.prog 40 [.int .u64 x, .int .i64 n] w K := by
  refine call_of Tryd.func40 Code.h40 (by simp [Code.c40]) ?_
  simp (disch := omega) only [EO, ↓EP, EQ, EM, ↓reduceIte, Int.reduceAdd, Int.reduceEq, Int.reduceLE, Int.reduceLT, Int.reduceMul, Int.reduceNeg, Int.reducePow, Int.reduceSub, Int.reduceToNat, Nat.reduceAdd, Nat.reduceEqDiff, Nat.reduceLT, Nat.reduceLeDiff, Nat.reduceMul, reduceCtorEq, Code.c40]
  intro m
  have := hK m
  unfold rl64 at this
  rw [o64_comm, show (64 - (64 - (n : Int))).toNat = n by omega] at this
  exact this
theorem turn_q (x n : Int) (h0 : 0 < n) (h1 : n < 64) (w : World) (K : Value → Prop) (hK : K (.int .u64 (rl64 x (64 - n)))) : qcallK Tryd.prog 40 [.int .u64 x, .int .i64 n] w K := by
  obtain ⟨n, rfl⟩ : ∃ k : Nat, n = k := ⟨n.toNat, by omega⟩
  exact quiet_draw _ (fun w' K' h => turn_d x n (by omega) (by omega) w' K' h) hK
end Go.Proofs.YtibccpfocbdmaaaDoor.Spec
