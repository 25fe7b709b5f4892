/- RsaMasks: what is used, in one text. -/
import Derived.Lib.MakeNoZero
import Derived.Laws.Externs
import Derived.Shelf.Strconv.Itoa3
import Derived.Lib.ItoaNum
import Derived.Laws.Strings
import Derived.Test.YtcgplgpdcfocpaaDoorRsaMasksr0
set_option linter.unusedVariables false
set_option linter.unusedSimpArgs false
section
set_option linter.unusedVariables false
set_option linter.unusedSimpArgs false
namespace Go.Proofs.YtcgplgpdcfocpaaDoor.Spec
open Go Go.RowKit Go.Proofs Go.Proofs.YtcgplgpdcfocpaaDoor.Eng Go.Proofs.YtcgplgpdcfocpaaDoor.Code
set_option maxRecDepth 100000
def B32 (a : Int) : BitVec 32 := BitVec.ofInt 32 a
def B64 (a : Int) : BitVec 64 := BitVec.ofInt 64 a
theorem wrapN32 (x : BitVec 32) : IntKind.u32.wrap ((x.toNat : Nat) : Int) = ((x.toNat : Nat) : Int) := wu32 (by omega) (by have := x.isLt; omega)
theorem wrapN64 (x : BitVec 64) : IntKind.u64.wrap ((x.toNat : Nat) : Int) = ((x.toNat : Nat) : Int) := wu64 (by omega) (by have := x.isLt; omega)
theorem B32_nat (x : BitVec 32) : B32 ((x.toNat : Nat) : Int) = x := by unfold B32; simp
theorem B64_nat (x : BitVec 64) : B64 ((x.toNat : Nat) : Int) = x := by unfold B64; simp
theorem and32_b (a b : Int) : bits .and .u32 a b = (((B32 a &&& B32 b).toNat : Nat) : Int) := wrapN32 _
theorem or32_b (a b : Int) : bits .or .u32 a b = (((B32 a ||| B32 b).toNat : Nat) : Int) := wrapN32 _
theorem xor32_b (a b : Int) : bits .xor .u32 a b = (((B32 a ^^^ B32 b).toNat : Nat) : Int) := wrapN32 _
theorem and64_b (a b : Int) : bits .and .u64 a b = (((B64 a &&& B64 b).toNat : Nat) : Int) := wrapN64 _
theorem or64_b (a b : Int) : bits .or .u64 a b = (((B64 a ||| B64 b).toNat : Nat) : Int) := wrapN64 _
theorem xor64_b (a b : Int) : bits .xor .u64 a b = (((B64 a ^^^ B64 b).toNat : Nat) : Int) := wrapN64 _
theorem not32_b (x : BitVec 32) : B32 4294967295 ^^^ x = ~~~ x := by
  have : B32 4294967295 = BitVec.allOnes 32 := by decide +kernel
  rw [this, BitVec.allOnes_xor]
theorem not64_b (x : BitVec 64) : B64 18446744073709551615 ^^^ x = ~~~ x := by
  have : B64 18446744073709551615 = BitVec.allOnes 64 := by decide +kernel
  rw [this, BitVec.allOnes_xor]
theorem o32_comm (a b : Int) : bits .or .u32 a b = bits .or .u32 b a := by rw [or32_b, or32_b, BitVec.or_comm]
theorem o64_comm (a b : Int) : bits .or .u64 a b = bits .or .u64 b a := by rw [or64_b, or64_b, BitVec.or_comm]
section
variable {n : Nat} (x y z : BitVec n)
theorem bv_ch : (x &&& y) ||| (~~~ x &&& z) = z ^^^ (x &&& (y ^^^ z)) := by
  apply BitVec.eq_of_getLsbD_eq; intro i hi
  simp only [BitVec.getLsbD_or, BitVec.getLsbD_and, BitVec.getLsbD_xor, BitVec.getLsbD_not, hi, decide_true, Bool.true_and]
  cases x.getLsbD i <;> cases y.getLsbD i <;> cases z.getLsbD i <;> rfl
theorem bv_chx : (x &&& y) ^^^ (~~~ x &&& z) = z ^^^ (x &&& (y ^^^ z)) := by
  apply BitVec.eq_of_getLsbD_eq; intro i hi
  simp only [BitVec.getLsbD_or, BitVec.getLsbD_and, BitVec.getLsbD_xor, BitVec.getLsbD_not, hi, decide_true, Bool.true_and]
  cases x.getLsbD i <;> cases y.getLsbD i <;> cases z.getLsbD i <;> rfl
theorem bv_maj : (x &&& y) ||| (x &&& z) ||| (y &&& z) = (x &&& y) ||| (z &&& (x ||| y)) := by
  apply BitVec.eq_of_getLsbD_eq; intro i hi
  simp only [BitVec.getLsbD_or, BitVec.getLsbD_and, BitVec.getLsbD_xor]
  cases x.getLsbD i <;> cases y.getLsbD i <;> cases z.getLsbD i <;> rfl
theorem bv_majx : (x &&& y) ^^^ (x &&& z) ^^^ (y &&& z) = (x &&& y) ||| (z &&& (x ||| y)) := by
  apply BitVec.eq_of_getLsbD_eq; intro i hi
  simp only [BitVec.getLsbD_or, BitVec.getLsbD_and, BitVec.getLsbD_xor]
  cases x.getLsbD i <;> cases y.getLsbD i <;> cases z.getLsbD i <;> rfl
end
theorem ch32 (b c d : Int) : bits .or .u32 (bits .and .u32 b c) (bits .and .u32 (bits .xor .u32 4294967295 b) d) = x32 d (a32 b (x32 c d)) := by
  unfold x32 a32
  simp only [and32_b, or32_b, xor32_b, B32_nat, not32_b, bv_ch]
theorem chx32 (b c d : Int) : bits .xor .u32 (bits .and .u32 b c) (bits .and .u32 (bits .xor .u32 4294967295 b) d) = x32 d (a32 b (x32 c d)) := by
  unfold x32 a32
  simp only [and32_b, or32_b, xor32_b, B32_nat, not32_b, bv_chx]
theorem maj32 (b c d : Int) : bits .or .u32 (bits .or .u32 (bits .and .u32 b c) (bits .and .u32 b d)) (bits .and .u32 c d) = o32 (a32 b c) (a32 d (o32 b c)) := by
  unfold o32 a32
  simp only [and32_b, or32_b, xor32_b, B32_nat, bv_maj]
theorem majx32 (b c d : Int) : bits .xor .u32 (bits .xor .u32 (bits .and .u32 b c) (bits .and .u32 b d)) (bits .and .u32 c d) = o32 (a32 b c) (a32 d (o32 b c)) := by
  unfold o32 a32
  simp only [and32_b, or32_b, xor32_b, B32_nat, bv_majx]
theorem chx64 (b c d : Int) : bits .xor .u64 (bits .and .u64 b c) (bits .and .u64 (bits .xor .u64 18446744073709551615 b) d) = x64 d (a64 b (x64 c d)) := by
  unfold x64 a64
  simp only [and64_b, or64_b, xor64_b, B64_nat, not64_b, bv_chx]
theorem majx64 (b c d : Int) : bits .xor .u64 (bits .xor .u64 (bits .and .u64 b c) (bits .and .u64 b d)) (bits .and .u64 c d) = o64 (a64 b c) (a64 d (o64 b c)) := by
  unfold o64 a64
  simp only [and64_b, or64_b, xor64_b, B64_nat, bv_majx]
theorem word_sum {a b c d : Int} (ha : 0 ≤ a ∧ a < 256) (hb : 0 ≤ b ∧ b < 256) (hc : 0 ≤ c ∧ c < 256) (hd : 0 ≤ d ∧ d < 256) :
    IntKind.u32.wrap (IntKind.u32.wrap (IntKind.u32.wrap (IntKind.u32.wrap (IntKind.u32.wrap a * 16777216) + IntKind.u32.wrap (IntKind.u32.wrap b * 65536)) + IntKind.u32.wrap (IntKind.u32.wrap c * 256)) + IntKind.u32.wrap d) =
      bits .or .u32 (bits .or .u32 (bits .or .u32 (IntKind.u32.wrap (IntKind.u32.wrap a * 16777216)) (IntKind.u32.wrap (IntKind.u32.wrap b * 65536))) (IntKind.u32.wrap (IntKind.u32.wrap c * 256))) (IntKind.u32.wrap d) := by
  have e : ∀ x : Int, 0 ≤ x → x < 4294967296 → IntKind.u32.wrap x = x := fun x h h' => wu32 h h'
  rw [e a (by omega) (by omega), e b (by omega) (by omega), e c (by omega) (by omega), e d (by omega) (by omega)]
  rw [e (a * 16777216) (by omega) (by omega), e (b * 65536) (by omega) (by omega), e (c * 256) (by omega) (by omega)]
  rw [e (a * 16777216 + b * 65536) (by omega) (by omega), e (a * 16777216 + b * 65536 + c * 256) (by omega) (by omega), e (a * 16777216 + b * 65536 + c * 256 + d) (by omega) (by omega)]
  have h1 : bits .or .u32 (a * 16777216) (b * 65536) = a * 16777216 + b * 65536 := by
    rw [o32_comm, show a * 16777216 = a * 2 ^ 24 by rfl, or32_add (by omega) (by omega) (by omega) (by omega)]
  have h2 : bits .or .u32 (a * 16777216 + b * 65536) (c * 256) = a * 16777216 + b * 65536 + c * 256 := by
    rw [o32_comm, show a * 16777216 + b * 65536 = (a * 256 + b) * 2 ^ 16 by omega, or32_add (by omega) (by omega) (by omega) (by omega)]
  have h3 : bits .or .u32 (a * 16777216 + b * 65536 + c * 256) d = a * 16777216 + b * 65536 + c * 256 + d := by
    rw [o32_comm, show a * 16777216 + b * 65536 + c * 256 = (a * 65536 + b * 256 + c) * 2 ^ 8 by omega, or32_add (by omega) (by omega) (by omega) (by omega)]
  rw [h1, h2, h3]
theorem byte_in {x b : Int} (hb : 0 ≤ b ∧ b < 256) : o64 (IntKind.u64.wrap (x * 256)) (IntKind.u64.wrap b) = IntKind.u64.wrap (IntKind.u64.wrap (x * 256) + IntKind.u64.wrap b) := by
  unfold o64
  rw [wu64 (n := b) (by omega) (by omega), wu64_mod]
  have h1 : x * 256 % 18446744073709551616 = (x % 72057594037927936) * 256 := by omega
  rw [h1]
  have hx : 0 ≤ x % 72057594037927936 ∧ x % 72057594037927936 < 72057594037927936 := by omega
  generalize x % 72057594037927936 = y at hx
  rw [u64_or _ _ (by omega) (by omega) (by omega) (by omega), wu64 (by omega) (by omega)]
  have e : (y * 256).toNat = y.toNat * 2 ^ 8 := by omega
  rw [e, nat_or_add _ _ _ (by omega)]
  omega
theorem quiet_draw {P : Program} {f : FuncId} {args : List Value} {w : World} {K : Value → Prop} (v : Value) (h : ∀ w' (K' : Value → World → Prop), (∀ m, K' v (w'.drewN m)) → callK P f args w' K') (hK : K v) : qcallK P f args w K :=
  ⟨v, fun n => h _ _ fun m => ⟨rfl, n + m, by rw [World.drewN_drewN]⟩, hK⟩
theorem left_d (x : Int) (n : Nat) (h0 : 0 < n) (h1 : n < 32) (w : World) (K : Value → World → Prop) (hK : ∀ m, K (.int .u32 (rl32 x n)) (w.drewN m)) : callK Tryd.prog 80 [.int .u32 x, .int .i64 n] w K := by
  refine call_of Tryd.func80 Code.h80 (by simp [Code.c80]) ?_
  simp (disch := omega) only [EO, ↓EP, EQ, EM, ↓reduceIte, Int.reduceAdd, Int.reduceEq, Int.reduceLE, Int.reduceLT, Int.reduceMul, Int.reduceNeg, Int.reducePow, Int.reduceSub, Int.reduceToNat, Nat.reduceAdd, Nat.reduceEqDiff, Nat.reduceLT, Nat.reduceLeDiff, Nat.reduceMul, reduceCtorEq, Code.c80]
  have e1 : min ((n : Int)).toNat 32 = n := by omega
  have e2 : min (32 - (n : Int)).toNat 32 = (32 - (n : Int)).toNat := by omega
  exact hK
theorem left_q (x n : Int) (h0 : 0 < n) (h1 : n < 32) (w : World) (K : Value → Prop) (hK : K (.int .u32 (rl32 x n))) : qcallK Tryd.prog 80 [.int .u32 x, .int .i64 n] w K := by
  obtain ⟨n, rfl⟩ : ∃ k : Nat, n = k := ⟨n.toNat, by omega⟩
  exact quiet_draw _ (fun w' K' h => left_d x n (by omega) (by omega) w' K' h) hK
theorem right_d (x : Int) (n : Nat) (h0 : 0 < n) (h1 : n < 32) (w : World) (K : Value → World → Prop) (hK : ∀ m, K (.int .u32 (rl32 x (32 - (n : Int)))) (w.drewN m)) : callK Tryd.prog 82 [.int .u32 x, .int .i64 n] w K := by
  refine call_of Tryd.func82 Code.h82 (by simp [Code.c82]) ?_
  simp (disch := omega) only [EO, ↓EP, EQ, EM, ↓reduceIte, Int.reduceAdd, Int.reduceEq, Int.reduceLE, Int.reduceLT, Int.reduceMul, Int.reduceNeg, Int.reducePow, Int.reduceSub, Int.reduceToNat, Nat.reduceAdd, Nat.reduceEqDiff, Nat.reduceLT, Nat.reduceLeDiff, Nat.reduceMul, reduceCtorEq, Code.c82]
  intro m
  have := hK m
  unfold rl32 at this
  rw [o32_comm, show (32 - (32 - (n : Int))).toNat = n by omega] at this
  exact this
theorem right_q (x n : Int) (h0 : 0 < n) (h1 : n < 32) (w : World) (K : Value → Prop) (hK : K (.int .u32 (rl32 x (32 - n)))) : qcallK Tryd.prog 82 [.int .u32 x, .int .i64 n] w K := by
  obtain ⟨n, rfl⟩ : ∃ k : Nat, n = k := ⟨n.toNat, by omega⟩
  exact quiet_draw _ (fun w' K' h => right_d x n (by omega) (by omega) w' K' h) hK
theorem turn_d (x : Int) (n : Nat) (h0 : 0 < n) (h1 : n < 64) (w : World) (K : Value → World → Prop) (hK : ∀ m, K (.int .u64 (rl64 x (64 - (n : Int)))) (w.drewN m)) : callK Tryd.prog 84 [.int .u64 x, .int .i64 n] w K := by
  refine call_of Tryd.func84 Code.h84 (by simp [Code.c84]) ?_
  simp (disch := omega) only [EO, ↓EP, EQ, EM, ↓reduceIte, Int.reduceAdd, Int.reduceEq, Int.reduceLE, Int.reduceLT, Int.reduceMul, Int.reduceNeg, Int.reducePow, Int.reduceSub, Int.reduceToNat, Nat.reduceAdd, Nat.reduceEqDiff, Nat.reduceLT, Nat.reduceLeDiff, Nat.reduceMul, reduceCtorEq, Code.c84]
  intro m
  have := hK m
  unfold rl64 at this
  rw [o64_comm, show (64 - (64 - (n : Int))).toNat = n by omega] at this
  exact this
theorem turn_q (x n : Int) (h0 : 0 < n) (h1 : n < 64) (w : World) (K : Value → Prop) (hK : K (.int .u64 (rl64 x (64 - n)))) : qcallK Tryd.prog 84 [.int .u64 x, .int .i64 n] w K := by
  obtain ⟨n, rfl⟩ : ∃ k : Nat, n = k := ⟨n.toNat, by omega⟩
  exact quiet_draw _ (fun w' K' h => turn_d x n (by omega) (by omega) w' K' h) hK
end Go.Proofs.YtcgplgpdcfocpaaDoor.Spec
end
section
set_option linter.unusedVariables false
set_option linter.unusedSimpArgs false
namespace Go.Proofs.YtcgplgpdcfocpaaDoor.Spec
open Go Go.RowKit Go.Proofs Go.Proofs.YtcgplgpdcfocpaaDoor.Eng Go.Proofs.YtcgplgpdcfocpaaDoor.Code
set_option maxRecDepth 100000
theorem at_nat' (l : List Int) (i : Nat) : at' l (i : Int) = l.getD i 0 := by unfold at'; rw [Int.toNat_natCast]
theorem at_setN (l : List Int) (i j : Nat) (x : Int) (hi : i < l.length) : at' (l.set i x) (j : Int) = if i = j then x else at' l (j : Int) := by
  have := at_set l (i : Int) (j : Int) x (by omega) (by omega) (by omega)
  rw [Int.toNat_natCast] at this
  rw [this]
  split <;> split <;> first | rfl | omega
structure Ring (f : Nat → List Int → List Int) : Prop where
  len : ∀ t l, (f t l).length = l.length
  off : ∀ t l (j : Nat), l.length = 16 → j < 16 → j ≠ t % 16 → at' (f t l) (j : Int) = at' l (j : Int)
def wrd (f : Nat → List Int → List Int) (l : List Int) (t : Nat) : Int := at' (rounds f (t + 1) l) ((t % 16 : Nat) : Int)
theorem ring_len {f : Nat → List Int → List Int} (h : Ring f) {l : List Int} (hl : l.length = 16) : ∀ t, (rounds f t l).length = 16
  | 0 => hl
  | t + 1 => by rw [rounds, h.len, ring_len h hl t]
theorem ring_at {f : Nat → List Int → List Int} (h : Ring f) {l : List Int} (hl : l.length = 16) : ∀ (t i : Nat), i < t → t ≤ i + 16 → at' (rounds f t l) ((i % 16 : Nat) : Int) = wrd f l i
  | 0, i, h1, _ => by omega
  | t + 1, i, h1, h2 => by
    by_cases e : i = t
    · subst e; rfl
    · rw [rounds, h.off t _ _ (ring_len h hl t) (by omega) (by omega)]
      exact ring_at h hl t i (by omega) (by omega)
theorem ring_first {f : Nat → List Int → List Int} (h : Ring f) {l : List Int} (hl : l.length = 16) : ∀ (t i : Nat), t ≤ i → i < 16 → at' (rounds f t l) (i : Int) = at' l (i : Int)
  | 0, i, _, _ => rfl
  | t + 1, i, h1, h2 => by
    rw [rounds, h.off t _ _ (ring_len h hl t) (by omega) (by omega)]
    exact ring_first h hl t i (by omega) h2
def rowN (f : Nat → Int) (n k : Nat) : List Int := (List.range k).map f ++ List.replicate (n - k) 0
theorem rowN_len (f : Nat → Int) {n k : Nat} (h : k ≤ n) : (rowN f n k).length = n := by simp [rowN]; omega
theorem rowN_at (f : Nat → Int) {n k j : Nat} (h : j < k) : at' (rowN f n k) (j : Int) = f j := by
  rw [at_nat', rowN, List.getD_eq_getElem?_getD, List.getElem?_append_left (by simpa using h)]
  simp [h]
theorem rowN_set (f : Nat → Int) {n k : Nat} (h : k < n) : (rowN f n k).set k (f k) = rowN f n (k + 1) := by
  rw [rowN, rowN, List.set_append_right _ _ (by simp), List.range_succ, List.map_append]
  simp only [List.length_map, List.length_range, Nat.sub_self]
  rw [show n - k = (n - (k + 1)) + 1 by omega, List.replicate_succ, List.set_cons_zero]
  simp
theorem oneW_ring : Ring oneW := by
  refine ⟨oneW_len, fun t l j hl hj hne => ?_⟩
  unfold oneW
  split
  · rfl
  · rw [show ((t : Int) % 16).toNat = t % 16 by omega, at_setN _ _ _ _ (by omega), if_neg (by omega)]
theorem oneS_w (s : St) : ∀ t, (rounds oneStep t s).w = rounds oneW t s.w
  | 0 => rfl
  | t + 1 => by rw [rounds, rounds, ← oneS_w s t]; rfl
theorem wordsK_at (p : List Int) : ∀ (k : Nat), k ≤ 16 → ∀ i : Nat, i < k → at' (rounds (fun i l => l.set i (wordAt p i)) k (zs 16)) (i : Int) = wordAt p i
  | 0, _, i, h => by omega
  | k + 1, hk, i, h => by
    rw [rounds, at_setN _ _ _ _ (by rw [rounds_len _ (fun n l => by simp)]; simp [zs]; omega)]
    split
    · rename_i e; rw [e]
    · exact wordsK_at p k (by omega) i (by omega)
theorem words_at (p : List Int) {i : Nat} (h : i < 16) : at' (words p) (i : Int) = wordAt p i := by
  unfold words; exact wordsK_at p 16 (by omega) i h
def oneWd (p : List Int) (t : Nat) : Int := wrd oneW (words p) t
theorem oneWd_lo {p : List Int} {t : Nat} (h : t < 16) : oneWd p t = wordAt p t := by
  unfold oneWd wrd
  rw [rounds, show t % 16 = t by omega]
  have e : ∀ l, oneW t l = l := fun l => by unfold oneW; rw [if_pos (by omega)]
  rw [e, ring_first oneW_ring (words_len p) t t (by omega) h, words_at p h]
theorem oneWd_hi {p : List Int} {t : Nat} (h : 16 ≤ t) : oneWd p t = rl32 (x32 (x32 (x32 (oneWd p (t - 3)) (oneWd p (t - 8))) (oneWd p (t - 14))) (oneWd p (t - 16))) 1 := by
  have hl := ring_len oneW_ring (words_len p) t
  have g : ∀ d, 0 < d → d ≤ 16 → at' (rounds oneW t (words p)) (((t - d) % 16 : Nat) : Int) = oneWd p (t - d) := fun d h1 h2 => ring_at oneW_ring (words_len p) t (t - d) (by omega) (by omega)
  have g3 := g 3 (by omega) (by omega)
  have g8 := g 8 (by omega) (by omega)
  have g14 := g 14 (by omega) (by omega)
  have g16 := g 16 (by omega) (by omega)
  conv => lhs; unfold oneWd wrd
  rw [rounds, oneW, if_neg (by omega), show ((t : Int) % 16).toNat = t % 16 by omega, at_setN _ _ _ _ (by omega), if_pos rfl]
  rw [show ((t : Int) % 16 + 13) % 16 = ((t - 3) % 16 : Nat) by omega, show ((t : Int) % 16 + 8) % 16 = ((t - 8) % 16 : Nat) by omega, show ((t : Int) % 16 + 2) % 16 = ((t - 14) % 16 : Nat) by omega, show ((t : Int) % 16) = ((t - 16) % 16 : Nat) by omega, g3, g8, g14, g16]
theorem oneWd_step (h p : List Int) (t : Nat) : at' (oneW t (rounds oneStep t (oneInit h p)).w) ((t : Int) % 16) = oneWd p t := by
  rw [oneS_w]
  unfold oneWd wrd
  rw [rounds, show ((t % 16 : Nat) : Int) = (t : Int) % 16 by omega]; rfl
theorem twoW_ring : Ring twoW := by
  refine ⟨twoW_len, fun t l j hl hj hne => ?_⟩
  unfold twoW
  split
  · rfl
  · rw [show ((t : Int) % 16).toNat = t % 16 by omega, at_setN _ _ _ _ (by omega), if_neg (by omega)]
theorem twoS_w (s : S32) : ∀ t, (rounds twoStep t s).w = rounds twoW t s.w
  | 0 => rfl
  | t + 1 => by rw [rounds, rounds, ← twoS_w s t]; rfl
def twoWd (p : List Int) (t : Nat) : Int := wrd twoW (words p) t
theorem twoWd_lo {p : List Int} {t : Nat} (h : t < 16) : twoWd p t = wordAt p t := by
  unfold twoWd wrd
  rw [rounds, show t % 16 = t by omega]
  have e : ∀ l, twoW t l = l := fun l => by unfold twoW; rw [if_pos (by omega)]
  rw [e, ring_first twoW_ring (words_len p) t t (by omega) h, words_at p h]
theorem s32_turn (a b c d : Int) : s32 a (s32 (s32 b c) d) = s32 (s32 (s32 b c) d) a := by
  unfold s32; rw [Int.add_comm]
theorem twoWd_hi {p : List Int} {t : Nat} (h : 16 ≤ t) : twoWd p t = s32 (s32 (s32 (tn32 (twoWd p (t - 2)) 17 19 10 true) (twoWd p (t - 7))) (tn32 (twoWd p (t - 15)) 7 18 3 true)) (twoWd p (t - 16)) := by
  have hl := ring_len twoW_ring (words_len p) t
  have g : ∀ d, 0 < d → d ≤ 16 → at' (rounds twoW t (words p)) (((t - d) % 16 : Nat) : Int) = twoWd p (t - d) := fun d h1 h2 => ring_at twoW_ring (words_len p) t (t - d) (by omega) (by omega)
  have g2 := g 2 (by omega) (by omega)
  have g7 := g 7 (by omega) (by omega)
  have g15 := g 15 (by omega) (by omega)
  have g16 := g 16 (by omega) (by omega)
  conv => lhs; unfold twoWd wrd
  rw [rounds, twoW, if_neg (by omega), show ((t : Int) % 16).toNat = t % 16 by omega, at_setN _ _ _ _ (by omega), if_pos rfl]
  rw [show ((t : Int) % 16 + 14) % 16 = ((t - 2) % 16 : Nat) by omega, show ((t : Int) % 16 + 9) % 16 = ((t - 7) % 16 : Nat) by omega, show ((t : Int) % 16 + 1) % 16 = ((t - 15) % 16 : Nat) by omega, show ((t : Int) % 16) = ((t - 16) % 16 : Nat) by omega, g2, g7, g15, g16, s32_turn]
theorem twoWd_step (h p : List Int) (t : Nat) : at' (twoW t (rounds twoStep t (twoInit h p)).w) ((t : Int) % 16) = twoWd p t := by
  rw [twoS_w]
  unfold twoWd wrd
  rw [rounds, show ((t % 16 : Nat) : Int) = (t : Int) % 16 by omega]; rfl
theorem wideW_ring : Ring wideW := by
  refine ⟨wideW_len, fun t l j hl hj hne => ?_⟩
  unfold wideW
  split
  · rfl
  · rw [show ((t : Int) % 16).toNat = t % 16 by omega, at_setN _ _ _ _ (by omega), if_neg (by omega)]
theorem wideS_w (s : S64) : ∀ t, (rounds wideStep t s).w = rounds wideW t s.w
  | 0 => rfl
  | t + 1 => by rw [rounds, rounds, ← wideS_w s t]; rfl
def wideWd (p : List Int) (t : Nat) : Int := wrd wideW (wwords p) t
def wpart (p : List Int) (t : Nat) : Nat → Int
  | 0 => 0
  | i + 1 => IntKind.u64.wrap (IntKind.u64.wrap (wpart p t i * 256) + IntKind.u64.wrap (at' p ((8 * t + i : Nat) : Int)))
def byteL (p : List Int) : Prop := ∀ i : Nat, 0 ≤ at' p (i : Int) ∧ at' p (i : Int) < 256
theorem wwords_at {p : List Int} (hb : byteL p) : ∀ (k : Nat), k ≤ 128 → ∀ i : Nat, i < 16 → at' (rounds (wwStep p) k (zs 16)) (i : Int) = wpart p i (min (k - 8 * i) 8)
  | 0, _, i, h => by
    rw [show min (0 - 8 * i) 8 = 0 by omega, rounds, at_nat']
    simp [zs, wpart, h, List.getD_eq_getElem?_getD, -List.reduceReplicate]
  | k + 1, hk, i, h => by
    have ih := wwords_at hb k (by omega)
    rw [rounds, wwStep, show ((k : Int) / 8).toNat = k / 8 by omega, at_setN _ _ _ _ (by rw [wwr_len]; omega)]
    split
    · rename_i e
      subst e
      rw [show (k : Int) / 8 = (k / 8 : Nat) by omega, ih (k / 8) (by omega), byte_in (hb k), show min (k + 1 - 8 * (k / 8)) 8 = (k % 8) + 1 by omega, show min (k - 8 * (k / 8)) 8 = k % 8 by omega, wpart, show 8 * (k / 8) + k % 8 = k by omega]
    · rw [ih i h]
      congr 1; omega
theorem wideWd_lo {p : List Int} (hb : byteL p) {t : Nat} (h : t < 16) : wideWd p t = wpart p t 8 := by
  unfold wideWd wrd
  rw [rounds, show t % 16 = t by omega]
  have e : ∀ l, wideW t l = l := fun l => by unfold wideW; rw [if_pos (by omega)]
  rw [e, ring_first wideW_ring (wwords_len p) t t (by omega) h]
  unfold wwords
  rw [wwords_at hb 128 (by omega) t h, show min (128 - 8 * t) 8 = 8 by omega]
theorem s64_turn (a b c d : Int) : s64 a (s64 (s64 b c) d) = s64 (s64 (s64 b c) d) a := by
  unfold s64; rw [Int.add_comm]
theorem wideWd_hi {p : List Int} {t : Nat} (h : 16 ≤ t) : wideWd p t = s64 (s64 (s64 (tn64 (wideWd p (t - 2)) 19 61 6 true) (wideWd p (t - 7))) (tn64 (wideWd p (t - 15)) 1 8 7 true)) (wideWd p (t - 16)) := by
  have hl := ring_len wideW_ring (wwords_len p) t
  have g : ∀ d, 0 < d → d ≤ 16 → at' (rounds wideW t (wwords p)) (((t - d) % 16 : Nat) : Int) = wideWd p (t - d) := fun d h1 h2 => ring_at wideW_ring (wwords_len p) t (t - d) (by omega) (by omega)
  have g2 := g 2 (by omega) (by omega)
  have g7 := g 7 (by omega) (by omega)
  have g15 := g 15 (by omega) (by omega)
  have g16 := g 16 (by omega) (by omega)
  conv => lhs; unfold wideWd wrd
  rw [rounds, wideW, if_neg (by omega), show ((t : Int) % 16).toNat = t % 16 by omega, at_setN _ _ _ _ (by omega), if_pos rfl]
  rw [show ((t : Int) % 16 + 14) % 16 = ((t - 2) % 16 : Nat) by omega, show ((t : Int) % 16 + 9) % 16 = ((t - 7) % 16 : Nat) by omega, show ((t : Int) % 16 + 1) % 16 = ((t - 15) % 16 : Nat) by omega, show ((t : Int) % 16) = ((t - 16) % 16 : Nat) by omega, g2, g7, g15, g16, s64_turn]
theorem wideWd_step (h p : List Int) (t : Nat) : at' (wideW t (rounds wideStep t (wideInit h p)).w) ((t : Int) % 16) = wideWd p t := by
  rw [wideS_w]
  unfold wideWd wrd
  rw [rounds, show ((t % 16 : Nat) : Int) = (t : Int) % 16 by omega]; rfl
end Go.Proofs.YtcgplgpdcfocpaaDoor.Spec
end
section
set_option linter.unusedVariables false
set_option linter.unusedSimpArgs false
namespace Go.Proofs.YtcgplgpdcfocpaaDoor.Spec
open Go Go.RowKit Go.Proofs Go.Proofs.YtcgplgpdcfocpaaDoor.Eng Go.Proofs.YtcgplgpdcfocpaaDoor.Code
set_option maxRecDepth 100000
attribute [local irreducible] callK S.W opsW scrW one
def zT (bs n : Nat) : Nat := zeros1 bs (n % bs) + zeros2 bs (n % bs)
def zA (bs n : Nat) : Nat := zT bs n - (bs / 8 - 8)
def fillF (bs : Nat) (m : List Int) : List Int := m ++ [128] ++ List.replicate (zT bs m.length) 0 ++ (List.range 8).map (lenB m.length)
def gB (r n j : Nat) : Int := if (r : Int) - 1 - j < 8 then lenB n (j - (r - 8)) else 0
theorem gB_all {r : Nat} (h : r = 8 ∨ r = 16) (n : Nat) : (List.range r).map (gB r n) = List.replicate (r - 8) 0 ++ (List.range 8).map (lenB n) := by
  rcases h with rfl | rfl <;> rfl
theorem zA_no {bs n z : Nat} (h : bs = 64 ∨ bs = 128) (hz : z < zA bs n) : (((n + 1 + z : Nat) : Int) + (bs / 8 : Nat)) % (bs : Int) ≠ 0 := by
  unfold zA zT zeros1 zeros2 at hz
  rcases h with rfl | rfl <;> split at hz <;> split at hz <;> omega
theorem zA_yes {bs n : Nat} (h : bs = 64 ∨ bs = 128) : (((n + 1 + zA bs n : Nat) : Int) + (bs / 8 : Nat)) % (bs : Int) = 0 := by
  unfold zA zT zeros1 zeros2
  rcases h with rfl | rfl <;> split <;> split <;> omega
theorem zA_le {bs n : Nat} (h : bs = 64 ∨ bs = 128) : zA bs n ≤ 260 ∧ zA bs n + (bs / 8 - 8) = zT bs n := by
  unfold zA zT zeros1 zeros2
  rcases h with rfl | rfl <;> split <;> split <;> omega
theorem fill_len {bs : Nat} (h : bs = 64 ∨ bs = 128) (m : List Int) : (fillF bs m).length % bs = 0 ∧ (fillF bs m).length ≤ m.length + 300 ∧ 0 < (fillF bs m).length := by
  simp only [fillF, List.length_append, List.length_replicate, List.length_map, List.length_range, List.length_cons, List.length_nil]
  unfold zT zeros1 zeros2
  rcases h with rfl | rfl <;> split <;> split <;> omega
set_option maxHeartbeats 1000000 in
theorem filled_vw {w : World} {v : Value} {m : List Int} {bs : Nat} (hv : Vw .u8 w v m) (hb : bs = 64 ∨ bs = 128) (hm : m.length ≤ 16777216) (K : Value → World → Prop)
    (hK : ∀ v' w', Gw .u8 w w' v' (fillF bs m) → K v' w') : callK Tryd.prog 53 [v, .int .i64 bs] w K := by
  obtain ⟨A, c, rfl, hc, hr⟩ := hv
  refine call_of Tryd.func53 Code.h53 (by simp [Code.c53]) ?_
  simp (disch := omega) only [EO, ↓EP, EQ, EM, ↓reduceIte, Int.reduceAdd, Int.reduceEq, Int.reduceLE, Int.reduceLT, Int.reduceMul, Int.reduceNeg, Int.reducePow, Int.reduceSub, Int.reduceToNat, Nat.reduceAdd, Nat.reduceEqDiff, Nat.reduceLT, Nat.reduceLeDiff, Nat.reduceMul, reduceCtorEq, Code.c53]
  have er : (bs : Int) / 8 = ((bs / 8 : Nat) : Int) := by omega
  have hr8 : bs / 8 = 8 ∨ bs / 8 = 16 := by omega
  obtain ⟨hz1, hz2⟩ := zA_le (n := m.length) hb
  refine al_k (nums .u8 []) rfl fun w1 n1 => ?_
  have g1 : Gw .u8 w w1 (.slice (some ⟨w.heap.size, 0, none⟩) 0 0) [] := ⟨n1.sl, fun b e => by cases e; exact Nat.le_refl _, n1.fr nob⟩
  simp (disch := omega) only [EO, ↓EP, EQ, EM, ↓reduceIte, Int.reduceAdd, Int.reduceEq, Int.reduceLE, Int.reduceLT, Int.reduceMul, Int.reduceNeg, Int.reducePow, Int.reduceSub, Int.reduceToNat, Nat.reduceAdd, Nat.reduceEqDiff, Nat.reduceLT, Nat.reduceLeDiff, Nat.reduceMul, reduceCtorEq]
  refine app_num g1.sl rfl (hr.nb (n1.fr nob)) (by rw [List.length_nil]; omega) (by omega) fun v2 w2 a2 => ?_
  have g2 := g1.apd a2
  rw [List.nil_append] at g2
  simp (disch := omega) only [EO, ↓EP, EQ, EM, ↓reduceIte, Int.reduceAdd, Int.reduceEq, Int.reduceLE, Int.reduceLT, Int.reduceMul, Int.reduceNeg, Int.reducePow, Int.reduceSub, Int.reduceToNat, Nat.reduceAdd, Nat.reduceEqDiff, Nat.reduceLT, Nat.reduceLeDiff, Nat.reduceMul, reduceCtorEq]
  refine bsl1 fun w3 n3 => ?_
  have g3 := g2.new n3
  simp (disch := omega) only [EO, ↓EP, EQ, EM, ↓reduceIte, Int.reduceAdd, Int.reduceEq, Int.reduceLE, Int.reduceLT, Int.reduceMul, Int.reduceNeg, Int.reducePow, Int.reduceSub, Int.reduceToNat, Nat.reduceAdd, Nat.reduceEqDiff, Nat.reduceLT, Nat.reduceLeDiff, Nat.reduceMul, reduceCtorEq]
  refine app_num g3.sl rfl n3.rdl (by simp; omega) (by omega) fun v4 w4 a4 => ?_
  have g4 := g3.apd a4
  simp (disch := omega) only [EO, ↓EP, EQ, EM, ↓reduceIte, Int.reduceAdd, Int.reduceEq, Int.reduceLE, Int.reduceLT, Int.reduceMul, Int.reduceNeg, Int.reducePow, Int.reduceSub, Int.reduceToNat, Nat.reduceAdd, Nat.reduceEqDiff, Nat.reduceLT, Nat.reduceLeDiff, Nat.reduceMul, reduceCtorEq]
  generalize hR : bs / 8 = R at *
  refine loop_inv (fun t ρ w' => ∃ (z : Nat) (T : Value), ρ 6 = T ∧ z ≤ zA bs m.length ∧ t = zA bs m.length - z ∧ Gw .u8 w w' T (m ++ [128] ++ List.replicate z 0)) (zA bs m.length) ⟨0, v4, by simp (disch := omega) only [EO, ↓EP, EQ, EM, ↓reduceIte, Int.reduceAdd, Int.reduceEq, Int.reduceLE, Int.reduceLT, Int.reduceMul, Int.reduceNeg, Int.reducePow, Int.reduceSub, Int.reduceToNat, Nat.reduceAdd, Nat.reduceEqDiff, Nat.reduceLT, Nat.reduceLeDiff, Nat.reduceMul, reduceCtorEq], Nat.zero_le _, rfl, by simpa using g4⟩ ?_
  clear g1 g2 g3 g4 a2 a4 n1 n3
  rintro t ρ w5 hf ⟨z, T, h6, hz, rfl, G⟩ N hN
  have r0 : ρ 0 = .slice A m.length c := by rw [hf 0 rfl]; simp (disch := omega) only [EO, ↓EP, EQ, EM, ↓reduceIte, Int.reduceAdd, Int.reduceEq, Int.reduceLE, Int.reduceLT, Int.reduceMul, Int.reduceNeg, Int.reducePow, Int.reduceSub, Int.reduceToNat, Nat.reduceAdd, Nat.reduceEqDiff, Nat.reduceLT, Nat.reduceLeDiff, Nat.reduceMul, reduceCtorEq]
  have r1 : ρ 1 = .int .i64 bs := by rw [hf 1 rfl]; simp (disch := omega) only [EO, ↓EP, EQ, EM, ↓reduceIte, Int.reduceAdd, Int.reduceEq, Int.reduceLE, Int.reduceLT, Int.reduceMul, Int.reduceNeg, Int.reducePow, Int.reduceSub, Int.reduceToNat, Nat.reduceAdd, Nat.reduceEqDiff, Nat.reduceLT, Nat.reduceLeDiff, Nat.reduceMul, reduceCtorEq]
  have r5 : ρ 5 = .int .i64 R := by rw [hf 5 rfl]; simp (disch := omega) only [EO, ↓EP, EQ, EM, ↓reduceIte, Int.reduceAdd, Int.reduceEq, Int.reduceLE, Int.reduceLT, Int.reduceMul, Int.reduceNeg, Int.reducePow, Int.reduceSub, Int.reduceToNat, Nat.reduceAdd, Nat.reduceEqDiff, Nat.reduceLT, Nat.reduceLeDiff, Nat.reduceMul, reduceCtorEq, er]
  clear hf
  obtain ⟨TA, tc, rfl, htc, hTd⟩ := readn G.sl (n := m.length + 1 + z) (by simp; omega)
  by_cases hzz : z < zA bs m.length
  · have hcond := eq_false (zA_no hb hzz)
    rw [hR] at hcond
    simp (disch := omega) only [EO, ↓EP, EQ, EM, ↓reduceIte, Int.reduceAdd, Int.reduceEq, Int.reduceLE, Int.reduceLT, Int.reduceMul, Int.reduceNeg, Int.reducePow, Int.reduceSub, Int.reduceToNat, Nat.reduceAdd, Nat.reduceEqDiff, Nat.reduceLT, Nat.reduceLeDiff, Nat.reduceMul, reduceCtorEq, h6, r1, r5, hcond]
    refine bsl1 fun w7 n7 => ?_
    have G7 := G.new n7
    simp (disch := omega) only [EO, ↓EP, EQ, EM, ↓reduceIte, Int.reduceAdd, Int.reduceEq, Int.reduceLE, Int.reduceLT, Int.reduceMul, Int.reduceNeg, Int.reducePow, Int.reduceSub, Int.reduceToNat, Nat.reduceAdd, Nat.reduceEqDiff, Nat.reduceLT, Nat.reduceLeDiff, Nat.reduceMul, reduceCtorEq, h6]
    refine app_num G7.sl rfl n7.rdl (by simp; omega) (by omega) fun v8 w8 a8 => ?_
    have G8 := G7.apd a8
    simp (disch := omega) only [EO, ↓EP, EQ, EM, ↓reduceIte, Int.reduceAdd, Int.reduceEq, Int.reduceLE, Int.reduceLT, Int.reduceMul, Int.reduceNeg, Int.reducePow, Int.reduceSub, Int.reduceToNat, Nat.reduceAdd, Nat.reduceEqDiff, Nat.reduceLT, Nat.reduceLeDiff, Nat.reduceMul, reduceCtorEq]
    refine hN (zA bs m.length - (z + 1)) _ _ (by omega) ⟨z + 1, v8, by simp (disch := omega) only [EO, ↓EP, EQ, EM, ↓reduceIte, Int.reduceAdd, Int.reduceEq, Int.reduceLE, Int.reduceLT, Int.reduceMul, Int.reduceNeg, Int.reducePow, Int.reduceSub, Int.reduceToNat, Nat.reduceAdd, Nat.reduceEqDiff, Nat.reduceLT, Nat.reduceLeDiff, Nat.reduceMul, reduceCtorEq], by omega, rfl, ?_⟩
    rw [List.replicate_succ', ← List.append_assoc]; exact G8
  have hze : z = zA bs m.length := by omega
  subst hze
  have hcond := zA_yes (n := m.length) hb
  rw [hR] at hcond
  simp (disch := omega) only [EO, ↓EP, EQ, EM, ↓reduceIte, Int.reduceAdd, Int.reduceEq, Int.reduceLE, Int.reduceLT, Int.reduceMul, Int.reduceNeg, Int.reducePow, Int.reduceSub, Int.reduceToNat, Nat.reduceAdd, Nat.reduceEqDiff, Nat.reduceLT, Nat.reduceLeDiff, Nat.reduceMul, reduceCtorEq, h6, r1, r5, hcond]
  clear hN hcond
  refine loop_inv (fun t ρ w' => ∃ (j : Nat) (T : Value), ρ 7 = .int .i64 ((R : Int) - 1 - j) ∧ ρ 6 = T ∧ j ≤ R ∧ t = R - j ∧ Gw .u8 w w' T (m ++ [128] ++ List.replicate (zA bs m.length) 0 ++ (List.range j).map (gB R m.length))) R ⟨0, .slice TA (m.length + 1 + zA bs m.length) tc, by simp (disch := omega) only [EO, ↓EP, EQ, EM, ↓reduceIte, Int.reduceAdd, Int.reduceEq, Int.reduceLE, Int.reduceLT, Int.reduceMul, Int.reduceNeg, Int.reducePow, Int.reduceSub, Int.reduceToNat, Nat.reduceAdd, Nat.reduceEqDiff, Nat.reduceLT, Nat.reduceLeDiff, Nat.reduceMul, reduceCtorEq]; rw [Int.sub_zero], by simp (disch := omega) only [EO, ↓EP, EQ, EM, ↓reduceIte, Int.reduceAdd, Int.reduceEq, Int.reduceLE, Int.reduceLT, Int.reduceMul, Int.reduceNeg, Int.reducePow, Int.reduceSub, Int.reduceToNat, Nat.reduceAdd, Nat.reduceEqDiff, Nat.reduceLT, Nat.reduceLeDiff, Nat.reduceMul, reduceCtorEq, h6], Nat.zero_le _, rfl, by simpa using G⟩ ?_
  clear G hTd
  rintro t ρ8 w8 hf ⟨j, T, h7, h6', hj, rfl, G⟩ N hN
  have q0 : ρ8 0 = .slice A m.length c := by rw [hf 0 rfl]; simp (disch := omega) only [EO, ↓EP, EQ, EM, ↓reduceIte, Int.reduceAdd, Int.reduceEq, Int.reduceLE, Int.reduceLT, Int.reduceMul, Int.reduceNeg, Int.reducePow, Int.reduceSub, Int.reduceToNat, Nat.reduceAdd, Nat.reduceEqDiff, Nat.reduceLT, Nat.reduceLeDiff, Nat.reduceMul, reduceCtorEq, r0]
  clear hf
  by_cases hjr : (0 : Int) ≤ (R : Int) - 1 - j
  · have fin : ∀ ρ9 : Env, ρ9 6 = T → ρ9 7 = .int .i64 ((R : Int) - 1 - j) → ρ9 8 = .int .u8 (gB R m.length j) → True := fun _ _ _ _ => trivial
    by_cases h8 : (R : Int) - 1 - j < 8
    · have e2 : min (8 * ((R : Int) - 1 - j)).toNat 64 = 56 - 8 * (j - (R - 8)) := by omega
      have eg : gB R m.length j = IntKind.u8.wrap ((IntKind.u64.wrap (8 * (m.length : Int))).fdiv (2 ^ (56 - 8 * (j - (R - 8))))) := by rw [gB, if_pos h8]; rfl
      simp (disch := omega) only [EO, ↓EP, EQ, EM, ↓reduceIte, Int.reduceAdd, Int.reduceEq, Int.reduceLE, Int.reduceLT, Int.reduceMul, Int.reduceNeg, Int.reducePow, Int.reduceSub, Int.reduceToNat, Nat.reduceAdd, Nat.reduceEqDiff, Nat.reduceLT, Nat.reduceLeDiff, Nat.reduceMul, reduceCtorEq, W_join, h7, h6', q0, e2]
      refine bsl1 fun w9 n9 => ?_
      have G9 := G.new n9
      simp (disch := omega) only [EO, ↓EP, EQ, EM, ↓reduceIte, Int.reduceAdd, Int.reduceEq, Int.reduceLE, Int.reduceLT, Int.reduceMul, Int.reduceNeg, Int.reducePow, Int.reduceSub, Int.reduceToNat, Nat.reduceAdd, Nat.reduceEqDiff, Nat.reduceLT, Nat.reduceLeDiff, Nat.reduceMul, reduceCtorEq, h7, h6', q0, e2]
      refine app_num G9.sl rfl n9.rdl (by simp; omega) (by omega) fun v10 w10 a10 => ?_
      have G10 := G9.apd a10
      simp (disch := omega) only [EO, ↓EP, EQ, EM, ↓reduceIte, Int.reduceAdd, Int.reduceEq, Int.reduceLE, Int.reduceLT, Int.reduceMul, Int.reduceNeg, Int.reducePow, Int.reduceSub, Int.reduceToNat, Nat.reduceAdd, Nat.reduceEqDiff, Nat.reduceLT, Nat.reduceLeDiff, Nat.reduceMul, reduceCtorEq, h7]
      refine hN (R - (j + 1)) _ _ (by omega) ⟨j + 1, v10, by simp (disch := omega) only [EO, ↓EP, EQ, EM, ↓reduceIte, Int.reduceAdd, Int.reduceEq, Int.reduceLE, Int.reduceLT, Int.reduceMul, Int.reduceNeg, Int.reducePow, Int.reduceSub, Int.reduceToNat, Nat.reduceAdd, Nat.reduceEqDiff, Nat.reduceLT, Nat.reduceLeDiff, Nat.reduceMul, reduceCtorEq, h7]; congr 1; omega, by simp (disch := omega) only [EO, ↓EP, EQ, EM, ↓reduceIte, Int.reduceAdd, Int.reduceEq, Int.reduceLE, Int.reduceLT, Int.reduceMul, Int.reduceNeg, Int.reducePow, Int.reduceSub, Int.reduceToNat, Nat.reduceAdd, Nat.reduceEqDiff, Nat.reduceLT, Nat.reduceLeDiff, Nat.reduceMul, reduceCtorEq], by omega, rfl, ?_⟩
      rw [map_succ, ← List.append_assoc, eg]; exact G10
    · have eg : gB R m.length j = 0 := by rw [gB, if_neg h8]
      simp (disch := omega) only [EO, ↓EP, EQ, EM, ↓reduceIte, Int.reduceAdd, Int.reduceEq, Int.reduceLE, Int.reduceLT, Int.reduceMul, Int.reduceNeg, Int.reducePow, Int.reduceSub, Int.reduceToNat, Nat.reduceAdd, Nat.reduceEqDiff, Nat.reduceLT, Nat.reduceLeDiff, Nat.reduceMul, reduceCtorEq, W_join, h7, h6', q0]
      refine bsl1 fun w9 n9 => ?_
      have G9 := G.new n9
      simp (disch := omega) only [EO, ↓EP, EQ, EM, ↓reduceIte, Int.reduceAdd, Int.reduceEq, Int.reduceLE, Int.reduceLT, Int.reduceMul, Int.reduceNeg, Int.reducePow, Int.reduceSub, Int.reduceToNat, Nat.reduceAdd, Nat.reduceEqDiff, Nat.reduceLT, Nat.reduceLeDiff, Nat.reduceMul, reduceCtorEq, h7, h6', q0]
      refine app_num G9.sl rfl n9.rdl (by simp; omega) (by omega) fun v10 w10 a10 => ?_
      have G10 := G9.apd a10
      simp (disch := omega) only [EO, ↓EP, EQ, EM, ↓reduceIte, Int.reduceAdd, Int.reduceEq, Int.reduceLE, Int.reduceLT, Int.reduceMul, Int.reduceNeg, Int.reducePow, Int.reduceSub, Int.reduceToNat, Nat.reduceAdd, Nat.reduceEqDiff, Nat.reduceLT, Nat.reduceLeDiff, Nat.reduceMul, reduceCtorEq, h7]
      refine hN (R - (j + 1)) _ _ (by omega) ⟨j + 1, v10, by simp (disch := omega) only [EO, ↓EP, EQ, EM, ↓reduceIte, Int.reduceAdd, Int.reduceEq, Int.reduceLE, Int.reduceLT, Int.reduceMul, Int.reduceNeg, Int.reducePow, Int.reduceSub, Int.reduceToNat, Nat.reduceAdd, Nat.reduceEqDiff, Nat.reduceLT, Nat.reduceLeDiff, Nat.reduceMul, reduceCtorEq, h7]; congr 1; omega, by simp (disch := omega) only [EO, ↓EP, EQ, EM, ↓reduceIte, Int.reduceAdd, Int.reduceEq, Int.reduceLE, Int.reduceLT, Int.reduceMul, Int.reduceNeg, Int.reducePow, Int.reduceSub, Int.reduceToNat, Nat.reduceAdd, Nat.reduceEqDiff, Nat.reduceLT, Nat.reduceLeDiff, Nat.reduceMul, reduceCtorEq], by omega, rfl, ?_⟩
      rw [map_succ, ← List.append_assoc, eg]; exact G10
  have hje : j = R := by omega
  subst hje
  simp (disch := omega) only [EO, ↓EP, EQ, EM, ↓reduceIte, Int.reduceAdd, Int.reduceEq, Int.reduceLE, Int.reduceLT, Int.reduceMul, Int.reduceNeg, Int.reducePow, Int.reduceSub, Int.reduceToNat, Nat.reduceAdd, Nat.reduceEqDiff, Nat.reduceLT, Nat.reduceLeDiff, Nat.reduceMul, reduceCtorEq, h7, h6']
  refine hK T w8 ?_
  rw [gB_all hr8, ← List.append_assoc, List.append_assoc (m ++ [128]), List.replicate_append_replicate, hz2] at G
  exact G
end Go.Proofs.YtcgplgpdcfocpaaDoor.Spec
end
section
set_option linter.unusedVariables false
set_option linter.unusedSimpArgs false
namespace Go.Proofs.YtcgplgpdcfocpaaDoor.Spec
open Go Go.RowKit Go.Proofs Go.Proofs.YtcgplgpdcfocpaaDoor.Eng Go.Proofs.YtcgplgpdcfocpaaDoor.Code
set_option maxRecDepth 100000
attribute [local irreducible] callK S.W opsW scrW one
theorem fill55 (a0 a1 a2 a3 a4 : Int) : fillL [(0, 1), (1, 1), (2, 1), (3, 1), (4, 1)] (Array.replicate 5 (Value.int .u32 0)) [(0, .int .u32 a0), (1, .int .u32 a1), (2, .int .u32 a2), (3, .int .u32 a3), (4, .int .u32 a4)] = some (nums .u32 [a0, a1, a2, a3, a4]).toArray := by kernel_rfl
theorem byteL_part {bs : Nat} {M : List Int} (h : byteL M) (j : Nat) : byteL (part bs M j) := by
  intro i
  rw [at_nat', part, List.getD_eq_getElem?_getD, List.getElem?_take]
  split
  · rw [List.getElem?_drop, ← List.getD_eq_getElem?_getD, ← at_nat']; exact h _
  · simp
theorem part_at {bs : Nat} {M : List Int} {j i : Nat} (h : i < bs) : at' (part bs M j) (i : Int) = at' M ((j * bs + i : Nat) : Int) := by
  rw [at_nat', at_nat', part, List.getD_eq_getElem?_getD, List.getElem?_take, if_pos h, List.getElem?_drop, ← List.getD_eq_getElem?_getD]
theorem take_at' {l : List Int} {n i : Nat} (h : i < n) : at' (l.take n) (i : Int) = at' l (i : Int) := by
  rw [at_nat', at_nat', List.getD_eq_getElem?_getD, List.getElem?_take, if_pos h, ← List.getD_eq_getElem?_getD]
theorem four_at {w : World} {A : Option Addr} {M : List Int} {c lo : Nat} (h : Rd w A (nums .u8 M)) (hc : M.length ≤ c) (hl : lo + 4 ≤ M.length) :
    ∃ ad, subA A c lo 1 = some ad ∧ w.cell? (ad.add 0) = some (.int .u8 (at' M (lo : Int))) ∧ w.cell? (ad.add 1) = some (.int .u8 (at' M ((lo + 1 : Nat) : Int))) ∧ w.cell? (ad.add 2) = some (.int .u8 (at' M ((lo + 2 : Nat) : Int))) ∧ w.cell? (ad.add 3) = some (.int .u8 (at' M ((lo + 3 : Nat) : Int))) := by
  have h1 := h.subA c lo hc
  obtain ⟨ad, e, _, hcl⟩ := h1.get (by simp [nums_length]; omega)
  have g : ∀ i : Nat, i < 4 → w.cell? (ad.add i) = some (.int .u8 (at' M ((lo + i : Nat) : Int))) := fun i hi => by
    rw [hcl.numN (j := i) (by simp; omega)]
    congr 2
    rw [at_nat', at_nat', List.getD_eq_getElem?_getD, List.getElem?_drop, ← List.getD_eq_getElem?_getD]
  exact ⟨ad, e, g 0 (by omega), g 1 (by omega), g 2 (by omega), g 3 (by omega)⟩
theorem oneWd_read {M : List Int} {j k : Nat} (hb : byteL M) (hk : k < 16) :
    IntKind.u32.wrap (IntKind.u32.wrap (IntKind.u32.wrap (IntKind.u32.wrap (IntKind.u32.wrap (at' M ((64 * j + 4 * k : Nat) : Int)) * 16777216) + IntKind.u32.wrap (IntKind.u32.wrap (at' M ((64 * j + 4 * k + 1 : Nat) : Int)) * 65536)) + IntKind.u32.wrap (IntKind.u32.wrap (at' M ((64 * j + 4 * k + 2 : Nat) : Int)) * 256)) + IntKind.u32.wrap (at' M ((64 * j + 4 * k + 3 : Nat) : Int))) = wordAt (part 64 M j) k := by
  rw [word_sum (hb _) (hb _) (hb _) (hb _), wordAt]
  rw [show (4 * (k : Int)) = ((4 * k : Nat) : Int) by omega, show ((4 * k : Nat) : Int) + 1 = ((4 * k + 1 : Nat) : Int) by omega, show ((4 * k : Nat) : Int) + 2 = ((4 * k + 2 : Nat) : Int) by omega, show ((4 * k : Nat) : Int) + 3 = ((4 * k + 3 : Nat) : Int) by omega]
  rw [part_at (by omega), part_at (by omega), part_at (by omega), part_at (by omega)]
  rw [show j * 64 + 4 * k = 64 * j + 4 * k by omega, show j * 64 + (4 * k + 1) = 64 * j + 4 * k + 1 by omega, show j * 64 + (4 * k + 2) = 64 * j + 4 * k + 2 by omega, show j * 64 + (4 * k + 3) = 64 * j + 4 * k + 3 by omega]
theorem run1_succ (M : List Int) (j : Nat) : (runN 1 M (j + 1)).1 = one (runN 1 M j).1 (part 64 M j) := by
  rw [runN_succ, mix, if_pos rfl]; rfl
theorem run1_len (M : List Int) : ∀ j, (runN 1 M j).1.length = 8
  | 0 => rfl
  | j + 1 => by rw [run1_succ]; exact one_len _ _
def oneJ (w : World) (hb b5 : Nat) (H p : List Int) (m : Nat) (ρ : Env) (w' : World) : Prop :=
  ∃ k : Nat, ρ 13 = .int .i64 k ∧ k ≤ 80 ∧ m = 80 - k ∧ ρ 8 = .int .u32 (rounds oneStep k (oneInit H p)).a ∧ ρ 9 = .int .u32 (rounds oneStep k (oneInit H p)).b ∧ ρ 10 = .int .u32 (rounds oneStep k (oneInit H p)).c ∧ ρ 11 = .int .u32 (rounds oneStep k (oneInit H p)).d ∧ ρ 12 = .int .u32 (rounds oneStep k (oneInit H p)).e ∧
    Blk w' hb (nums .u32 (H.take 5)) ∧ Blk w' b5 (nums .u32 (rowN (oneWd p) 80 80)) ∧ Below w.heap.size w w'
theorem not_u32 (n : Int) : bits .xor .u32 (if IntKind.u32.signed = true then -1 else IntKind.u32.max) n = bits .xor .u32 4294967295 n := rfl
set_option maxHeartbeats 4000000 in
theorem sha1_vw {w : World} {v : Value} {M : List Int} (hv : Vw .u8 w v M) (h64 : M.length % 64 = 0) (hm : M.length ≤ 16777600) (hb : byteL M) (K : Value → World → Prop)
    (hK : ∀ v' w', Gw .u8 w w' v' ((List.range 5).flatMap fun (i : Nat) => w4 (at' (runN 1 M (M.length / 64)).1 (i : Int))) → K v' w') : callK Tryd.prog 52 [v] w K := by
  obtain ⟨A, c, rfl, hc, hr⟩ := hv
  refine call_of Tryd.func52 Code.h52 (by simp [Code.c52]) ?_
  simp (disch := omega) only [EO, ↓EP, EQ, EM, ↓reduceIte, Int.reduceAdd, Int.reduceEq, Int.reduceLE, Int.reduceLT, Int.reduceMul, Int.reduceNeg, Int.reducePow, Int.reduceSub, Int.reduceToNat, Nat.reduceAdd, Nat.reduceEqDiff, Nat.reduceLT, Nat.reduceLeDiff, Nat.reduceMul, reduceCtorEq, Code.c52]
  refine ⟨_, fill55 _ _ _ _ _, ?_⟩
  simp (disch := omega) only [EO, ↓EP, EQ, EM, ↓reduceIte, Int.reduceAdd, Int.reduceEq, Int.reduceLE, Int.reduceLT, Int.reduceMul, Int.reduceNeg, Int.reducePow, Int.reduceSub, Int.reduceToNat, Nat.reduceAdd, Nat.reduceEqDiff, Nat.reduceLT, Nat.reduceLeDiff, Nat.reduceMul, reduceCtorEq]
  refine al_k (nums .u32 (zs 5)) rfl fun w1 n1 => ?_
  simp (disch := omega) only [EO, ↓EP, EQ, EM, ↓reduceIte, Int.reduceAdd, Int.reduceEq, Int.reduceLE, Int.reduceLT, Int.reduceMul, Int.reduceNeg, Int.reducePow, Int.reduceSub, Int.reduceToNat, Nat.reduceAdd, Nat.reduceEqDiff, Nat.reduceLT, Nat.reduceLeDiff, Nat.reduceMul, reduceCtorEq]
  refine st_whole n1.blk rfl rfl (nums_one _ _) fun w2 p2 => ?_
  simp (disch := omega) only [EO, ↓EP, EQ, EM, ↓reduceIte, Int.reduceAdd, Int.reduceEq, Int.reduceLE, Int.reduceLT, Int.reduceMul, Int.reduceNeg, Int.reducePow, Int.reduceSub, Int.reduceToNat, Nat.reduceAdd, Nat.reduceEqDiff, Nat.reduceLT, Nat.reduceLeDiff, Nat.reduceMul, reduceCtorEq]
  have s1 := n1.size
  have s2 := p2.size
  have b2 : Below w.heap.size w w2 := p2.below (Nat.le_refl _) (n1.below (Nat.le_refl _) (Below.refl _ _))
  refine loop_inv (fun t ρ w' => ∃ j : Nat, ρ 4 = .int .i64 (64 * (j : Int)) ∧ 64 * j ≤ M.length ∧ t = M.length - 64 * j ∧ Blk w' w.heap.size (nums .u32 ((runN 1 M j).1.take 5)) ∧ Below w.heap.size w w') M.length ⟨0, by simp (disch := omega) only [EO, ↓EP, EQ, EM, ↓reduceIte, Int.reduceAdd, Int.reduceEq, Int.reduceLE, Int.reduceLT, Int.reduceMul, Int.reduceNeg, Int.reducePow, Int.reduceSub, Int.reduceToNat, Nat.reduceAdd, Nat.reduceEqDiff, Nat.reduceLT, Nat.reduceLeDiff, Nat.reduceMul, reduceCtorEq], by omega, by omega, p2.blk, b2⟩ ?_
  clear b2 n1 p2 s1 s2 w1
  rintro t ρ w3 hf ⟨j, h4, hj, rfl, hH, b3⟩ N hN
  have r0 : ρ 0 = .slice A M.length c := by rw [hf 0 rfl]; simp (disch := omega) only [EO, ↓EP, EQ, EM, ↓reduceIte, Int.reduceAdd, Int.reduceEq, Int.reduceLE, Int.reduceLT, Int.reduceMul, Int.reduceNeg, Int.reducePow, Int.reduceSub, Int.reduceToNat, Nat.reduceAdd, Nat.reduceEqDiff, Nat.reduceLT, Nat.reduceLeDiff, Nat.reduceMul, reduceCtorEq]
  have r3 : ρ 3 = .pointer (some ⟨w.heap.size, 0, none⟩) := by rw [hf 3 rfl]; simp (disch := omega) only [EO, ↓EP, EQ, EM, ↓reduceIte, Int.reduceAdd, Int.reduceEq, Int.reduceLE, Int.reduceLT, Int.reduceMul, Int.reduceNeg, Int.reducePow, Int.reduceSub, Int.reduceToNat, Nat.reduceAdd, Nat.reduceEqDiff, Nat.reduceLT, Nat.reduceLeDiff, Nat.reduceMul, reduceCtorEq]
  clear hf
  have lt3 := hH.lt
  by_cases hjl : 64 * (j : Int) < (M.length : Int)
  · have hM0 : 0 < M.length := by omega
    simp (disch := omega) only [EO, ↓EP, EQ, EM, ↓reduceIte, Int.reduceAdd, Int.reduceEq, Int.reduceLE, Int.reduceLT, Int.reduceMul, Int.reduceNeg, Int.reducePow, Int.reduceSub, Int.reduceToNat, Nat.reduceAdd, Nat.reduceEqDiff, Nat.reduceLT, Nat.reduceLeDiff, Nat.reduceMul, reduceCtorEq, h4, r0, r3]
    refine al_k (nums .u32 (zs 80)) rfl fun w4 n4 => ?_
    have b4 := n4.below (by have := b3.size; omega) b3
    have hH4 := n4.keep hH
    have hp : Rd w4 A (nums .u8 M) := hr.below b4
    generalize hpp : part 64 M j = p
    have hpb : byteL p := by rw [← hpp]; exact byteL_part hb j
    simp (disch := omega) only [EO, ↓EP, EQ, EM, ↓reduceIte, Int.reduceAdd, Int.reduceEq, Int.reduceLE, Int.reduceLT, Int.reduceMul, Int.reduceNeg, Int.reducePow, Int.reduceSub, Int.reduceToNat, Nat.reduceAdd, Nat.reduceEqDiff, Nat.reduceLT, Nat.reduceLeDiff, Nat.reduceMul, reduceCtorEq, h4, r0, r3]
    refine loop_inv (fun t ρ' w' => ∃ k : Nat, ρ' 6 = .int .i64 k ∧ k ≤ 80 ∧ t = 80 - k ∧ Blk w' w.heap.size (nums .u32 ((runN 1 M j).1.take 5)) ∧ Blk w' w3.heap.size (nums .u32 (rowN (oneWd p) 80 k)) ∧ Below w.heap.size w w') 80 ⟨0, by simp (disch := omega) only [EO, ↓EP, EQ, EM, ↓reduceIte, Int.reduceAdd, Int.reduceEq, Int.reduceLE, Int.reduceLT, Int.reduceMul, Int.reduceNeg, Int.reducePow, Int.reduceSub, Int.reduceToNat, Nat.reduceAdd, Nat.reduceEqDiff, Nat.reduceLT, Nat.reduceLeDiff, Nat.reduceMul, reduceCtorEq], by omega, by omega, hH4, n4.blk, b4⟩ ?_
    rintro t ρ5 w5 hf ⟨k, h6, hk, rfl, hH5, hW5, b5⟩ N5 hN5
    have q0 : ρ5 0 = .slice A M.length c := by rw [hf 0 rfl]; simp (disch := omega) only [EO, ↓EP, EQ, EM, ↓reduceIte, Int.reduceAdd, Int.reduceEq, Int.reduceLE, Int.reduceLT, Int.reduceMul, Int.reduceNeg, Int.reducePow, Int.reduceSub, Int.reduceToNat, Nat.reduceAdd, Nat.reduceEqDiff, Nat.reduceLT, Nat.reduceLeDiff, Nat.reduceMul, reduceCtorEq, r0]
    have q3 : ρ5 3 = .pointer (some ⟨w.heap.size, 0, none⟩) := by rw [hf 3 rfl]; simp (disch := omega) only [EO, ↓EP, EQ, EM, ↓reduceIte, Int.reduceAdd, Int.reduceEq, Int.reduceLE, Int.reduceLT, Int.reduceMul, Int.reduceNeg, Int.reducePow, Int.reduceSub, Int.reduceToNat, Nat.reduceAdd, Nat.reduceEqDiff, Nat.reduceLT, Nat.reduceLeDiff, Nat.reduceMul, reduceCtorEq, r3]
    have q4 : ρ5 4 = .int .i64 (64 * (j : Int)) := by rw [hf 4 rfl]; simp (disch := omega) only [EO, ↓EP, EQ, EM, ↓reduceIte, Int.reduceAdd, Int.reduceEq, Int.reduceLE, Int.reduceLT, Int.reduceMul, Int.reduceNeg, Int.reducePow, Int.reduceSub, Int.reduceToNat, Nat.reduceAdd, Nat.reduceEqDiff, Nat.reduceLT, Nat.reduceLeDiff, Nat.reduceMul, reduceCtorEq, h4]
    have q5 : ρ5 5 = .pointer (some ⟨w3.heap.size, 0, none⟩) := by rw [hf 5 rfl]; simp (disch := omega) only [EO, ↓EP, EQ, EM, ↓reduceIte, Int.reduceAdd, Int.reduceEq, Int.reduceLE, Int.reduceLT, Int.reduceMul, Int.reduceNeg, Int.reducePow, Int.reduceSub, Int.reduceToNat, Nat.reduceAdd, Nat.reduceEqDiff, Nat.reduceLT, Nat.reduceLeDiff, Nat.reduceMul, reduceCtorEq]
    clear hf
    have hp5 : Rd w5 A (nums .u8 M) := hr.below b5
    have hl5 := rowN_len (oneWd p) hk
    by_cases hk80 : (k : Int) < 80
    · have st : ∀ (x : Int) (m : Nat) (ρ6 : Env), x = oneWd p k → ρ6 6 = .int .i64 ((k + 1 : Nat) : Int) → (∀ w', Put (w5.drewN m) w' w3.heap.size (nums .u32 ((rowN (oneWd p) 80 k).set k x)) → endK N5 ρ6 w') := by
        intro x m ρ6 hx h6' w' pt
        rw [hx, rowN_set _ (by omega)] at pt
        exact hN5 (80 - (k + 1)) _ _ (by omega) ⟨k + 1, h6', by omega, rfl, pt.keep (by omega) (hH5.drewN m), pt.blk, pt.below (by have := b3.size; omega) (below_drewN' b5 m)⟩
      by_cases hk16 : (k : Int) < 16
      · obtain ⟨ad, e, c0, c1, c2, c3⟩ := four_at hp5 hc (lo := 64 * j + 4 * k) (by omega)
        have elo : (64 * (j : Int) + 4 * (k : Int)).toNat = 64 * j + 4 * k := by omega
        simp (disch := omega) only [EO, ↓EP, EQ, EM, ↓reduceIte, Int.reduceAdd, Int.reduceEq, Int.reduceLE, Int.reduceLT, Int.reduceMul, Int.reduceNeg, Int.reducePow, Int.reduceSub, Int.reduceToNat, Nat.reduceAdd, Nat.reduceEqDiff, Nat.reduceLT, Nat.reduceLeDiff, Nat.reduceMul, reduceCtorEq, W_join, h6, q0, q3, q4, q5, elo, e, c0, c1, c2, c3]
        intro m
        refine st_num (hW5.drewN m) (by omega) fun w6 p6 => ?_
        simp (disch := omega) only [EO, ↓EP, EQ, EM, ↓reduceIte, Int.reduceAdd, Int.reduceEq, Int.reduceLE, Int.reduceLT, Int.reduceMul, Int.reduceNeg, Int.reducePow, Int.reduceSub, Int.reduceToNat, Nat.reduceAdd, Nat.reduceEqDiff, Nat.reduceLT, Nat.reduceLeDiff, Nat.reduceMul, reduceCtorEq, h6]
        refine st _ m _ ?_ (by simp (disch := omega) only [EO, ↓EP, EQ, EM, ↓reduceIte, Int.reduceAdd, Int.reduceEq, Int.reduceLE, Int.reduceLT, Int.reduceMul, Int.reduceNeg, Int.reducePow, Int.reduceSub, Int.reduceToNat, Nat.reduceAdd, Nat.reduceEqDiff, Nat.reduceLT, Nat.reduceLeDiff, Nat.reduceMul, reduceCtorEq, h6, Int.natCast_add]) w6 p6
        rw [oneWd_lo (by omega), ← hpp]
        exact oneWd_read hb (by omega)
      · have e3 : ((k : Int) - 3).toNat = k - 3 := by omega
        have e8 : ((k : Int) - 8).toNat = k - 8 := by omega
        have e14 : ((k : Int) - 14).toNat = k - 14 := by omega
        have e16 : ((k : Int) - 16).toNat = k - 16 := by omega
        have g : ∀ i, i < k → w5.cell? ⟨w3.heap.size, i, none⟩ = some (.int .u32 (oneWd p i)) := fun i hi => by rw [hW5.numN (j := i) (by omega), rowN_at _ hi]
        have g3 := g (k - 3) (by omega)
        have g8 := g (k - 8) (by omega)
        have g14 := g (k - 14) (by omega)
        have g16 := g (k - 16) (by omega)
        simp (disch := omega) only [EO, ↓EP, EQ, EM, ↓reduceIte, Int.reduceAdd, Int.reduceEq, Int.reduceLE, Int.reduceLT, Int.reduceMul, Int.reduceNeg, Int.reducePow, Int.reduceSub, Int.reduceToNat, Nat.reduceAdd, Nat.reduceEqDiff, Nat.reduceLT, Nat.reduceLeDiff, Nat.reduceMul, reduceCtorEq, W_join, h6, q0, q3, q4, q5, e3, e8, e14, e16, g3, g8, g14, g16]
        refine left_q _ 1 (by omega) (by omega) _ _ ?_
        simp (disch := omega) only [EO, ↓EP, EQ, EM, ↓reduceIte, Int.reduceAdd, Int.reduceEq, Int.reduceLE, Int.reduceLT, Int.reduceMul, Int.reduceNeg, Int.reducePow, Int.reduceSub, Int.reduceToNat, Nat.reduceAdd, Nat.reduceEqDiff, Nat.reduceLT, Nat.reduceLeDiff, Nat.reduceMul, reduceCtorEq, h6, q5]
        intro m
        refine st_num (hW5.drewN m) (by omega) fun w6 p6 => ?_
        simp (disch := omega) only [EO, ↓EP, EQ, EM, ↓reduceIte, Int.reduceAdd, Int.reduceEq, Int.reduceLE, Int.reduceLT, Int.reduceMul, Int.reduceNeg, Int.reducePow, Int.reduceSub, Int.reduceToNat, Nat.reduceAdd, Nat.reduceEqDiff, Nat.reduceLT, Nat.reduceLeDiff, Nat.reduceMul, reduceCtorEq, h6]
        refine st _ m _ ?_ (by simp (disch := omega) only [EO, ↓EP, EQ, EM, ↓reduceIte, Int.reduceAdd, Int.reduceEq, Int.reduceLE, Int.reduceLT, Int.reduceMul, Int.reduceNeg, Int.reducePow, Int.reduceSub, Int.reduceToNat, Nat.reduceAdd, Nat.reduceEqDiff, Nat.reduceLT, Nat.reduceLeDiff, Nat.reduceMul, reduceCtorEq, h6, Int.natCast_add]) w6 p6
        rw [oneWd_hi (t := k) (by omega)]; rfl
    · have hk80 : k = 80 := by omega
      subst hk80
      clear hN5
      have hH8 : ((runN 1 M j).1.take 5).length = 5 := by rw [List.length_take, run1_len]; rfl
      have hc5 := fun (i : Nat) (g : i < 5) => hH5.numN (by omega : i < ((runN 1 M j).1.take 5).length)
      have a0 := take_at' (l := (runN 1 M j).1) (n := 5) (i := 0) (by omega)
      have a1 := take_at' (l := (runN 1 M j).1) (n := 5) (i := 1) (by omega)
      have a2 := take_at' (l := (runN 1 M j).1) (n := 5) (i := 2) (by omega)
      have a3 := take_at' (l := (runN 1 M j).1) (n := 5) (i := 3) (by omega)
      have a4 := take_at' (l := (runN 1 M j).1) (n := 5) (i := 4) (by omega)
      have h0 := hc5 0 (by omega)
      have h1 := hc5 1 (by omega)
      have h2 := hc5 2 (by omega)
      have h3 := hc5 3 (by omega)
      have h5 := hc5 4 (by omega)
      rw [a0] at h0
      rw [a1] at h1
      rw [a2] at h2
      rw [a3] at h3
      rw [a4] at h5
      clear hc5 a0 a1 a2 a3 a4
      simp (disch := omega) only [EO, ↓EP, EQ, EM, ↓reduceIte, Int.reduceAdd, Int.reduceEq, Int.reduceLE, Int.reduceLT, Int.reduceMul, Int.reduceNeg, Int.reducePow, Int.reduceSub, Int.reduceToNat, Nat.reduceAdd, Nat.reduceEqDiff, Nat.reduceLT, Nat.reduceLeDiff, Nat.reduceMul, reduceCtorEq, h6, q0, q3, q4, q5, h0, h1, h2, h3, h5]
      intro m
      refine loop_inv (oneJ w w.heap.size w3.heap.size (runN 1 M j).1 p) 80 ⟨0, by simp (disch := omega) only [EO, ↓EP, EQ, EM, ↓reduceIte, Int.reduceAdd, Int.reduceEq, Int.reduceLE, Int.reduceLT, Int.reduceMul, Int.reduceNeg, Int.reducePow, Int.reduceSub, Int.reduceToNat, Nat.reduceAdd, Nat.reduceEqDiff, Nat.reduceLT, Nat.reduceLeDiff, Nat.reduceMul, reduceCtorEq], by omega, by omega, ?_⟩ ?_
      · simp only [oneInit_0]
        simp (disch := omega) only [EO, ↓EP, EQ, EM, ↓reduceIte, Int.reduceAdd, Int.reduceEq, Int.reduceLE, Int.reduceLT, Int.reduceMul, Int.reduceNeg, Int.reducePow, Int.reduceSub, Int.reduceToNat, Nat.reduceAdd, Nat.reduceEqDiff, Nat.reduceLT, Nat.reduceLeDiff, Nat.reduceMul, reduceCtorEq]
        exact ⟨hH5.drewN m, hW5.drewN m, below_drewN' b5 m⟩
      clear h0 h1 h2 h3 h5 hl5 b4 hH4 hp n4
      rintro t ρ7 w7 hf ⟨k, h13, hk, rfl, h8, h9, h10, h11, h12, hH7, hW7, b7⟩ N7 hN7
      have y0 : ρ7 0 = .slice A M.length c := by rw [hf 0 rfl]; simp (disch := omega) only [EO, ↓EP, EQ, EM, ↓reduceIte, Int.reduceAdd, Int.reduceEq, Int.reduceLE, Int.reduceLT, Int.reduceMul, Int.reduceNeg, Int.reducePow, Int.reduceSub, Int.reduceToNat, Nat.reduceAdd, Nat.reduceEqDiff, Nat.reduceLT, Nat.reduceLeDiff, Nat.reduceMul, reduceCtorEq, q0]
      have y3 : ρ7 3 = .pointer (some ⟨w.heap.size, 0, none⟩) := by rw [hf 3 rfl]; simp (disch := omega) only [EO, ↓EP, EQ, EM, ↓reduceIte, Int.reduceAdd, Int.reduceEq, Int.reduceLE, Int.reduceLT, Int.reduceMul, Int.reduceNeg, Int.reducePow, Int.reduceSub, Int.reduceToNat, Nat.reduceAdd, Nat.reduceEqDiff, Nat.reduceLT, Nat.reduceLeDiff, Nat.reduceMul, reduceCtorEq, q3]
      have y4 : ρ7 4 = .int .i64 (64 * (j : Int)) := by rw [hf 4 rfl]; simp (disch := omega) only [EO, ↓EP, EQ, EM, ↓reduceIte, Int.reduceAdd, Int.reduceEq, Int.reduceLE, Int.reduceLT, Int.reduceMul, Int.reduceNeg, Int.reducePow, Int.reduceSub, Int.reduceToNat, Nat.reduceAdd, Nat.reduceEqDiff, Nat.reduceLT, Nat.reduceLeDiff, Nat.reduceMul, reduceCtorEq, q4]
      have y5 : ρ7 5 = .pointer (some ⟨w3.heap.size, 0, none⟩) := by rw [hf 5 rfl]; simp (disch := omega) only [EO, ↓EP, EQ, EM, ↓reduceIte, Int.reduceAdd, Int.reduceEq, Int.reduceLE, Int.reduceLT, Int.reduceMul, Int.reduceNeg, Int.reducePow, Int.reduceSub, Int.reduceToNat, Nat.reduceAdd, Nat.reduceEqDiff, Nat.reduceLT, Nat.reduceLeDiff, Nat.reduceMul, reduceCtorEq, q5]
      clear hf q0 q3 q4 q5
      have hx := oneWd_step (runN 1 M j).1 p k
      generalize hst : rounds oneStep k (oneInit (runN 1 M j).1 p) = st at h8 h9 h10 h11 h12 hx
      by_cases hk80 : (k : Int) < 80
      · have gk : w7.cell? ⟨w3.heap.size, k, none⟩ = some (.int .u32 (oneWd p k)) := by rw [hW7.numN (j := k) (by rw [rowN_len _ (Nat.le_refl _)]; omega), rowN_at _ (by omega)]
        have fin : ∀ (w8 : World) (ρ8 : Env), ρ8 13 = .int .i64 ((k + 1 : Nat) : Int) → ρ8 8 = .int .u32 (s32 (s32 (s32 (s32 (rl32 st.a 5) (oneF k st.b st.c st.d)) st.e) (oneK k)) (oneWd p k)) → ρ8 9 = .int .u32 st.a → ρ8 10 = .int .u32 (rl32 st.b 30) → ρ8 11 = .int .u32 st.c → ρ8 12 = .int .u32 st.d →
            Blk w8 w.heap.size (nums .u32 ((runN 1 M j).1.take 5)) → Blk w8 w3.heap.size (nums .u32 (rowN (oneWd p) 80 80)) → Below w.heap.size w w8 → endK N7 ρ8 w8 := by
          intro w8 ρ8 g1 g2 g3 g4 g5 g6 g7 g8 g9
          refine hN7 (80 - (k + 1)) _ _ (by omega) ⟨k + 1, g1, by omega, rfl, ?_⟩
          rw [rounds, hst, oneStep, hx]
          exact ⟨g2, g3, g4, g5, g6, g7, g8, g9⟩
        clear hN7
        have c : (k : Int) < 20 ∨ (20 ≤ (k : Int) ∧ (k : Int) < 40) ∨ (40 ≤ (k : Int) ∧ (k : Int) < 60) ∨ 60 ≤ (k : Int) := by omega
        rcases c with c | c | c | c
        · have hF : oneF k st.b st.c st.d = x32 st.d (a32 st.b (x32 st.c st.d)) := by rw [oneF, if_pos (by omega)]
          have hKK : oneK k = 1518500249 := by rw [oneK, if_pos (by omega)]
          rw [hF, hKK] at fin
          simp (disch := omega) only [EO, ↓EP, EQ, EM, ↓reduceIte, Int.reduceAdd, Int.reduceEq, Int.reduceLE, Int.reduceLT, Int.reduceMul, Int.reduceNeg, Int.reducePow, Int.reduceSub, Int.reduceToNat, Nat.reduceAdd, Nat.reduceEqDiff, Nat.reduceLT, Nat.reduceLeDiff, Nat.reduceMul, reduceCtorEq, W_join, h13, y3, y5, h8, h9, h10, h11, h12, gk]
          refine left_q _ 5 (by omega) (by omega) _ _ ?_
          simp (disch := omega) only [EO, ↓EP, EQ, EM, ↓reduceIte, Int.reduceAdd, Int.reduceEq, Int.reduceLE, Int.reduceLT, Int.reduceMul, Int.reduceNeg, Int.reducePow, Int.reduceSub, Int.reduceToNat, Nat.reduceAdd, Nat.reduceEqDiff, Nat.reduceLT, Nat.reduceLeDiff, Nat.reduceMul, reduceCtorEq, h13, y5, h8, h9, h10, h11, h12, gk]
          intro m1
          refine left_d _ 30 (by omega) (by omega) _ _ fun m2 => ?_
          simp (disch := omega) only [EO, ↓EP, EQ, EM, ↓reduceIte, Int.reduceAdd, Int.reduceEq, Int.reduceLE, Int.reduceLT, Int.reduceMul, Int.reduceNeg, Int.reducePow, Int.reduceSub, Int.reduceToNat, Nat.reduceAdd, Nat.reduceEqDiff, Nat.reduceLT, Nat.reduceLeDiff, Nat.reduceMul, reduceCtorEq, h13, h8, h9, h10, h11, h12]
          refine fin _ _ ?_ ?_ ?_ ?_ ?_ ?_ (hH7.drewN _) (hW7.drewN _) (below_drewN' b7 _)
          all_goals (simp (disch := omega) only [EO, ↓EP, EQ, EM, ↓reduceIte, Int.reduceAdd, Int.reduceEq, Int.reduceLE, Int.reduceLT, Int.reduceMul, Int.reduceNeg, Int.reducePow, Int.reduceSub, Int.reduceToNat, Nat.reduceAdd, Nat.reduceEqDiff, Nat.reduceLT, Nat.reduceLeDiff, Nat.reduceMul, reduceCtorEq, h13, h8, h9, h10, h11, h12, s32, Int.natCast_add, not_u32, ch32])
        · have hF : oneF k st.b st.c st.d = x32 (x32 st.b st.c) st.d := by rw [oneF, if_neg (by omega), if_pos (by omega)]
          have hKK : oneK k = 1859775393 := by rw [oneK, if_neg (by omega), if_pos (by omega)]
          rw [hF, hKK] at fin
          simp (disch := omega) only [EO, ↓EP, EQ, EM, ↓reduceIte, Int.reduceAdd, Int.reduceEq, Int.reduceLE, Int.reduceLT, Int.reduceMul, Int.reduceNeg, Int.reducePow, Int.reduceSub, Int.reduceToNat, Nat.reduceAdd, Nat.reduceEqDiff, Nat.reduceLT, Nat.reduceLeDiff, Nat.reduceMul, reduceCtorEq, W_join, h13, y3, y5, h8, h9, h10, h11, h12, gk]
          refine left_q _ 5 (by omega) (by omega) _ _ ?_
          simp (disch := omega) only [EO, ↓EP, EQ, EM, ↓reduceIte, Int.reduceAdd, Int.reduceEq, Int.reduceLE, Int.reduceLT, Int.reduceMul, Int.reduceNeg, Int.reducePow, Int.reduceSub, Int.reduceToNat, Nat.reduceAdd, Nat.reduceEqDiff, Nat.reduceLT, Nat.reduceLeDiff, Nat.reduceMul, reduceCtorEq, h13, y5, h8, h9, h10, h11, h12, gk]
          intro m1
          refine left_d _ 30 (by omega) (by omega) _ _ fun m2 => ?_
          simp (disch := omega) only [EO, ↓EP, EQ, EM, ↓reduceIte, Int.reduceAdd, Int.reduceEq, Int.reduceLE, Int.reduceLT, Int.reduceMul, Int.reduceNeg, Int.reducePow, Int.reduceSub, Int.reduceToNat, Nat.reduceAdd, Nat.reduceEqDiff, Nat.reduceLT, Nat.reduceLeDiff, Nat.reduceMul, reduceCtorEq, h13, h8, h9, h10, h11, h12]
          refine fin _ _ ?_ ?_ ?_ ?_ ?_ ?_ (hH7.drewN _) (hW7.drewN _) (below_drewN' b7 _)
          all_goals (simp (disch := omega) only [EO, ↓EP, EQ, EM, ↓reduceIte, Int.reduceAdd, Int.reduceEq, Int.reduceLE, Int.reduceLT, Int.reduceMul, Int.reduceNeg, Int.reducePow, Int.reduceSub, Int.reduceToNat, Nat.reduceAdd, Nat.reduceEqDiff, Nat.reduceLT, Nat.reduceLeDiff, Nat.reduceMul, reduceCtorEq, h13, h8, h9, h10, h11, h12, s32, Int.natCast_add, x32])
        · have hF : oneF k st.b st.c st.d = o32 (a32 st.b st.c) (a32 st.d (o32 st.b st.c)) := by rw [oneF, if_neg (by omega), if_neg (by omega), if_pos (by omega)]
          have hKK : oneK k = 2400959708 := by rw [oneK, if_neg (by omega), if_neg (by omega), if_pos (by omega)]
          rw [hF, hKK] at fin
          simp (disch := omega) only [EO, ↓EP, EQ, EM, ↓reduceIte, Int.reduceAdd, Int.reduceEq, Int.reduceLE, Int.reduceLT, Int.reduceMul, Int.reduceNeg, Int.reducePow, Int.reduceSub, Int.reduceToNat, Nat.reduceAdd, Nat.reduceEqDiff, Nat.reduceLT, Nat.reduceLeDiff, Nat.reduceMul, reduceCtorEq, W_join, h13, y3, y5, h8, h9, h10, h11, h12, gk]
          refine left_q _ 5 (by omega) (by omega) _ _ ?_
          simp (disch := omega) only [EO, ↓EP, EQ, EM, ↓reduceIte, Int.reduceAdd, Int.reduceEq, Int.reduceLE, Int.reduceLT, Int.reduceMul, Int.reduceNeg, Int.reducePow, Int.reduceSub, Int.reduceToNat, Nat.reduceAdd, Nat.reduceEqDiff, Nat.reduceLT, Nat.reduceLeDiff, Nat.reduceMul, reduceCtorEq, h13, y5, h8, h9, h10, h11, h12, gk]
          intro m1
          refine left_d _ 30 (by omega) (by omega) _ _ fun m2 => ?_
          simp (disch := omega) only [EO, ↓EP, EQ, EM, ↓reduceIte, Int.reduceAdd, Int.reduceEq, Int.reduceLE, Int.reduceLT, Int.reduceMul, Int.reduceNeg, Int.reducePow, Int.reduceSub, Int.reduceToNat, Nat.reduceAdd, Nat.reduceEqDiff, Nat.reduceLT, Nat.reduceLeDiff, Nat.reduceMul, reduceCtorEq, h13, h8, h9, h10, h11, h12]
          refine fin _ _ ?_ ?_ ?_ ?_ ?_ ?_ (hH7.drewN _) (hW7.drewN _) (below_drewN' b7 _)
          all_goals (simp (disch := omega) only [EO, ↓EP, EQ, EM, ↓reduceIte, Int.reduceAdd, Int.reduceEq, Int.reduceLE, Int.reduceLT, Int.reduceMul, Int.reduceNeg, Int.reducePow, Int.reduceSub, Int.reduceToNat, Nat.reduceAdd, Nat.reduceEqDiff, Nat.reduceLT, Nat.reduceLeDiff, Nat.reduceMul, reduceCtorEq, h13, h8, h9, h10, h11, h12, s32, Int.natCast_add, maj32])
        · have hF : oneF k st.b st.c st.d = x32 (x32 st.b st.c) st.d := by rw [oneF, if_neg (by omega), if_neg (by omega), if_neg (by omega)]
          have hKK : oneK k = 3395469782 := by rw [oneK, if_neg (by omega), if_neg (by omega), if_neg (by omega)]
          rw [hF, hKK] at fin
          simp (disch := omega) only [EO, ↓EP, EQ, EM, ↓reduceIte, Int.reduceAdd, Int.reduceEq, Int.reduceLE, Int.reduceLT, Int.reduceMul, Int.reduceNeg, Int.reducePow, Int.reduceSub, Int.reduceToNat, Nat.reduceAdd, Nat.reduceEqDiff, Nat.reduceLT, Nat.reduceLeDiff, Nat.reduceMul, reduceCtorEq, W_join, h13, y3, y5, h8, h9, h10, h11, h12, gk]
          refine left_q _ 5 (by omega) (by omega) _ _ ?_
          simp (disch := omega) only [EO, ↓EP, EQ, EM, ↓reduceIte, Int.reduceAdd, Int.reduceEq, Int.reduceLE, Int.reduceLT, Int.reduceMul, Int.reduceNeg, Int.reducePow, Int.reduceSub, Int.reduceToNat, Nat.reduceAdd, Nat.reduceEqDiff, Nat.reduceLT, Nat.reduceLeDiff, Nat.reduceMul, reduceCtorEq, h13, y5, h8, h9, h10, h11, h12, gk]
          intro m1
          refine left_d _ 30 (by omega) (by omega) _ _ fun m2 => ?_
          simp (disch := omega) only [EO, ↓EP, EQ, EM, ↓reduceIte, Int.reduceAdd, Int.reduceEq, Int.reduceLE, Int.reduceLT, Int.reduceMul, Int.reduceNeg, Int.reducePow, Int.reduceSub, Int.reduceToNat, Nat.reduceAdd, Nat.reduceEqDiff, Nat.reduceLT, Nat.reduceLeDiff, Nat.reduceMul, reduceCtorEq, h13, h8, h9, h10, h11, h12]
          refine fin _ _ ?_ ?_ ?_ ?_ ?_ ?_ (hH7.drewN _) (hW7.drewN _) (below_drewN' b7 _)
          all_goals (simp (disch := omega) only [EO, ↓EP, EQ, EM, ↓reduceIte, Int.reduceAdd, Int.reduceEq, Int.reduceLE, Int.reduceLT, Int.reduceMul, Int.reduceNeg, Int.reducePow, Int.reduceSub, Int.reduceToNat, Nat.reduceAdd, Nat.reduceEqDiff, Nat.reduceLT, Nat.reduceLeDiff, Nat.reduceMul, reduceCtorEq, h13, h8, h9, h10, h11, h12, s32, Int.natCast_add, x32])
      · have hk80' : k = 80 := by omega
        subst hk80'
        clear hN7
        have g : ∀ i : Nat, i < 5 → w7.cell? ⟨w.heap.size, i, none⟩ = some (.int .u32 (at' (runN 1 M j).1 (i : Int))) := fun i hi => by rw [hH7.numN (j := i) (by rw [hH8]; exact hi), take_at' hi]
        have h0 := g 0 (by omega)
        have h1 := g 1 (by omega)
        have h2 := g 2 (by omega)
        have h3 := g 3 (by omega)
        have h5 := g 4 (by omega)
        simp (disch := omega) only [EO, ↓EP, EQ, EM, ↓reduceIte, Int.reduceAdd, Int.reduceEq, Int.reduceLE, Int.reduceLT, Int.reduceMul, Int.reduceNeg, Int.reducePow, Int.reduceSub, Int.reduceToNat, Nat.reduceAdd, Nat.reduceEqDiff, Nat.reduceLT, Nat.reduceLeDiff, Nat.reduceMul, reduceCtorEq, h13, y0, y3, y4, y5, h8, h9, h10, h11, h12, h0, h1, h2, h3, h5]
        refine ⟨_, fill55 _ _ _ _ _, ?_⟩
        simp (disch := omega) only [EO, ↓EP, EQ, EM, ↓reduceIte, Int.reduceAdd, Int.reduceEq, Int.reduceLE, Int.reduceLT, Int.reduceMul, Int.reduceNeg, Int.reducePow, Int.reduceSub, Int.reduceToNat, Nat.reduceAdd, Nat.reduceEqDiff, Nat.reduceLT, Nat.reduceLeDiff, Nat.reduceMul, reduceCtorEq, y0, y3, y4]
        refine st_whole hH7 (by rw [nums_length]; rfl) (by rw [nums_length, hH8]) (nums_one _ _) fun w8 p8 => ?_
        simp (disch := omega) only [EO, ↓EP, EQ, EM, ↓reduceIte, Int.reduceAdd, Int.reduceEq, Int.reduceLE, Int.reduceLT, Int.reduceMul, Int.reduceNeg, Int.reducePow, Int.reduceSub, Int.reduceToNat, Nat.reduceAdd, Nat.reduceEqDiff, Nat.reduceLT, Nat.reduceLeDiff, Nat.reduceMul, reduceCtorEq, y4]
        refine hN (M.length - 64 * (j + 1)) _ _ (by omega) ⟨j + 1, by simp (disch := omega) only [EO, ↓EP, EQ, EM, ↓reduceIte, Int.reduceAdd, Int.reduceEq, Int.reduceLE, Int.reduceLT, Int.reduceMul, Int.reduceNeg, Int.reducePow, Int.reduceSub, Int.reduceToNat, Nat.reduceAdd, Nat.reduceEqDiff, Nat.reduceLT, Nat.reduceLeDiff, Nat.reduceMul, reduceCtorEq, y4]; congr 1, by omega, rfl, ?_, p8.below (Nat.le_refl _) b7⟩
        have e := run1_succ M j
        rw [hpp] at e
        rw [e, one, hst]
        exact p8.blk
  · have hje : M.length / 64 = j := by omega
    simp (disch := omega) only [EO, ↓EP, EQ, EM, ↓reduceIte, Int.reduceAdd, Int.reduceEq, Int.reduceLE, Int.reduceLT, Int.reduceMul, Int.reduceNeg, Int.reducePow, Int.reduceSub, Int.reduceToNat, Nat.reduceAdd, Nat.reduceEqDiff, Nat.reduceLT, Nat.reduceLeDiff, Nat.reduceMul, reduceCtorEq, h4, r0, r3]
    clear hN
    rw [hje] at hK
    have hH8 : ((runN 1 M j).1.take 5).length = 5 := by rw [List.length_take, run1_len]; rfl
    have f3 : Fr w w3 nob := fr_of b3 rfl
    refine loop_inv (fun t ρ w' => ∃ (i : Nat) (O : Value), ρ 18 = .int .i64 i ∧ ρ 17 = O ∧ i ≤ 5 ∧ t = 5 - i ∧ Gw .u8 w3 w' O ((List.range i).flatMap fun (i : Nat) => w4 (at' (runN 1 M j).1 (i : Int)))) 5 ⟨0, .slice none 0 0, by simp (disch := omega) only [EO, ↓EP, EQ, EM, ↓reduceIte, Int.reduceAdd, Int.reduceEq, Int.reduceLE, Int.reduceLT, Int.reduceMul, Int.reduceNeg, Int.reducePow, Int.reduceSub, Int.reduceToNat, Nat.reduceAdd, Nat.reduceEqDiff, Nat.reduceLT, Nat.reduceLeDiff, Nat.reduceMul, reduceCtorEq], by simp (disch := omega) only [EO, ↓EP, EQ, EM, ↓reduceIte, Int.reduceAdd, Int.reduceEq, Int.reduceLE, Int.reduceLT, Int.reduceMul, Int.reduceNeg, Int.reducePow, Int.reduceSub, Int.reduceToNat, Nat.reduceAdd, Nat.reduceEqDiff, Nat.reduceLT, Nat.reduceLeDiff, Nat.reduceMul, reduceCtorEq], by omega, by omega, Gw.nil _ _⟩ ?_
    rintro t ρ8 w8 hf ⟨i, O, h18, h17, hi, rfl, G⟩ N hN
    have q3 : ρ8 3 = .pointer (some ⟨w.heap.size, 0, none⟩) := by rw [hf 3 rfl]; simp (disch := omega) only [EO, ↓EP, EQ, EM, ↓reduceIte, Int.reduceAdd, Int.reduceEq, Int.reduceLE, Int.reduceLT, Int.reduceMul, Int.reduceNeg, Int.reducePow, Int.reduceSub, Int.reduceToNat, Nat.reduceAdd, Nat.reduceEqDiff, Nat.reduceLT, Nat.reduceLeDiff, Nat.reduceMul, reduceCtorEq, r3]
    clear hf
    by_cases hi5 : (i : Int) < 5
    · have hcw : w8.cell? ⟨w.heap.size, i, none⟩ = some (.int .u32 (at' (runN 1 M j).1 (i : Int))) := by rw [(hH.nb G.fr).numN (j := i) (by omega), take_at' (by omega)]
      have hgl := flat_len (f := fun (i : Nat) => w4 (at' (runN 1 M j).1 (i : Int))) (n := 4) (fun _ => rfl) i
      simp (disch := omega) only [EO, ↓EP, EQ, EM, ↓reduceIte, Int.reduceAdd, Int.reduceEq, Int.reduceLE, Int.reduceLT, Int.reduceMul, Int.reduceNeg, Int.reducePow, Int.reduceSub, Int.reduceToNat, Nat.reduceAdd, Nat.reduceEqDiff, Nat.reduceLT, Nat.reduceLeDiff, Nat.reduceMul, reduceCtorEq, h18, h17, q3, hcw]
      intro m1
      have G1 := G.drewN (1 + m1)
      refine bsl4 fun w9 n9 => ?_
      have G2 := G1.new n9
      simp (disch := omega) only [EO, ↓EP, EQ, EM, ↓reduceIte, Int.reduceAdd, Int.reduceEq, Int.reduceLE, Int.reduceLT, Int.reduceMul, Int.reduceNeg, Int.reducePow, Int.reduceSub, Int.reduceToNat, Nat.reduceAdd, Nat.reduceEqDiff, Nat.reduceLT, Nat.reduceLeDiff, Nat.reduceMul, reduceCtorEq, h17]
      intro m2
      refine app_num (G2.drewN m2).sl rfl (n9.rdl.drewN m2) (by rw [hgl]; simp only [List.length_cons, List.length_nil]; omega) (by omega) fun v10 w10 a10 => ?_
      have G3 := (G2.drewN m2).apd a10
      simp (disch := omega) only [EO, ↓EP, EQ, EM, ↓reduceIte, Int.reduceAdd, Int.reduceEq, Int.reduceLE, Int.reduceLT, Int.reduceMul, Int.reduceNeg, Int.reducePow, Int.reduceSub, Int.reduceToNat, Nat.reduceAdd, Nat.reduceEqDiff, Nat.reduceLT, Nat.reduceLeDiff, Nat.reduceMul, reduceCtorEq, h18]
      intro m3
      refine hN (5 - (i + 1)) _ _ (by omega) ⟨i + 1, v10, by simp (disch := omega) only [EO, ↓EP, EQ, EM, ↓reduceIte, Int.reduceAdd, Int.reduceEq, Int.reduceLE, Int.reduceLT, Int.reduceMul, Int.reduceNeg, Int.reducePow, Int.reduceSub, Int.reduceToNat, Nat.reduceAdd, Nat.reduceEqDiff, Nat.reduceLT, Nat.reduceLeDiff, Nat.reduceMul, reduceCtorEq, h18, Int.natCast_add], by simp (disch := omega) only [EO, ↓EP, EQ, EM, ↓reduceIte, Int.reduceAdd, Int.reduceEq, Int.reduceLE, Int.reduceLT, Int.reduceMul, Int.reduceNeg, Int.reducePow, Int.reduceSub, Int.reduceToNat, Nat.reduceAdd, Nat.reduceEqDiff, Nat.reduceLT, Nat.reduceLeDiff, Nat.reduceMul, reduceCtorEq], by omega, rfl, ?_⟩
      rw [flat_succ]
      exact G3.drewN m3
    · have hie : i = 5 := by omega
      subst hie
      simp (disch := omega) only [EO, ↓EP, EQ, EM, ↓reduceIte, Int.reduceAdd, Int.reduceEq, Int.reduceLE, Int.reduceLT, Int.reduceMul, Int.reduceNeg, Int.reducePow, Int.reduceSub, Int.reduceToNat, Nat.reduceAdd, Nat.reduceEqDiff, Nat.reduceLT, Nat.reduceLeDiff, Nat.reduceMul, reduceCtorEq, h18, h17]
      exact hK O w8 (G.from f3)
end Go.Proofs.YtcgplgpdcfocpaaDoor.Spec
end
section
set_option linter.unusedVariables false
set_option linter.unusedSimpArgs false
namespace Go.Proofs.YtcgplgpdcfocpaaDoor.Spec
open Go Go.RowKit Go.Proofs Go.Proofs.YtcgplgpdcfocpaaDoor.Eng Go.Proofs.YtcgplgpdcfocpaaDoor.Code
set_option maxRecDepth 100000
attribute [local irreducible] callK S.W opsW scrW one
theorem roots32_fill : fillL [(0, 1), (1, 1), (2, 1), (3, 1), (4, 1), (5, 1), (6, 1), (7, 1), (8, 1), (9, 1), (10, 1), (11, 1), (12, 1), (13, 1), (14, 1), (15, 1), (16, 1), (17, 1), (18, 1), (19, 1), (20, 1), (21, 1), (22, 1), (23, 1), (24, 1), (25, 1), (26, 1), (27, 1), (28, 1), (29, 1), (30, 1), (31, 1), (32, 1), (33, 1), (34, 1), (35, 1), (36, 1), (37, 1), (38, 1), (39, 1), (40, 1), (41, 1), (42, 1), (43, 1), (44, 1), (45, 1), (46, 1), (47, 1), (48, 1), (49, 1), (50, 1), (51, 1), (52, 1), (53, 1), (54, 1), (55, 1), (56, 1), (57, 1), (58, 1), (59, 1), (60, 1), (61, 1), (62, 1), (63, 1)] (Array.replicate 64 (Value.int .u32 0)) [(0, .int .u32 1116352408), (1, .int .u32 1899447441), (2, .int .u32 3049323471), (3, .int .u32 3921009573), (4, .int .u32 961987163), (5, .int .u32 1508970993), (6, .int .u32 2453635748), (7, .int .u32 2870763221), (8, .int .u32 3624381080), (9, .int .u32 310598401), (10, .int .u32 607225278), (11, .int .u32 1426881987), (12, .int .u32 1925078388), (13, .int .u32 2162078206), (14, .int .u32 2614888103), (15, .int .u32 3248222580), (16, .int .u32 3835390401), (17, .int .u32 4022224774), (18, .int .u32 264347078), (19, .int .u32 604807628), (20, .int .u32 770255983), (21, .int .u32 1249150122), (22, .int .u32 1555081692), (23, .int .u32 1996064986), (24, .int .u32 2554220882), (25, .int .u32 2821834349), (26, .int .u32 2952996808), (27, .int .u32 3210313671), (28, .int .u32 3336571891), (29, .int .u32 3584528711), (30, .int .u32 113926993), (31, .int .u32 338241895), (32, .int .u32 666307205), (33, .int .u32 773529912), (34, .int .u32 1294757372), (35, .int .u32 1396182291), (36, .int .u32 1695183700), (37, .int .u32 1986661051), (38, .int .u32 2177026350), (39, .int .u32 2456956037), (40, .int .u32 2730485921), (41, .int .u32 2820302411), (42, .int .u32 3259730800), (43, .int .u32 3345764771), (44, .int .u32 3516065817), (45, .int .u32 3600352804), (46, .int .u32 4094571909), (47, .int .u32 275423344), (48, .int .u32 430227734), (49, .int .u32 506948616), (50, .int .u32 659060556), (51, .int .u32 883997877), (52, .int .u32 958139571), (53, .int .u32 1322822218), (54, .int .u32 1537002063), (55, .int .u32 1747873779), (56, .int .u32 1955562222), (57, .int .u32 2024104815), (58, .int .u32 2227730452), (59, .int .u32 2361852424), (60, .int .u32 2428436474), (61, .int .u32 2756734187), (62, .int .u32 3204031479), (63, .int .u32 3329325298)] = some (nums .u32 k256).toArray := by kernel_rfl
theorem roots32_spec {w : World} (K : Value → World → Prop) (hK : ∀ w', Fr w w' nob → K (.agg (nums .u32 k256).toArray) w') : callK Tryd.prog 81 [] w K := by
  refine call_of Tryd.func81 Code.h81 (by simp [Code.c81]) ?_
  simp (disch := omega) only [EO, ↓EP, EQ, EM, ↓reduceIte, Int.reduceAdd, Int.reduceEq, Int.reduceLE, Int.reduceLT, Int.reduceMul, Int.reduceNeg, Int.reducePow, Int.reduceSub, Int.reduceToNat, Nat.reduceAdd, Nat.reduceEqDiff, Nat.reduceLT, Nat.reduceLeDiff, Nat.reduceMul, reduceCtorEq, Code.c81]
  refine al_k (nums .u32 (zs 64)) rfl fun w1 n1 => ?_
  simp (disch := omega) only [EO, ↓EP, EQ, EM, ↓reduceIte, Int.reduceAdd, Int.reduceEq, Int.reduceLE, Int.reduceLT, Int.reduceMul, Int.reduceNeg, Int.reducePow, Int.reduceSub, Int.reduceToNat, Nat.reduceAdd, Nat.reduceEqDiff, Nat.reduceLT, Nat.reduceLeDiff, Nat.reduceMul, reduceCtorEq]
  refine ⟨_, roots32_fill, ?_⟩
  simp (disch := omega) only [EO, ↓EP, EQ, EM, ↓reduceIte, Int.reduceAdd, Int.reduceEq, Int.reduceLE, Int.reduceLT, Int.reduceMul, Int.reduceNeg, Int.reducePow, Int.reduceSub, Int.reduceToNat, Nat.reduceAdd, Nat.reduceEqDiff, Nat.reduceLT, Nat.reduceLeDiff, Nat.reduceMul, reduceCtorEq]
  have hl : (nums .u32 k256).length = 64 := by rw [nums_length]; exact k256_len
  refine st_whole n1.blk hl rfl (nums_one _ _) fun w2 p2 => ?_
  simp (disch := omega) only [EO, ↓EP, EQ, EM, ↓reduceIte, Int.reduceAdd, Int.reduceEq, Int.reduceLE, Int.reduceLT, Int.reduceMul, Int.reduceNeg, Int.reducePow, Int.reduceSub, Int.reduceToNat, Nat.reduceAdd, Nat.reduceEqDiff, Nat.reduceLT, Nat.reduceLeDiff, Nat.reduceMul, reduceCtorEq]
  refine p2.blk.ldAgg hl (hK _ ?_)
  exact fr_of (p2.below (Nat.le_refl _) (n1.below (Nat.le_refl _) (Below.refl _ _))) rfl
theorem two_all (H S : List Int) (hH : H.length = 8) (hS : S.length = 8) : rounds (twoAdd H) 8 S = [s32 (at' H 0) (at' S 0), s32 (at' H 1) (at' S 1), s32 (at' H 2) (at' S 2), s32 (at' H 3) (at' S 3), s32 (at' H 4) (at' S 4), s32 (at' H 5) (at' S 5), s32 (at' H 6) (at' S 6), s32 (at' H 7) (at' S 7)] := by
  obtain ⟨a, b, c, d, e, f, g, i, rfl⟩ := len8 hH
  obtain ⟨a', b', c', d', e', f', g', i', rfl⟩ := len8 hS
  unfold s32
  show [IntKind.u32.wrap (a' + a), IntKind.u32.wrap (b' + b), IntKind.u32.wrap (c' + c), IntKind.u32.wrap (d' + d), IntKind.u32.wrap (e' + e), IntKind.u32.wrap (f' + f), IntKind.u32.wrap (g' + g), IntKind.u32.wrap (i' + i)] = [IntKind.u32.wrap (a + a'), IntKind.u32.wrap (b + b'), IntKind.u32.wrap (c + c'), IntKind.u32.wrap (d + d'), IntKind.u32.wrap (e + e'), IntKind.u32.wrap (f + f'), IntKind.u32.wrap (g + g'), IntKind.u32.wrap (i + i')]
  simp only [Int.add_comm]
theorem run2_succ (M : List Int) (j : Nat) : (runN 2 M (j + 1)).1 = two (runN 2 M j).1 (part 64 M j) := by
  rw [runN_succ, mix, if_neg (by decide), if_pos rfl]; rfl
theorem run2_len (M : List Int) : ∀ j, (runN 2 M j).1.length = 8
  | 0 => rfl
  | j + 1 => by rw [run2_succ]; exact two_len _ _ (run2_len M j)
def twoJ (w : World) (kb sb wb : Nat) (H p : List Int) (m : Nat) (ρ : Env) (w' : World) : Prop :=
  ∃ k : Nat, ρ 19 = .int .i64 k ∧ k ≤ 64 ∧ m = 64 - k ∧ ρ 11 = .int .u32 (at' (rounds twoStep k (twoInit H p)).s 0) ∧ ρ 12 = .int .u32 (at' (rounds twoStep k (twoInit H p)).s 1) ∧ ρ 13 = .int .u32 (at' (rounds twoStep k (twoInit H p)).s 2) ∧ ρ 14 = .int .u32 (at' (rounds twoStep k (twoInit H p)).s 3) ∧ ρ 15 = .int .u32 (at' (rounds twoStep k (twoInit H p)).s 4) ∧ ρ 16 = .int .u32 (at' (rounds twoStep k (twoInit H p)).s 5) ∧ ρ 17 = .int .u32 (at' (rounds twoStep k (twoInit H p)).s 6) ∧ ρ 18 = .int .u32 (at' (rounds twoStep k (twoInit H p)).s 7) ∧
    Blk w' kb (nums .u32 k256) ∧ Blk w' sb (nums .u32 H) ∧ Blk w' wb (nums .u32 (rowN (twoWd p) 64 64)) ∧ Below w.heap.size w w'
theorem twoInit_00 (h p : List Int) : (rounds twoStep 0 (twoInit h p)).s = h := rfl
set_option maxHeartbeats 4000000 in
theorem sha256_vw {w0 : World} {v : Value} {M : List Int} (hv : Vw .u8 w0 v M) (hmod : M.length % 64 = 0) (hm : M.length ≤ 16777600) (hb : byteL M) (K : Value → World → Prop)
    (hK : ∀ v' w', Gw .u8 w0 w' v' ((List.range 8).flatMap fun (i : Nat) => w4 (at' (runN 2 M (M.length / 64)).1 (i : Int))) → K v' w') : callK Tryd.prog 54 [v] w0 K := by
  obtain ⟨A, c, rfl, hc, hr0⟩ := hv
  refine call_of Tryd.func54 Code.h54 (by simp [Code.c54]) ?_
  simp (disch := omega) only [EO, ↓EP, EQ, EM, ↓reduceIte, Int.reduceAdd, Int.reduceEq, Int.reduceLE, Int.reduceLT, Int.reduceMul, Int.reduceNeg, Int.reducePow, Int.reduceSub, Int.reduceToNat, Nat.reduceAdd, Nat.reduceEqDiff, Nat.reduceLT, Nat.reduceLeDiff, Nat.reduceMul, reduceCtorEq, Code.c54]
  refine roots32_spec _ fun w fw => ?_
  have hr := hr0.nb fw
  clear hr0
  simp (disch := omega) only [EO, ↓EP, EQ, EM, ↓reduceIte, Int.reduceAdd, Int.reduceEq, Int.reduceLE, Int.reduceLT, Int.reduceMul, Int.reduceNeg, Int.reducePow, Int.reduceSub, Int.reduceToNat, Nat.reduceAdd, Nat.reduceEqDiff, Nat.reduceLT, Nat.reduceLeDiff, Nat.reduceMul, reduceCtorEq]
  refine al_k (nums .u32 (zs 64)) rfl fun w1 n1 => ?_
  simp (disch := omega) only [EO, ↓EP, EQ, EM, ↓reduceIte, Int.reduceAdd, Int.reduceEq, Int.reduceLE, Int.reduceLT, Int.reduceMul, Int.reduceNeg, Int.reducePow, Int.reduceSub, Int.reduceToNat, Nat.reduceAdd, Nat.reduceEqDiff, Nat.reduceLT, Nat.reduceLeDiff, Nat.reduceMul, reduceCtorEq]
  refine st_whole n1.blk (by rw [nums_length]; exact k256_len) rfl (nums_one _ _) fun w2 p2 => ?_
  simp (disch := omega) only [EO, ↓EP, EQ, EM, ↓reduceIte, Int.reduceAdd, Int.reduceEq, Int.reduceLE, Int.reduceLT, Int.reduceMul, Int.reduceNeg, Int.reducePow, Int.reduceSub, Int.reduceToNat, Nat.reduceAdd, Nat.reduceEqDiff, Nat.reduceLT, Nat.reduceLeDiff, Nat.reduceMul, reduceCtorEq]
  refine ⟨_, fill8 _ _ _ _ _ _ _ _ _, ?_⟩
  simp (disch := omega) only [EO, ↓EP, EQ, EM, ↓reduceIte, Int.reduceAdd, Int.reduceEq, Int.reduceLE, Int.reduceLT, Int.reduceMul, Int.reduceNeg, Int.reducePow, Int.reduceSub, Int.reduceToNat, Nat.reduceAdd, Nat.reduceEqDiff, Nat.reduceLT, Nat.reduceLeDiff, Nat.reduceMul, reduceCtorEq]
  refine al_k (nums .u32 (zs 8)) rfl fun w3 n3 => ?_
  simp (disch := omega) only [EO, ↓EP, EQ, EM, ↓reduceIte, Int.reduceAdd, Int.reduceEq, Int.reduceLE, Int.reduceLT, Int.reduceMul, Int.reduceNeg, Int.reducePow, Int.reduceSub, Int.reduceToNat, Nat.reduceAdd, Nat.reduceEqDiff, Nat.reduceLT, Nat.reduceLeDiff, Nat.reduceMul, reduceCtorEq]
  refine st_whole n3.blk rfl rfl (nums_one _ _) fun w4 p4 => ?_
  simp (disch := omega) only [EO, ↓EP, EQ, EM, ↓reduceIte, Int.reduceAdd, Int.reduceEq, Int.reduceLE, Int.reduceLT, Int.reduceMul, Int.reduceNeg, Int.reducePow, Int.reduceSub, Int.reduceToNat, Nat.reduceAdd, Nat.reduceEqDiff, Nat.reduceLT, Nat.reduceLeDiff, Nat.reduceMul, reduceCtorEq]
  have z1 := n1.size
  have z2 := p2.size
  have z3 := n3.size
  have z4 := p4.size
  have b4 : Below w.heap.size w w4 := p4.below (by omega) (n3.below (by omega) (p2.below (Nat.le_refl _) (n1.below (Nat.le_refl _) (Below.refl _ _))))
  have hkb4 := p4.keep (by omega) (n3.keep p2.blk)
  have hsb4 := p4.blk
  have hk0 : w.heap.size ≤ w.heap.size := Nat.le_refl _
  have hs0 : w.heap.size ≤ w2.heap.size := by omega
  have hks : w.heap.size ≠ w2.heap.size := by omega
  obtain ⟨kb, ekb⟩ : ∃ kb, kb = w.heap.size := ⟨_, rfl⟩
  obtain ⟨sb, esb⟩ : ∃ sb, sb = w2.heap.size := ⟨_, rfl⟩
  simp only [← ekb, ← esb] at hkb4 hsb4 hk0 hs0 hks b4 ⊢
  refine loop_inv (fun t ρ w' => ∃ j : Nat, ρ 5 = .int .i64 (64 * (j : Int)) ∧ 64 * j ≤ M.length ∧ t = M.length - 64 * j ∧ Blk w' kb (nums .u32 k256) ∧ Blk w' sb (nums .u32 (runN 2 M j).1) ∧ Below kb w w') M.length ⟨0, by simp (disch := omega) only [EO, ↓EP, EQ, EM, ↓reduceIte, Int.reduceAdd, Int.reduceEq, Int.reduceLE, Int.reduceLT, Int.reduceMul, Int.reduceNeg, Int.reducePow, Int.reduceSub, Int.reduceToNat, Nat.reduceAdd, Nat.reduceEqDiff, Nat.reduceLT, Nat.reduceLeDiff, Nat.reduceMul, reduceCtorEq], by omega, by omega, hkb4, hsb4, b4⟩ ?_
  clear b4 n1 p2 n3 p4 hkb4 hsb4 z1 z2 z3 z4 w1
  rintro t ρ w3 hf ⟨j, h4, hj, rfl, hKb, hSb, b3⟩ N hN
  have r0 : ρ 0 = .slice A M.length c := by rw [hf 0 rfl]; simp (disch := omega) only [EO, ↓EP, EQ, EM, ↓reduceIte, Int.reduceAdd, Int.reduceEq, Int.reduceLE, Int.reduceLT, Int.reduceMul, Int.reduceNeg, Int.reducePow, Int.reduceSub, Int.reduceToNat, Nat.reduceAdd, Nat.reduceEqDiff, Nat.reduceLT, Nat.reduceLeDiff, Nat.reduceMul, reduceCtorEq]
  have rS : ρ 4 = .pointer (some ⟨sb, 0, none⟩) := by rw [hf 4 rfl]; simp (disch := omega) only [EO, ↓EP, EQ, EM, ↓reduceIte, Int.reduceAdd, Int.reduceEq, Int.reduceLE, Int.reduceLT, Int.reduceMul, Int.reduceNeg, Int.reducePow, Int.reduceSub, Int.reduceToNat, Nat.reduceAdd, Nat.reduceEqDiff, Nat.reduceLT, Nat.reduceLeDiff, Nat.reduceMul, reduceCtorEq, ← esb, ← ekb]
  have rK : ρ 3 = .pointer (some ⟨kb, 0, none⟩) := by rw [hf 3 rfl]; simp (disch := omega) only [EO, ↓EP, EQ, EM, ↓reduceIte, Int.reduceAdd, Int.reduceEq, Int.reduceLE, Int.reduceLT, Int.reduceMul, Int.reduceNeg, Int.reducePow, Int.reduceSub, Int.reduceToNat, Nat.reduceAdd, Nat.reduceEqDiff, Nat.reduceLT, Nat.reduceLeDiff, Nat.reduceMul, reduceCtorEq, ← esb, ← ekb]
  clear hf
  have ltk := hKb.lt
  have lts := hSb.lt
  by_cases hjl : 64 * (j : Int) < (M.length : Int)
  · have hM0 : 0 < M.length := by omega
    simp (disch := omega) only [EO, ↓EP, EQ, EM, ↓reduceIte, Int.reduceAdd, Int.reduceEq, Int.reduceLE, Int.reduceLT, Int.reduceMul, Int.reduceNeg, Int.reducePow, Int.reduceSub, Int.reduceToNat, Nat.reduceAdd, Nat.reduceEqDiff, Nat.reduceLT, Nat.reduceLeDiff, Nat.reduceMul, reduceCtorEq, h4, r0, rS, rK]
    refine al_k (nums .u32 (zs 64)) rfl fun w4 n4 => ?_
    have b4 := n4.below (by omega) b3
    have hK4 := n4.keep hKb
    have hS4 := n4.keep hSb
    generalize hpp : part 64 M j = p
    have hpb : byteL p := by rw [← hpp]; exact byteL_part hb j
    simp (disch := omega) only [EO, ↓EP, EQ, EM, ↓reduceIte, Int.reduceAdd, Int.reduceEq, Int.reduceLE, Int.reduceLT, Int.reduceMul, Int.reduceNeg, Int.reducePow, Int.reduceSub, Int.reduceToNat, Nat.reduceAdd, Nat.reduceEqDiff, Nat.reduceLT, Nat.reduceLeDiff, Nat.reduceMul, reduceCtorEq, h4, r0, rS, rK]
    refine loop_inv (fun t ρ' w' => ∃ k : Nat, ρ' 7 = .int .i64 k ∧ k ≤ 64 ∧ t = 64 - k ∧ Blk w' kb (nums .u32 k256) ∧ Blk w' sb (nums .u32 (runN 2 M j).1) ∧ Blk w' w3.heap.size (nums .u32 (rowN (twoWd p) 64 k)) ∧ Below kb w w') 64 ⟨0, by simp (disch := omega) only [EO, ↓EP, EQ, EM, ↓reduceIte, Int.reduceAdd, Int.reduceEq, Int.reduceLE, Int.reduceLT, Int.reduceMul, Int.reduceNeg, Int.reducePow, Int.reduceSub, Int.reduceToNat, Nat.reduceAdd, Nat.reduceEqDiff, Nat.reduceLT, Nat.reduceLeDiff, Nat.reduceMul, reduceCtorEq], by omega, by omega, hK4, hS4, n4.blk, b4⟩ ?_
    clear n4 hK4 hS4 b4
    rintro t ρ5 w5 hf ⟨k, h6, hk, rfl, hK5, hS5, hW5, b5⟩ N5 hN5
    have q0 : ρ5 0 = .slice A M.length c := by rw [hf 0 rfl]; simp (disch := omega) only [EO, ↓EP, EQ, EM, ↓reduceIte, Int.reduceAdd, Int.reduceEq, Int.reduceLE, Int.reduceLT, Int.reduceMul, Int.reduceNeg, Int.reducePow, Int.reduceSub, Int.reduceToNat, Nat.reduceAdd, Nat.reduceEqDiff, Nat.reduceLT, Nat.reduceLeDiff, Nat.reduceMul, reduceCtorEq, r0]
    have qS : ρ5 4 = .pointer (some ⟨sb, 0, none⟩) := by rw [hf 4 rfl]; simp (disch := omega) only [EO, ↓EP, EQ, EM, ↓reduceIte, Int.reduceAdd, Int.reduceEq, Int.reduceLE, Int.reduceLT, Int.reduceMul, Int.reduceNeg, Int.reducePow, Int.reduceSub, Int.reduceToNat, Nat.reduceAdd, Nat.reduceEqDiff, Nat.reduceLT, Nat.reduceLeDiff, Nat.reduceMul, reduceCtorEq, rS]
    have qK : ρ5 3 = .pointer (some ⟨kb, 0, none⟩) := by rw [hf 3 rfl]; simp (disch := omega) only [EO, ↓EP, EQ, EM, ↓reduceIte, Int.reduceAdd, Int.reduceEq, Int.reduceLE, Int.reduceLT, Int.reduceMul, Int.reduceNeg, Int.reducePow, Int.reduceSub, Int.reduceToNat, Nat.reduceAdd, Nat.reduceEqDiff, Nat.reduceLT, Nat.reduceLeDiff, Nat.reduceMul, reduceCtorEq, rK]
    have qA : ρ5 5 = .int .i64 (64 * (j : Int)) := by rw [hf 5 rfl]; simp (disch := omega) only [EO, ↓EP, EQ, EM, ↓reduceIte, Int.reduceAdd, Int.reduceEq, Int.reduceLE, Int.reduceLT, Int.reduceMul, Int.reduceNeg, Int.reducePow, Int.reduceSub, Int.reduceToNat, Nat.reduceAdd, Nat.reduceEqDiff, Nat.reduceLT, Nat.reduceLeDiff, Nat.reduceMul, reduceCtorEq, h4]
    have qW : ρ5 6 = .pointer (some ⟨w3.heap.size, 0, none⟩) := by rw [hf 6 rfl]; simp (disch := omega) only [EO, ↓EP, EQ, EM, ↓reduceIte, Int.reduceAdd, Int.reduceEq, Int.reduceLE, Int.reduceLT, Int.reduceMul, Int.reduceNeg, Int.reducePow, Int.reduceSub, Int.reduceToNat, Nat.reduceAdd, Nat.reduceEqDiff, Nat.reduceLT, Nat.reduceLeDiff, Nat.reduceMul, reduceCtorEq]
    clear hf
    have hp5 : Rd w5 A (nums .u8 M) := hr.below (ekb ▸ b5)
    have hl5 := rowN_len (twoWd p) hk
    by_cases hkR : (k : Int) < 64
    · have st : ∀ (x : Int) (m : Nat) (ρ6 : Env), x = twoWd p k → ρ6 7 = .int .i64 ((k + 1 : Nat) : Int) → (∀ w', Put (w5.drewN m) w' w3.heap.size (nums .u32 ((rowN (twoWd p) 64 k).set k x)) → endK N5 ρ6 w') := by
        intro x m ρ6 hx h6' w' pt
        rw [hx, rowN_set _ (by omega)] at pt
        exact hN5 (64 - (k + 1)) _ _ (by omega) ⟨k + 1, h6', by omega, rfl, pt.keep (by omega) (hK5.drewN m), pt.keep (by omega) (hS5.drewN m), pt.blk, pt.below (by omega) (below_drewN' b5 m)⟩
      by_cases hk16 : (k : Int) < 16
      · obtain ⟨ad, e, c0, c1, c2, c3⟩ := four_at hp5 hc (lo := 64 * j + 4 * k) (by omega)
        have elo : (64 * (j : Int) + 4 * (k : Int)).toNat = 64 * j + 4 * k := by omega
        simp (disch := omega) only [EO, ↓EP, EQ, EM, ↓reduceIte, Int.reduceAdd, Int.reduceEq, Int.reduceLE, Int.reduceLT, Int.reduceMul, Int.reduceNeg, Int.reducePow, Int.reduceSub, Int.reduceToNat, Nat.reduceAdd, Nat.reduceEqDiff, Nat.reduceLT, Nat.reduceLeDiff, Nat.reduceMul, reduceCtorEq, W_join, h6, q0, qS, qA, qW, elo, e, c0, c1, c2, c3]
        intro m
        refine st_num (hW5.drewN m) (by omega) fun w6 p6 => ?_
        simp (disch := omega) only [EO, ↓EP, EQ, EM, ↓reduceIte, Int.reduceAdd, Int.reduceEq, Int.reduceLE, Int.reduceLT, Int.reduceMul, Int.reduceNeg, Int.reducePow, Int.reduceSub, Int.reduceToNat, Nat.reduceAdd, Nat.reduceEqDiff, Nat.reduceLT, Nat.reduceLeDiff, Nat.reduceMul, reduceCtorEq, h6]
        refine st _ m _ ?_ (by simp (disch := omega) only [EO, ↓EP, EQ, EM, ↓reduceIte, Int.reduceAdd, Int.reduceEq, Int.reduceLE, Int.reduceLT, Int.reduceMul, Int.reduceNeg, Int.reducePow, Int.reduceSub, Int.reduceToNat, Nat.reduceAdd, Nat.reduceEqDiff, Nat.reduceLT, Nat.reduceLeDiff, Nat.reduceMul, reduceCtorEq, h6, Int.natCast_add]) w6 p6
        rw [twoWd_lo (by omega), ← hpp]
        exact oneWd_read hb (by omega)
      · have e2 : ((k : Int) - 2).toNat = k - 2 := by omega
        have e7 : ((k : Int) - 7).toNat = k - 7 := by omega
        have e15 : ((k : Int) - 15).toNat = k - 15 := by omega
        have e16 : ((k : Int) - 16).toNat = k - 16 := by omega
        have g : ∀ i, i < k → w5.cell? ⟨w3.heap.size, i, none⟩ = some (.int .u32 (twoWd p i)) := fun i hi => by rw [hW5.numN (j := i) (by omega), rowN_at _ hi]
        have g2 := g (k - 2) (by omega)
        have g7 := g (k - 7) (by omega)
        have g15 := g (k - 15) (by omega)
        have g16 := g (k - 16) (by omega)
        simp (disch := omega) only [EO, ↓EP, EQ, EM, ↓reduceIte, Int.reduceAdd, Int.reduceEq, Int.reduceLE, Int.reduceLT, Int.reduceMul, Int.reduceNeg, Int.reducePow, Int.reduceSub, Int.reduceToNat, Nat.reduceAdd, Nat.reduceEqDiff, Nat.reduceLT, Nat.reduceLeDiff, Nat.reduceMul, reduceCtorEq, W_join, h6, q0, qS, qA, qW, e2, e15, g2, g15]
        intro m0
        refine right_q _ 17 (by omega) (by omega) _ _ ?_
        simp (disch := omega) only [EO, ↓EP, EQ, EM, ↓reduceIte, Int.reduceAdd, Int.reduceEq, Int.reduceLE, Int.reduceLT, Int.reduceMul, Int.reduceNeg, Int.reducePow, Int.reduceSub, Int.reduceToNat, Nat.reduceAdd, Nat.reduceEqDiff, Nat.reduceLT, Nat.reduceLeDiff, Nat.reduceMul, reduceCtorEq, h6, qW, e7, e16, g7, g16]
        refine right_q _ 19 (by omega) (by omega) _ _ ?_
        simp (disch := omega) only [EO, ↓EP, EQ, EM, ↓reduceIte, Int.reduceAdd, Int.reduceEq, Int.reduceLE, Int.reduceLT, Int.reduceMul, Int.reduceNeg, Int.reducePow, Int.reduceSub, Int.reduceToNat, Nat.reduceAdd, Nat.reduceEqDiff, Nat.reduceLT, Nat.reduceLeDiff, Nat.reduceMul, reduceCtorEq, h6, qW, e7, e16, g7, g16]
        refine right_q _ 7 (by omega) (by omega) _ _ ?_
        simp (disch := omega) only [EO, ↓EP, EQ, EM, ↓reduceIte, Int.reduceAdd, Int.reduceEq, Int.reduceLE, Int.reduceLT, Int.reduceMul, Int.reduceNeg, Int.reducePow, Int.reduceSub, Int.reduceToNat, Nat.reduceAdd, Nat.reduceEqDiff, Nat.reduceLT, Nat.reduceLeDiff, Nat.reduceMul, reduceCtorEq, h6, qW, e7, e16, g7, g16]
        refine right_q _ 18 (by omega) (by omega) _ _ ?_
        simp (disch := omega) only [EO, ↓EP, EQ, EM, ↓reduceIte, Int.reduceAdd, Int.reduceEq, Int.reduceLE, Int.reduceLT, Int.reduceMul, Int.reduceNeg, Int.reducePow, Int.reduceSub, Int.reduceToNat, Nat.reduceAdd, Nat.reduceEqDiff, Nat.reduceLT, Nat.reduceLeDiff, Nat.reduceMul, reduceCtorEq, h6, qW, e7, e16, g7, g16]
        intro m
        refine st_num (hW5.drewN _) (by omega) fun w6 p6 => ?_
        simp (disch := omega) only [EO, ↓EP, EQ, EM, ↓reduceIte, Int.reduceAdd, Int.reduceEq, Int.reduceLE, Int.reduceLT, Int.reduceMul, Int.reduceNeg, Int.reducePow, Int.reduceSub, Int.reduceToNat, Nat.reduceAdd, Nat.reduceEqDiff, Nat.reduceLT, Nat.reduceLeDiff, Nat.reduceMul, reduceCtorEq, h6]
        refine st _ _ _ ?_ (by simp (disch := omega) only [EO, ↓EP, EQ, EM, ↓reduceIte, Int.reduceAdd, Int.reduceEq, Int.reduceLE, Int.reduceLT, Int.reduceMul, Int.reduceNeg, Int.reducePow, Int.reduceSub, Int.reduceToNat, Nat.reduceAdd, Nat.reduceEqDiff, Nat.reduceLT, Nat.reduceLeDiff, Nat.reduceMul, reduceCtorEq, h6, Int.natCast_add]) w6 p6
        rw [twoWd_hi (t := k) (by omega)]
        rfl
    · have hkR' : k = 64 := by omega
      subst hkR'
      clear hN5
      have hH8 : (runN 2 M j).1.length = 8 := run2_len M j
      have g : ∀ i : Nat, i < 8 → w5.cell? ⟨sb, i, none⟩ = some (.int .u32 (at' (runN 2 M j).1 (i : Int))) := fun i hi => hS5.numN (j := i) (by omega)
      have a0 := g 0 (by omega)
      have a1 := g 1 (by omega)
      have a2 := g 2 (by omega)
      have a3 := g 3 (by omega)
      have a4 := g 4 (by omega)
      have a5 := g 5 (by omega)
      have a6 := g 6 (by omega)
      have a7 := g 7 (by omega)
      clear g
      simp (disch := omega) only [EO, ↓EP, EQ, EM, ↓reduceIte, Int.reduceAdd, Int.reduceEq, Int.reduceLE, Int.reduceLT, Int.reduceMul, Int.reduceNeg, Int.reducePow, Int.reduceSub, Int.reduceToNat, Nat.reduceAdd, Nat.reduceEqDiff, Nat.reduceLT, Nat.reduceLeDiff, Nat.reduceMul, reduceCtorEq, h6, q0, qS, qA, qW, a0, a1, a2, a3, a4, a5, a6, a7]
      intro m
      refine loop_inv (twoJ w kb sb w3.heap.size (runN 2 M j).1 p) 64 ⟨0, by simp (disch := omega) only [EO, ↓EP, EQ, EM, ↓reduceIte, Int.reduceAdd, Int.reduceEq, Int.reduceLE, Int.reduceLT, Int.reduceMul, Int.reduceNeg, Int.reducePow, Int.reduceSub, Int.reduceToNat, Nat.reduceAdd, Nat.reduceEqDiff, Nat.reduceLT, Nat.reduceLeDiff, Nat.reduceMul, reduceCtorEq], by omega, by omega, ?_⟩ ?_
      · simp only [twoInit_00]
        simp (disch := omega) only [EO, ↓EP, EQ, EM, ↓reduceIte, Int.reduceAdd, Int.reduceEq, Int.reduceLE, Int.reduceLT, Int.reduceMul, Int.reduceNeg, Int.reducePow, Int.reduceSub, Int.reduceToNat, Nat.reduceAdd, Nat.reduceEqDiff, Nat.reduceLT, Nat.reduceLeDiff, Nat.reduceMul, reduceCtorEq]
        exact ⟨hK5.drewN m, hS5.drewN m, hW5.drewN m, ekb ▸ below_drewN' b5 m⟩
      clear a0 a1 a2 a3 a4 a5 a6 a7 hl5 hp5
      rintro t ρ7 w7 hf ⟨k, h13, hk, rfl, c0, c1, c2, c3, c4, c5, c6, c7, hK7, hS7, hW7, b7⟩ N7 hN7
      have y0 : ρ7 0 = .slice A M.length c := by rw [hf 0 rfl]; simp (disch := omega) only [EO, ↓EP, EQ, EM, ↓reduceIte, Int.reduceAdd, Int.reduceEq, Int.reduceLE, Int.reduceLT, Int.reduceMul, Int.reduceNeg, Int.reducePow, Int.reduceSub, Int.reduceToNat, Nat.reduceAdd, Nat.reduceEqDiff, Nat.reduceLT, Nat.reduceLeDiff, Nat.reduceMul, reduceCtorEq, q0]
      have yS : ρ7 4 = .pointer (some ⟨sb, 0, none⟩) := by rw [hf 4 rfl]; simp (disch := omega) only [EO, ↓EP, EQ, EM, ↓reduceIte, Int.reduceAdd, Int.reduceEq, Int.reduceLE, Int.reduceLT, Int.reduceMul, Int.reduceNeg, Int.reducePow, Int.reduceSub, Int.reduceToNat, Nat.reduceAdd, Nat.reduceEqDiff, Nat.reduceLT, Nat.reduceLeDiff, Nat.reduceMul, reduceCtorEq, qS]
      have yK : ρ7 3 = .pointer (some ⟨kb, 0, none⟩) := by rw [hf 3 rfl]; simp (disch := omega) only [EO, ↓EP, EQ, EM, ↓reduceIte, Int.reduceAdd, Int.reduceEq, Int.reduceLE, Int.reduceLT, Int.reduceMul, Int.reduceNeg, Int.reducePow, Int.reduceSub, Int.reduceToNat, Nat.reduceAdd, Nat.reduceEqDiff, Nat.reduceLT, Nat.reduceLeDiff, Nat.reduceMul, reduceCtorEq, qK]
      have yA : ρ7 5 = .int .i64 (64 * (j : Int)) := by rw [hf 5 rfl]; simp (disch := omega) only [EO, ↓EP, EQ, EM, ↓reduceIte, Int.reduceAdd, Int.reduceEq, Int.reduceLE, Int.reduceLT, Int.reduceMul, Int.reduceNeg, Int.reducePow, Int.reduceSub, Int.reduceToNat, Nat.reduceAdd, Nat.reduceEqDiff, Nat.reduceLT, Nat.reduceLeDiff, Nat.reduceMul, reduceCtorEq, qA]
      have yW : ρ7 6 = .pointer (some ⟨w3.heap.size, 0, none⟩) := by rw [hf 6 rfl]; simp (disch := omega) only [EO, ↓EP, EQ, EM, ↓reduceIte, Int.reduceAdd, Int.reduceEq, Int.reduceLE, Int.reduceLT, Int.reduceMul, Int.reduceNeg, Int.reducePow, Int.reduceSub, Int.reduceToNat, Nat.reduceAdd, Nat.reduceEqDiff, Nat.reduceLT, Nat.reduceLeDiff, Nat.reduceMul, reduceCtorEq, qW]
      clear hf q0 qS qK qA qW
      have hx := twoWd_step (runN 2 M j).1 p k
      have hsl := two_slen (twoInit (runN 2 M j).1 p) hH8 k
      generalize hst : rounds twoStep k (twoInit (runN 2 M j).1 p) = st at c0 c1 c2 c3 c4 c5 c6 c7 hx hsl
      by_cases hkR : (k : Int) < 64
      · have gk : w7.cell? ⟨w3.heap.size, k, none⟩ = some (.int .u32 (twoWd p k)) := by rw [hW7.numN (j := k) (by rw [rowN_len _ (Nat.le_refl _)]; omega), rowN_at _ (by omega)]
        have gt : w7.cell? ⟨kb, k, none⟩ = some (.int .u32 (at' k256 (k : Int))) := hK7.numN (j := k) (by rw [k256_len]; omega)
        have fin : ∀ (w8 : World) (ρ8 : Env) (x y : Int), twoX k (twoW k st.w) st.s = x → twoY st.s = y → ρ8 19 = .int .i64 ((k + 1 : Nat) : Int) → ρ8 11 = .int .u32 (s32 x y) → ρ8 12 = .int .u32 (at' st.s 0) → ρ8 13 = .int .u32 (at' st.s 1) → ρ8 14 = .int .u32 (at' st.s 2) → ρ8 15 = .int .u32 (s32 (at' st.s 3) x) → ρ8 16 = .int .u32 (at' st.s 4) → ρ8 17 = .int .u32 (at' st.s 5) → ρ8 18 = .int .u32 (at' st.s 6) →
            Blk w8 kb (nums .u32 k256) → Blk w8 sb (nums .u32 (runN 2 M j).1) → Blk w8 w3.heap.size (nums .u32 (rowN (twoWd p) 64 64)) → Below w.heap.size w w8 → endK N7 ρ8 w8 := by
          intro w8 ρ8 x y hx' hy' g1 d0 d1 d2 d3 d4 d5 d6 d7 g7 g8 g9 g10
          refine hN7 (64 - (k + 1)) _ _ (by omega) ⟨k + 1, g1, by omega, rfl, ?_⟩
          rw [rounds, hst, twoStep, hx', hy']
          exact ⟨d0, d1, d2, d3, d4, d5, d6, d7, g7, g8, g9, g10⟩
        clear hN7
        simp (disch := omega) only [EO, ↓EP, EQ, EM, ↓reduceIte, Int.reduceAdd, Int.reduceEq, Int.reduceLE, Int.reduceLT, Int.reduceMul, Int.reduceNeg, Int.reducePow, Int.reduceSub, Int.reduceToNat, Nat.reduceAdd, Nat.reduceEqDiff, Nat.reduceLT, Nat.reduceLeDiff, Nat.reduceMul, reduceCtorEq, W_join, h13, yS, yK, yW, c0, c1, c2, c3, c4, c5, c6, c7, gk, gt]
        refine right_q _ 6 (by omega) (by omega) _ _ ?_
        simp (disch := omega) only [EO, ↓EP, EQ, EM, ↓reduceIte, Int.reduceAdd, Int.reduceEq, Int.reduceLE, Int.reduceLT, Int.reduceMul, Int.reduceNeg, Int.reducePow, Int.reduceSub, Int.reduceToNat, Nat.reduceAdd, Nat.reduceEqDiff, Nat.reduceLT, Nat.reduceLeDiff, Nat.reduceMul, reduceCtorEq, h13, yS, yK, yW, c0, c1, c2, c3, c4, c5, c6, c7, gk, gt]
        refine right_q _ 11 (by omega) (by omega) _ _ ?_
        simp (disch := omega) only [EO, ↓EP, EQ, EM, ↓reduceIte, Int.reduceAdd, Int.reduceEq, Int.reduceLE, Int.reduceLT, Int.reduceMul, Int.reduceNeg, Int.reducePow, Int.reduceSub, Int.reduceToNat, Nat.reduceAdd, Nat.reduceEqDiff, Nat.reduceLT, Nat.reduceLeDiff, Nat.reduceMul, reduceCtorEq, h13, yS, yK, yW, c0, c1, c2, c3, c4, c5, c6, c7, gk, gt]
        refine right_q _ 25 (by omega) (by omega) _ _ ?_
        simp (disch := omega) only [EO, ↓EP, EQ, EM, ↓reduceIte, Int.reduceAdd, Int.reduceEq, Int.reduceLE, Int.reduceLT, Int.reduceMul, Int.reduceNeg, Int.reducePow, Int.reduceSub, Int.reduceToNat, Nat.reduceAdd, Nat.reduceEqDiff, Nat.reduceLT, Nat.reduceLeDiff, Nat.reduceMul, reduceCtorEq, h13, yS, yK, yW, c0, c1, c2, c3, c4, c5, c6, c7, gk, gt]
        intro m1
        refine right_d _ 2 (by omega) (by omega) _ _ fun m2 => ?_
        simp (disch := omega) only [EO, ↓EP, EQ, EM, ↓reduceIte, Int.reduceAdd, Int.reduceEq, Int.reduceLE, Int.reduceLT, Int.reduceMul, Int.reduceNeg, Int.reducePow, Int.reduceSub, Int.reduceToNat, Nat.reduceAdd, Nat.reduceEqDiff, Nat.reduceLT, Nat.reduceLeDiff, Nat.reduceMul, reduceCtorEq, h13, c0, c1, c2, c3, c4, c5, c6, c7]
        refine right_d _ 13 (by omega) (by omega) _ _ fun m3 => ?_
        simp (disch := omega) only [EO, ↓EP, EQ, EM, ↓reduceIte, Int.reduceAdd, Int.reduceEq, Int.reduceLE, Int.reduceLT, Int.reduceMul, Int.reduceNeg, Int.reducePow, Int.reduceSub, Int.reduceToNat, Nat.reduceAdd, Nat.reduceEqDiff, Nat.reduceLT, Nat.reduceLeDiff, Nat.reduceMul, reduceCtorEq, h13, c0, c1, c2, c3, c4, c5, c6, c7]
        refine right_d _ 22 (by omega) (by omega) _ _ fun m4 => ?_
        simp (disch := omega) only [EO, ↓EP, EQ, EM, ↓reduceIte, Int.reduceAdd, Int.reduceEq, Int.reduceLE, Int.reduceLT, Int.reduceMul, Int.reduceNeg, Int.reducePow, Int.reduceSub, Int.reduceToNat, Nat.reduceAdd, Nat.reduceEqDiff, Nat.reduceLT, Nat.reduceLeDiff, Nat.reduceMul, reduceCtorEq, h13, c0, c1, c2, c3, c4, c5, c6, c7]
        refine fin _ _ _ _ ?_ ?_ (by simp (disch := omega) only [EO, ↓EP, EQ, EM, ↓reduceIte, Int.reduceAdd, Int.reduceEq, Int.reduceLE, Int.reduceLT, Int.reduceMul, Int.reduceNeg, Int.reducePow, Int.reduceSub, Int.reduceToNat, Nat.reduceAdd, Nat.reduceEqDiff, Nat.reduceLT, Nat.reduceLeDiff, Nat.reduceMul, reduceCtorEq, h13, Int.natCast_add]) (by simp (disch := omega) only [EO, ↓EP, EQ, EM, ↓reduceIte, Int.reduceAdd, Int.reduceEq, Int.reduceLE, Int.reduceLT, Int.reduceMul, Int.reduceNeg, Int.reducePow, Int.reduceSub, Int.reduceToNat, Nat.reduceAdd, Nat.reduceEqDiff, Nat.reduceLT, Nat.reduceLeDiff, Nat.reduceMul, reduceCtorEq]; rfl) (by simp (disch := omega) only [EO, ↓EP, EQ, EM, ↓reduceIte, Int.reduceAdd, Int.reduceEq, Int.reduceLE, Int.reduceLT, Int.reduceMul, Int.reduceNeg, Int.reducePow, Int.reduceSub, Int.reduceToNat, Nat.reduceAdd, Nat.reduceEqDiff, Nat.reduceLT, Nat.reduceLeDiff, Nat.reduceMul, reduceCtorEq, c0]) (by simp (disch := omega) only [EO, ↓EP, EQ, EM, ↓reduceIte, Int.reduceAdd, Int.reduceEq, Int.reduceLE, Int.reduceLT, Int.reduceMul, Int.reduceNeg, Int.reducePow, Int.reduceSub, Int.reduceToNat, Nat.reduceAdd, Nat.reduceEqDiff, Nat.reduceLT, Nat.reduceLeDiff, Nat.reduceMul, reduceCtorEq, c1]) (by simp (disch := omega) only [EO, ↓EP, EQ, EM, ↓reduceIte, Int.reduceAdd, Int.reduceEq, Int.reduceLE, Int.reduceLT, Int.reduceMul, Int.reduceNeg, Int.reducePow, Int.reduceSub, Int.reduceToNat, Nat.reduceAdd, Nat.reduceEqDiff, Nat.reduceLT, Nat.reduceLeDiff, Nat.reduceMul, reduceCtorEq, c2]) (by simp (disch := omega) only [EO, ↓EP, EQ, EM, ↓reduceIte, Int.reduceAdd, Int.reduceEq, Int.reduceLE, Int.reduceLT, Int.reduceMul, Int.reduceNeg, Int.reducePow, Int.reduceSub, Int.reduceToNat, Nat.reduceAdd, Nat.reduceEqDiff, Nat.reduceLT, Nat.reduceLeDiff, Nat.reduceMul, reduceCtorEq, c3]; rfl) (by simp (disch := omega) only [EO, ↓EP, EQ, EM, ↓reduceIte, Int.reduceAdd, Int.reduceEq, Int.reduceLE, Int.reduceLT, Int.reduceMul, Int.reduceNeg, Int.reducePow, Int.reduceSub, Int.reduceToNat, Nat.reduceAdd, Nat.reduceEqDiff, Nat.reduceLT, Nat.reduceLeDiff, Nat.reduceMul, reduceCtorEq, c4]) (by simp (disch := omega) only [EO, ↓EP, EQ, EM, ↓reduceIte, Int.reduceAdd, Int.reduceEq, Int.reduceLE, Int.reduceLT, Int.reduceMul, Int.reduceNeg, Int.reducePow, Int.reduceSub, Int.reduceToNat, Nat.reduceAdd, Nat.reduceEqDiff, Nat.reduceLT, Nat.reduceLeDiff, Nat.reduceMul, reduceCtorEq, c5]) (by simp (disch := omega) only [EO, ↓EP, EQ, EM, ↓reduceIte, Int.reduceAdd, Int.reduceEq, Int.reduceLE, Int.reduceLT, Int.reduceMul, Int.reduceNeg, Int.reducePow, Int.reduceSub, Int.reduceToNat, Nat.reduceAdd, Nat.reduceEqDiff, Nat.reduceLT, Nat.reduceLeDiff, Nat.reduceMul, reduceCtorEq, c6]) (hK7.drewN _) (hS7.drewN _) (hW7.drewN _) (below_drewN' b7 _)
        · rw [twoX, hx, not_u32, chx32]
          rfl
        · rw [twoY, majx32]
          rfl
      · have hkR' : k = 64 := by omega
        subst hkR'
        clear hN7
        have g : ∀ i : Nat, i < 8 → w7.cell? ⟨sb, i, none⟩ = some (.int .u32 (at' (runN 2 M j).1 (i : Int))) := fun i hi => hS7.numN (j := i) (by omega)
        have a0 := g 0 (by omega)
        have a1 := g 1 (by omega)
        have a2 := g 2 (by omega)
        have a3 := g 3 (by omega)
        have a4 := g 4 (by omega)
        have a5 := g 5 (by omega)
        have a6 := g 6 (by omega)
        have a7 := g 7 (by omega)
        clear g
        simp (disch := omega) only [EO, ↓EP, EQ, EM, ↓reduceIte, Int.reduceAdd, Int.reduceEq, Int.reduceLE, Int.reduceLT, Int.reduceMul, Int.reduceNeg, Int.reducePow, Int.reduceSub, Int.reduceToNat, Nat.reduceAdd, Nat.reduceEqDiff, Nat.reduceLT, Nat.reduceLeDiff, Nat.reduceMul, reduceCtorEq, h13, y0, yS, yA, yW, c0, c1, c2, c3, c4, c5, c6, c7, a0, a1, a2, a3, a4, a5, a6, a7]
        refine ⟨_, fill8 _ _ _ _ _ _ _ _ _, ?_⟩
        simp (disch := omega) only [EO, ↓EP, EQ, EM, ↓reduceIte, Int.reduceAdd, Int.reduceEq, Int.reduceLE, Int.reduceLT, Int.reduceMul, Int.reduceNeg, Int.reducePow, Int.reduceSub, Int.reduceToNat, Nat.reduceAdd, Nat.reduceEqDiff, Nat.reduceLT, Nat.reduceLeDiff, Nat.reduceMul, reduceCtorEq, y0, yS, yA]
        refine st_whole hS7 (by rw [nums_length]; rfl) (by rw [nums_length, hH8]) (nums_one _ _) fun w8 p8 => ?_
        simp (disch := omega) only [EO, ↓EP, EQ, EM, ↓reduceIte, Int.reduceAdd, Int.reduceEq, Int.reduceLE, Int.reduceLT, Int.reduceMul, Int.reduceNeg, Int.reducePow, Int.reduceSub, Int.reduceToNat, Nat.reduceAdd, Nat.reduceEqDiff, Nat.reduceLT, Nat.reduceLeDiff, Nat.reduceMul, reduceCtorEq, yA]
        refine hN (M.length - 64 * (j + 1)) _ _ (by omega) ⟨j + 1, by simp (disch := omega) only [EO, ↓EP, EQ, EM, ↓reduceIte, Int.reduceAdd, Int.reduceEq, Int.reduceLE, Int.reduceLT, Int.reduceMul, Int.reduceNeg, Int.reducePow, Int.reduceSub, Int.reduceToNat, Nat.reduceAdd, Nat.reduceEqDiff, Nat.reduceLT, Nat.reduceLeDiff, Nat.reduceMul, reduceCtorEq, yA]; congr 1, by omega, rfl, p8.keep (by omega) hK7, ?_, ?_⟩
        · have e := run2_succ M j
          rw [hpp] at e
          rw [e, two, two_all _ _ hH8 (by rw [hst]; exact hsl), hst]
          exact p8.blk
        · exact ekb ▸ p8.below (by omega) b7
  · have hje : M.length / 64 = j := by omega
    simp (disch := omega) only [EO, ↓EP, EQ, EM, ↓reduceIte, Int.reduceAdd, Int.reduceEq, Int.reduceLE, Int.reduceLT, Int.reduceMul, Int.reduceNeg, Int.reducePow, Int.reduceSub, Int.reduceToNat, Nat.reduceAdd, Nat.reduceEqDiff, Nat.reduceLT, Nat.reduceLeDiff, Nat.reduceMul, reduceCtorEq, h4, r0, rS]
    clear hN
    rw [hje] at hK
    have hH8 : (runN 2 M j).1.length = 8 := run2_len M j
    have f3 : Fr w w3 nob := fr_of b3 ekb
    refine loop_inv (fun t ρ w' => ∃ (i : Nat) (O : Value), ρ 23 = .int .i64 i ∧ ρ 22 = O ∧ i ≤ 8 ∧ t = 8 - i ∧ Gw .u8 w3 w' O ((List.range i).flatMap fun (i : Nat) => Spec.w4 (at' (runN 2 M j).1 (i : Int)))) 8 ⟨0, .slice none 0 0, by simp (disch := omega) only [EO, ↓EP, EQ, EM, ↓reduceIte, Int.reduceAdd, Int.reduceEq, Int.reduceLE, Int.reduceLT, Int.reduceMul, Int.reduceNeg, Int.reducePow, Int.reduceSub, Int.reduceToNat, Nat.reduceAdd, Nat.reduceEqDiff, Nat.reduceLT, Nat.reduceLeDiff, Nat.reduceMul, reduceCtorEq], by simp (disch := omega) only [EO, ↓EP, EQ, EM, ↓reduceIte, Int.reduceAdd, Int.reduceEq, Int.reduceLE, Int.reduceLT, Int.reduceMul, Int.reduceNeg, Int.reducePow, Int.reduceSub, Int.reduceToNat, Nat.reduceAdd, Nat.reduceEqDiff, Nat.reduceLT, Nat.reduceLeDiff, Nat.reduceMul, reduceCtorEq], by omega, by omega, Gw.nil _ _⟩ ?_
    rintro t ρ8 w8 hf ⟨i, O, h18, h17, hi, rfl, G⟩ N hN
    have q3 : ρ8 4 = .pointer (some ⟨sb, 0, none⟩) := by rw [hf 4 rfl]; simp (disch := omega) only [EO, ↓EP, EQ, EM, ↓reduceIte, Int.reduceAdd, Int.reduceEq, Int.reduceLE, Int.reduceLT, Int.reduceMul, Int.reduceNeg, Int.reducePow, Int.reduceSub, Int.reduceToNat, Nat.reduceAdd, Nat.reduceEqDiff, Nat.reduceLT, Nat.reduceLeDiff, Nat.reduceMul, reduceCtorEq, rS]
    clear hf
    by_cases hi5 : (i : Int) < 8
    · have hcw : w8.cell? ⟨sb, i, none⟩ = some (.int .u32 (at' (runN 2 M j).1 (i : Int))) := (hSb.nb G.fr).numN (j := i) (by omega)
      have hgl := flat_len (f := fun (i : Nat) => Spec.w4 (at' (runN 2 M j).1 (i : Int))) (n := 4) (fun _ => rfl) i
      simp (disch := omega) only [EO, ↓EP, EQ, EM, ↓reduceIte, Int.reduceAdd, Int.reduceEq, Int.reduceLE, Int.reduceLT, Int.reduceMul, Int.reduceNeg, Int.reducePow, Int.reduceSub, Int.reduceToNat, Nat.reduceAdd, Nat.reduceEqDiff, Nat.reduceLT, Nat.reduceLeDiff, Nat.reduceMul, reduceCtorEq, h18, h17, q3, hcw]
      intro m1
      have G1 := G.drewN (1 + m1)
      refine bsl4 fun w9 n9 => ?_
      have G2 := G1.new n9
      simp (disch := omega) only [EO, ↓EP, EQ, EM, ↓reduceIte, Int.reduceAdd, Int.reduceEq, Int.reduceLE, Int.reduceLT, Int.reduceMul, Int.reduceNeg, Int.reducePow, Int.reduceSub, Int.reduceToNat, Nat.reduceAdd, Nat.reduceEqDiff, Nat.reduceLT, Nat.reduceLeDiff, Nat.reduceMul, reduceCtorEq, h17]
      intro m2
      refine app_num (G2.drewN m2).sl rfl (n9.rdl.drewN m2) (by rw [hgl]; simp only [List.length_cons, List.length_nil]; omega) (by omega) fun v10 w10 a10 => ?_
      have G3 := (G2.drewN m2).apd a10
      simp (disch := omega) only [EO, ↓EP, EQ, EM, ↓reduceIte, Int.reduceAdd, Int.reduceEq, Int.reduceLE, Int.reduceLT, Int.reduceMul, Int.reduceNeg, Int.reducePow, Int.reduceSub, Int.reduceToNat, Nat.reduceAdd, Nat.reduceEqDiff, Nat.reduceLT, Nat.reduceLeDiff, Nat.reduceMul, reduceCtorEq, h18]
      intro m3
      refine hN (8 - (i + 1)) _ _ (by omega) ⟨i + 1, v10, by simp (disch := omega) only [EO, ↓EP, EQ, EM, ↓reduceIte, Int.reduceAdd, Int.reduceEq, Int.reduceLE, Int.reduceLT, Int.reduceMul, Int.reduceNeg, Int.reducePow, Int.reduceSub, Int.reduceToNat, Nat.reduceAdd, Nat.reduceEqDiff, Nat.reduceLT, Nat.reduceLeDiff, Nat.reduceMul, reduceCtorEq, h18, Int.natCast_add], by simp (disch := omega) only [EO, ↓EP, EQ, EM, ↓reduceIte, Int.reduceAdd, Int.reduceEq, Int.reduceLE, Int.reduceLT, Int.reduceMul, Int.reduceNeg, Int.reducePow, Int.reduceSub, Int.reduceToNat, Nat.reduceAdd, Nat.reduceEqDiff, Nat.reduceLT, Nat.reduceLeDiff, Nat.reduceMul, reduceCtorEq], by omega, rfl, ?_⟩
      rw [flat_succ]
      exact G3.drewN m3
    · have hie : i = 8 := by omega
      subst hie
      simp (disch := omega) only [EO, ↓EP, EQ, EM, ↓reduceIte, Int.reduceAdd, Int.reduceEq, Int.reduceLE, Int.reduceLT, Int.reduceMul, Int.reduceNeg, Int.reducePow, Int.reduceSub, Int.reduceToNat, Nat.reduceAdd, Nat.reduceEqDiff, Nat.reduceLT, Nat.reduceLeDiff, Nat.reduceMul, reduceCtorEq, h18, h17]
      exact hK O w8 (G.from (fw.nb f3))
end Go.Proofs.YtcgplgpdcfocpaaDoor.Spec
end
section
set_option linter.unusedVariables false
set_option linter.unusedSimpArgs false
namespace Go.Proofs.YtcgplgpdcfocpaaDoor.Spec
open Go Go.RowKit Go.Proofs Go.Proofs.YtcgplgpdcfocpaaDoor.Eng Go.Proofs.YtcgplgpdcfocpaaDoor.Code
set_option maxRecDepth 100000
attribute [local irreducible] callK S.W opsW scrW one
theorem roots64_fill : fillL [(0, 1), (1, 1), (2, 1), (3, 1), (4, 1), (5, 1), (6, 1), (7, 1), (8, 1), (9, 1), (10, 1), (11, 1), (12, 1), (13, 1), (14, 1), (15, 1), (16, 1), (17, 1), (18, 1), (19, 1), (20, 1), (21, 1), (22, 1), (23, 1), (24, 1), (25, 1), (26, 1), (27, 1), (28, 1), (29, 1), (30, 1), (31, 1), (32, 1), (33, 1), (34, 1), (35, 1), (36, 1), (37, 1), (38, 1), (39, 1), (40, 1), (41, 1), (42, 1), (43, 1), (44, 1), (45, 1), (46, 1), (47, 1), (48, 1), (49, 1), (50, 1), (51, 1), (52, 1), (53, 1), (54, 1), (55, 1), (56, 1), (57, 1), (58, 1), (59, 1), (60, 1), (61, 1), (62, 1), (63, 1), (64, 1), (65, 1), (66, 1), (67, 1), (68, 1), (69, 1), (70, 1), (71, 1), (72, 1), (73, 1), (74, 1), (75, 1), (76, 1), (77, 1), (78, 1), (79, 1)] (Array.replicate 80 (Value.int .u64 0)) [(0, .int .u64 4794697086780616226), (1, .int .u64 8158064640168781261), (2, .int .u64 13096744586834688815), (3, .int .u64 16840607885511220156), (4, .int .u64 4131703408338449720), (5, .int .u64 6480981068601479193), (6, .int .u64 10538285296894168987), (7, .int .u64 12329834152419229976), (8, .int .u64 15566598209576043074), (9, .int .u64 1334009975649890238), (10, .int .u64 2608012711638119052), (11, .int .u64 6128411473006802146), (12, .int .u64 8268148722764581231), (13, .int .u64 9286055187155687089), (14, .int .u64 11230858885718282805), (15, .int .u64 13951009754708518548), (16, .int .u64 16472876342353939154), (17, .int .u64 17275323862435702243), (18, .int .u64 1135362057144423861), (19, .int .u64 2597628984639134821), (20, .int .u64 3308224258029322869), (21, .int .u64 5365058923640841347), (22, .int .u64 6679025012923562964), (23, .int .u64 8573033837759648693), (24, .int .u64 10970295158949994411), (25, .int .u64 12119686244451234320), (26, .int .u64 12683024718118986047), (27, .int .u64 13788192230050041572), (28, .int .u64 14330467153632333762), (29, .int .u64 15395433587784984357), (30, .int .u64 489312712824947311), (31, .int .u64 1452737877330783856), (32, .int .u64 2861767655752347644), (33, .int .u64 3322285676063803686), (34, .int .u64 5560940570517711597), (35, .int .u64 5996557281743188959), (36, .int .u64 7280758554555802590), (37, .int .u64 8532644243296465576), (38, .int .u64 9350256976987008742), (39, .int .u64 10552545826968843579), (40, .int .u64 11727347734174303076), (41, .int .u64 12113106623233404929), (42, .int .u64 14000437183269869457), (43, .int .u64 14369950271660146224), (44, .int .u64 15101387698204529176), (45, .int .u64 15463397548674623760), (46, .int .u64 17586052441742319658), (47, .int .u64 1182934255886127544), (48, .int .u64 1847814050463011016), (49, .int .u64 2177327727835720531), (50, .int .u64 2830643537854262169), (51, .int .u64 3796741975233480872), (52, .int .u64 4115178125766777443), (53, .int .u64 5681478168544905931), (54, .int .u64 6601373596472566643), (55, .int .u64 7507060721942968483), (56, .int .u64 8399075790359081724), (57, .int .u64 8693463985226723168), (58, .int .u64 9568029438360202098), (59, .int .u64 10144078919501101548), (60, .int .u64 10430055236837252648), (61, .int .u64 11840083180663258601), (62, .int .u64 13761210420658862357), (63, .int .u64 14299343276471374635), (64, .int .u64 14566680578165727644), (65, .int .u64 15097957966210449927), (66, .int .u64 16922976911328602910), (67, .int .u64 17689382322260857208), (68, .int .u64 500013540394364858), (69, .int .u64 748580250866718886), (70, .int .u64 1242879168328830382), (71, .int .u64 1977374033974150939), (72, .int .u64 2944078676154940804), (73, .int .u64 3659926193048069267), (74, .int .u64 4368137639120453308), (75, .int .u64 4836135668995329356), (76, .int .u64 5532061633213252278), (77, .int .u64 6448918945643986474), (78, .int .u64 6902733635092675308), (79, .int .u64 7801388544844847127)] = some (nums .u64 k512).toArray := by kernel_rfl
theorem roots64_spec {w : World} (K : Value → World → Prop) (hK : ∀ w', Fr w w' nob → K (.agg (nums .u64 k512).toArray) w') : callK Tryd.prog 83 [] w K := by
  refine call_of Tryd.func83 Code.h83 (by simp [Code.c83]) ?_
  simp (disch := omega) only [EO, ↓EP, EQ, EM, ↓reduceIte, Int.reduceAdd, Int.reduceEq, Int.reduceLE, Int.reduceLT, Int.reduceMul, Int.reduceNeg, Int.reducePow, Int.reduceSub, Int.reduceToNat, Nat.reduceAdd, Nat.reduceEqDiff, Nat.reduceLT, Nat.reduceLeDiff, Nat.reduceMul, reduceCtorEq, Code.c83]
  refine al_k (nums .u64 (zs 80)) rfl fun w1 n1 => ?_
  simp (disch := omega) only [EO, ↓EP, EQ, EM, ↓reduceIte, Int.reduceAdd, Int.reduceEq, Int.reduceLE, Int.reduceLT, Int.reduceMul, Int.reduceNeg, Int.reducePow, Int.reduceSub, Int.reduceToNat, Nat.reduceAdd, Nat.reduceEqDiff, Nat.reduceLT, Nat.reduceLeDiff, Nat.reduceMul, reduceCtorEq]
  refine ⟨_, roots64_fill, ?_⟩
  simp (disch := omega) only [EO, ↓EP, EQ, EM, ↓reduceIte, Int.reduceAdd, Int.reduceEq, Int.reduceLE, Int.reduceLT, Int.reduceMul, Int.reduceNeg, Int.reducePow, Int.reduceSub, Int.reduceToNat, Nat.reduceAdd, Nat.reduceEqDiff, Nat.reduceLT, Nat.reduceLeDiff, Nat.reduceMul, reduceCtorEq]
  have hl : (nums .u64 k512).length = 80 := by rw [nums_length]; exact k512_len
  refine st_whole n1.blk hl rfl (nums_one _ _) fun w2 p2 => ?_
  simp (disch := omega) only [EO, ↓EP, EQ, EM, ↓reduceIte, Int.reduceAdd, Int.reduceEq, Int.reduceLE, Int.reduceLT, Int.reduceMul, Int.reduceNeg, Int.reducePow, Int.reduceSub, Int.reduceToNat, Nat.reduceAdd, Nat.reduceEqDiff, Nat.reduceLT, Nat.reduceLeDiff, Nat.reduceMul, reduceCtorEq]
  refine p2.blk.ldAgg hl (hK _ ?_)
  exact fr_of (p2.below (Nat.le_refl _) (n1.below (Nat.le_refl _) (Below.refl _ _))) rfl
theorem wide_all (H S : List Int) (hH : H.length = 8) (hS : S.length = 8) : rounds (wideAdd H) 8 S = [s64 (at' H 0) (at' S 0), s64 (at' H 1) (at' S 1), s64 (at' H 2) (at' S 2), s64 (at' H 3) (at' S 3), s64 (at' H 4) (at' S 4), s64 (at' H 5) (at' S 5), s64 (at' H 6) (at' S 6), s64 (at' H 7) (at' S 7)] := by
  obtain ⟨a, b, c, d, e, f, g, i, rfl⟩ := len8 hH
  obtain ⟨a', b', c', d', e', f', g', i', rfl⟩ := len8 hS
  unfold s64
  show [IntKind.u64.wrap (a' + a), IntKind.u64.wrap (b' + b), IntKind.u64.wrap (c' + c), IntKind.u64.wrap (d' + d), IntKind.u64.wrap (e' + e), IntKind.u64.wrap (f' + f), IntKind.u64.wrap (g' + g), IntKind.u64.wrap (i' + i)] = [IntKind.u64.wrap (a + a'), IntKind.u64.wrap (b + b'), IntKind.u64.wrap (c + c'), IntKind.u64.wrap (d + d'), IntKind.u64.wrap (e + e'), IntKind.u64.wrap (f + f'), IntKind.u64.wrap (g + g'), IntKind.u64.wrap (i + i')]
  simp only [Int.add_comm]
def runW (s M : List Int) (j : Nat) : List Int := rounds (fun j s => wide s (part 128 M j)) j s
theorem runW_succ (s M : List Int) (j : Nat) : runW s M (j + 1) = wide (runW s M j) (part 128 M j) := rfl
theorem runW_len (s M : List Int) (hs : s.length = 8) : ∀ j, (runW s M j).length = 8
  | 0 => hs
  | j + 1 => by rw [runW_succ]; exact wide_len _ _ (runW_len s M hs j)
theorem not_u64 (n : Int) : bits .xor .u64 (if IntKind.u64.signed = true then -1 else IntKind.u64.max) n = bits .xor .u64 18446744073709551615 n := rfl
theorem rowN_set0 (f : Nat → Int) {n k : Nat} (h : k < n) : (rowN f n k).set k 0 = rowN f n k := by
  rw [rowN, List.set_append_right _ _ (by simp)]
  simp only [List.length_map, List.length_range, Nat.sub_self]
  rw [show n - k = (n - (k + 1)) + 1 by omega, List.replicate_succ, List.set_cons_zero]
def wideJ (w : World) (kb sb wb : Nat) (H p : List Int) (m : Nat) (ρ : Env) (w' : World) : Prop :=
  ∃ k : Nat, ρ 20 = .int .i64 k ∧ k ≤ 80 ∧ m = 80 - k ∧ ρ 12 = .int .u64 (at' (rounds wideStep k (wideInit H p)).s 0) ∧ ρ 13 = .int .u64 (at' (rounds wideStep k (wideInit H p)).s 1) ∧ ρ 14 = .int .u64 (at' (rounds wideStep k (wideInit H p)).s 2) ∧ ρ 15 = .int .u64 (at' (rounds wideStep k (wideInit H p)).s 3) ∧ ρ 16 = .int .u64 (at' (rounds wideStep k (wideInit H p)).s 4) ∧ ρ 17 = .int .u64 (at' (rounds wideStep k (wideInit H p)).s 5) ∧ ρ 18 = .int .u64 (at' (rounds wideStep k (wideInit H p)).s 6) ∧ ρ 19 = .int .u64 (at' (rounds wideStep k (wideInit H p)).s 7) ∧
    Blk w' kb (nums .u64 k512) ∧ Blk w' sb (nums .u64 H) ∧ Blk w' wb (nums .u64 (rowN (wideWd p) 80 80)) ∧ Below w.heap.size w w'
theorem wideInit_00 (h p : List Int) : (rounds wideStep 0 (wideInit h p)).s = h := rfl
set_option maxHeartbeats 4000000 in
theorem sha512_vw {w : World} {v : Value} {M s : List Int} (hv : Vw .u8 w v M) (hs : s.length = 8) (hmod : M.length % 128 = 0) (hm : M.length ≤ 16777600) (hb : byteL M) (K : Value → World → Prop)
    (hK : ∀ v' w', Gw .u8 w w' v' ((List.range 8).flatMap fun (i : Nat) => v8 (at' (runW s M (M.length / 128)) (i : Int))) → K v' w') : callK Tryd.prog 55 [v, .agg (nums .u64 s).toArray] w K := by
  obtain ⟨A, c, rfl, hc, hr⟩ := hv
  refine call_of Tryd.func55 Code.h55 (by simp [Code.c55]) ?_
  simp (disch := omega) only [EO, ↓EP, EQ, EM, ↓reduceIte, Int.reduceAdd, Int.reduceEq, Int.reduceLE, Int.reduceLT, Int.reduceMul, Int.reduceNeg, Int.reducePow, Int.reduceSub, Int.reduceToNat, Nat.reduceAdd, Nat.reduceEqDiff, Nat.reduceLT, Nat.reduceLeDiff, Nat.reduceMul, reduceCtorEq, Code.c55]
  refine al_k (nums .u64 s) rfl fun w1 n1 => ?_
  simp (disch := omega) only [EO, ↓EP, EQ, EM, ↓reduceIte, Int.reduceAdd, Int.reduceEq, Int.reduceLE, Int.reduceLT, Int.reduceMul, Int.reduceNeg, Int.reducePow, Int.reduceSub, Int.reduceToNat, Nat.reduceAdd, Nat.reduceEqDiff, Nat.reduceLT, Nat.reduceLeDiff, Nat.reduceMul, reduceCtorEq]
  refine roots64_spec _ fun w2 f2 => ?_
  simp (disch := omega) only [EO, ↓EP, EQ, EM, ↓reduceIte, Int.reduceAdd, Int.reduceEq, Int.reduceLE, Int.reduceLT, Int.reduceMul, Int.reduceNeg, Int.reducePow, Int.reduceSub, Int.reduceToNat, Nat.reduceAdd, Nat.reduceEqDiff, Nat.reduceLT, Nat.reduceLeDiff, Nat.reduceMul, reduceCtorEq]
  refine al_k (nums .u64 (zs 80)) rfl fun w3 n3 => ?_
  simp (disch := omega) only [EO, ↓EP, EQ, EM, ↓reduceIte, Int.reduceAdd, Int.reduceEq, Int.reduceLE, Int.reduceLT, Int.reduceMul, Int.reduceNeg, Int.reducePow, Int.reduceSub, Int.reduceToNat, Nat.reduceAdd, Nat.reduceEqDiff, Nat.reduceLT, Nat.reduceLeDiff, Nat.reduceMul, reduceCtorEq]
  refine st_whole n3.blk (by rw [nums_length]; exact k512_len) rfl (nums_one _ _) fun w4 p4 => ?_
  simp (disch := omega) only [EO, ↓EP, EQ, EM, ↓reduceIte, Int.reduceAdd, Int.reduceEq, Int.reduceLE, Int.reduceLT, Int.reduceMul, Int.reduceNeg, Int.reducePow, Int.reduceSub, Int.reduceToNat, Nat.reduceAdd, Nat.reduceEqDiff, Nat.reduceLT, Nat.reduceLeDiff, Nat.reduceMul, reduceCtorEq]
  have z1 := n1.size
  have z2 := f2.size
  have z3 := n3.size
  have z4 := p4.size
  have b2 : Below w.heap.size w w2 := (((n1.fr nob).nb f2).below (Nat.le_refl _) fun _ h => h.elim)
  have b4 : Below w.heap.size w w4 := p4.below (by omega) (n3.below (by omega) b2)
  have hsb4 := p4.keep (by omega) (n3.keep (n1.blk.nb f2))
  have hkb4 := p4.blk
  have hk0 : w.heap.size ≤ w2.heap.size := by omega
  have hs0 : w.heap.size ≤ w.heap.size := Nat.le_refl _
  have hks : w2.heap.size ≠ w.heap.size := by omega
  obtain ⟨sb, esb⟩ : ∃ sb, sb = w.heap.size := ⟨_, rfl⟩
  obtain ⟨kb, ekb⟩ : ∃ kb, kb = w2.heap.size := ⟨_, rfl⟩
  simp only [← ekb, ← esb] at hkb4 hsb4 hk0 hs0 hks b4 ⊢
  refine loop_inv (fun t ρ w' => ∃ j : Nat, ρ 6 = .int .i64 (128 * (j : Int)) ∧ 128 * j ≤ M.length ∧ t = M.length - 128 * j ∧ Blk w' kb (nums .u64 k512) ∧ Blk w' sb (nums .u64 (runW s M j)) ∧ Below sb w w') M.length ⟨0, by simp (disch := omega) only [EO, ↓EP, EQ, EM, ↓reduceIte, Int.reduceAdd, Int.reduceEq, Int.reduceLE, Int.reduceLT, Int.reduceMul, Int.reduceNeg, Int.reducePow, Int.reduceSub, Int.reduceToNat, Nat.reduceAdd, Nat.reduceEqDiff, Nat.reduceLT, Nat.reduceLeDiff, Nat.reduceMul, reduceCtorEq], by omega, by omega, hkb4, hsb4, b4⟩ ?_
  clear b4 n1 f2 n3 p4 hkb4 hsb4 z1 z2 z3 z4 b2 w1
  rintro t ρ w3 hf ⟨j, h4, hj, rfl, hKb, hSb, b3⟩ N hN
  have r0 : ρ 0 = .slice A M.length c := by rw [hf 0 rfl]; simp (disch := omega) only [EO, ↓EP, EQ, EM, ↓reduceIte, Int.reduceAdd, Int.reduceEq, Int.reduceLE, Int.reduceLT, Int.reduceMul, Int.reduceNeg, Int.reducePow, Int.reduceSub, Int.reduceToNat, Nat.reduceAdd, Nat.reduceEqDiff, Nat.reduceLT, Nat.reduceLeDiff, Nat.reduceMul, reduceCtorEq]
  have rS : ρ 3 = .pointer (some ⟨sb, 0, none⟩) := by rw [hf 3 rfl]; simp (disch := omega) only [EO, ↓EP, EQ, EM, ↓reduceIte, Int.reduceAdd, Int.reduceEq, Int.reduceLE, Int.reduceLT, Int.reduceMul, Int.reduceNeg, Int.reducePow, Int.reduceSub, Int.reduceToNat, Nat.reduceAdd, Nat.reduceEqDiff, Nat.reduceLT, Nat.reduceLeDiff, Nat.reduceMul, reduceCtorEq, ← esb, ← ekb]
  have rK : ρ 5 = .pointer (some ⟨kb, 0, none⟩) := by rw [hf 5 rfl]; simp (disch := omega) only [EO, ↓EP, EQ, EM, ↓reduceIte, Int.reduceAdd, Int.reduceEq, Int.reduceLE, Int.reduceLT, Int.reduceMul, Int.reduceNeg, Int.reducePow, Int.reduceSub, Int.reduceToNat, Nat.reduceAdd, Nat.reduceEqDiff, Nat.reduceLT, Nat.reduceLeDiff, Nat.reduceMul, reduceCtorEq, ← esb, ← ekb]
  clear hf
  have ltk := hKb.lt
  have lts := hSb.lt
  by_cases hjl : 128 * (j : Int) < (M.length : Int)
  · have hM0 : 0 < M.length := by omega
    simp (disch := omega) only [EO, ↓EP, EQ, EM, ↓reduceIte, Int.reduceAdd, Int.reduceEq, Int.reduceLE, Int.reduceLT, Int.reduceMul, Int.reduceNeg, Int.reducePow, Int.reduceSub, Int.reduceToNat, Nat.reduceAdd, Nat.reduceEqDiff, Nat.reduceLT, Nat.reduceLeDiff, Nat.reduceMul, reduceCtorEq, h4, r0, rS, rK]
    refine al_k (nums .u64 (zs 80)) rfl fun w4 n4 => ?_
    have b4 := n4.below (by omega) b3
    have hK4 := n4.keep hKb
    have hS4 := n4.keep hSb
    generalize hpp : part 128 M j = p
    have hpb : byteL p := by rw [← hpp]; exact byteL_part hb j
    simp (disch := omega) only [EO, ↓EP, EQ, EM, ↓reduceIte, Int.reduceAdd, Int.reduceEq, Int.reduceLE, Int.reduceLT, Int.reduceMul, Int.reduceNeg, Int.reducePow, Int.reduceSub, Int.reduceToNat, Nat.reduceAdd, Nat.reduceEqDiff, Nat.reduceLT, Nat.reduceLeDiff, Nat.reduceMul, reduceCtorEq, h4, r0, rS, rK]
    refine loop_inv (fun t ρ' w' => ∃ k : Nat, ρ' 8 = .int .i64 k ∧ k ≤ 80 ∧ t = 80 - k ∧ Blk w' kb (nums .u64 k512) ∧ Blk w' sb (nums .u64 (runW s M j)) ∧ Blk w' w3.heap.size (nums .u64 (rowN (wideWd p) 80 k)) ∧ Below sb w w') 80 ⟨0, by simp (disch := omega) only [EO, ↓EP, EQ, EM, ↓reduceIte, Int.reduceAdd, Int.reduceEq, Int.reduceLE, Int.reduceLT, Int.reduceMul, Int.reduceNeg, Int.reducePow, Int.reduceSub, Int.reduceToNat, Nat.reduceAdd, Nat.reduceEqDiff, Nat.reduceLT, Nat.reduceLeDiff, Nat.reduceMul, reduceCtorEq], by omega, by omega, hK4, hS4, n4.blk, b4⟩ ?_
    clear n4 hK4 hS4 b4
    rintro t ρ5 w5 hf ⟨k, h6, hk, rfl, hK5, hS5, hW5, b5⟩ N5 hN5
    have q0 : ρ5 0 = .slice A M.length c := by rw [hf 0 rfl]; simp (disch := omega) only [EO, ↓EP, EQ, EM, ↓reduceIte, Int.reduceAdd, Int.reduceEq, Int.reduceLE, Int.reduceLT, Int.reduceMul, Int.reduceNeg, Int.reducePow, Int.reduceSub, Int.reduceToNat, Nat.reduceAdd, Nat.reduceEqDiff, Nat.reduceLT, Nat.reduceLeDiff, Nat.reduceMul, reduceCtorEq, r0]
    have qS : ρ5 3 = .pointer (some ⟨sb, 0, none⟩) := by rw [hf 3 rfl]; simp (disch := omega) only [EO, ↓EP, EQ, EM, ↓reduceIte, Int.reduceAdd, Int.reduceEq, Int.reduceLE, Int.reduceLT, Int.reduceMul, Int.reduceNeg, Int.reducePow, Int.reduceSub, Int.reduceToNat, Nat.reduceAdd, Nat.reduceEqDiff, Nat.reduceLT, Nat.reduceLeDiff, Nat.reduceMul, reduceCtorEq, rS]
    have qK : ρ5 5 = .pointer (some ⟨kb, 0, none⟩) := by rw [hf 5 rfl]; simp (disch := omega) only [EO, ↓EP, EQ, EM, ↓reduceIte, Int.reduceAdd, Int.reduceEq, Int.reduceLE, Int.reduceLT, Int.reduceMul, Int.reduceNeg, Int.reducePow, Int.reduceSub, Int.reduceToNat, Nat.reduceAdd, Nat.reduceEqDiff, Nat.reduceLT, Nat.reduceLeDiff, Nat.reduceMul, reduceCtorEq, rK]
    have qA : ρ5 6 = .int .i64 (128 * (j : Int)) := by rw [hf 6 rfl]; simp (disch := omega) only [EO, ↓EP, EQ, EM, ↓reduceIte, Int.reduceAdd, Int.reduceEq, Int.reduceLE, Int.reduceLT, Int.reduceMul, Int.reduceNeg, Int.reducePow, Int.reduceSub, Int.reduceToNat, Nat.reduceAdd, Nat.reduceEqDiff, Nat.reduceLT, Nat.reduceLeDiff, Nat.reduceMul, reduceCtorEq, h4]
    have qW : ρ5 7 = .pointer (some ⟨w3.heap.size, 0, none⟩) := by rw [hf 7 rfl]; simp (disch := omega) only [EO, ↓EP, EQ, EM, ↓reduceIte, Int.reduceAdd, Int.reduceEq, Int.reduceLE, Int.reduceLT, Int.reduceMul, Int.reduceNeg, Int.reducePow, Int.reduceSub, Int.reduceToNat, Nat.reduceAdd, Nat.reduceEqDiff, Nat.reduceLT, Nat.reduceLeDiff, Nat.reduceMul, reduceCtorEq]
    clear hf
    have hp5 : Rd w5 A (nums .u8 M) := hr.below (esb ▸ b5)
    have hl5 := rowN_len (wideWd p) hk
    by_cases hkR : (k : Int) < 80
    · have st : ∀ (x : Int) (m : Nat) (ρ6 : Env), x = wideWd p k → ρ6 8 = .int .i64 ((k + 1 : Nat) : Int) → (∀ w', Put (w5.drewN m) w' w3.heap.size (nums .u64 ((rowN (wideWd p) 80 k).set k x)) → endK N5 ρ6 w') := by
        intro x m ρ6 hx h6' w' pt
        rw [hx, rowN_set _ (by omega)] at pt
        exact hN5 (80 - (k + 1)) _ _ (by omega) ⟨k + 1, h6', by omega, rfl, pt.keep (by omega) (hK5.drewN m), pt.keep (by omega) (hS5.drewN m), pt.blk, pt.below (by omega) (below_drewN' b5 m)⟩
      have st0 : ∀ (ρ6 : Env) (w' : World), ρ6 8 = .int .i64 ((k + 1 : Nat) : Int) → Blk w' kb (nums .u64 k512) → Blk w' sb (nums .u64 (runW s M j)) → Blk w' w3.heap.size (nums .u64 (rowN (wideWd p) 80 (k + 1))) → Below sb w w' → endK N5 ρ6 w' := fun ρ6 w' a1 a2 a3 a4 a5 => hN5 (80 - (k + 1)) _ _ (by omega) ⟨k + 1, a1, by omega, rfl, a2, a3, a4, a5⟩
      by_cases hk16 : (k : Int) < 16
      · clear hN5
        simp (disch := omega) only [EO, ↓EP, EQ, EM, ↓reduceIte, Int.reduceAdd, Int.reduceEq, Int.reduceLE, Int.reduceLT, Int.reduceMul, Int.reduceNeg, Int.reducePow, Int.reduceSub, Int.reduceToNat, Nat.reduceAdd, Nat.reduceEqDiff, Nat.reduceLT, Nat.reduceLeDiff, Nat.reduceMul, reduceCtorEq, W_join, h6, q0, qS, qA, qW]
        refine loop_inv (fun t ρ' w' => ∃ i : Nat, ρ' 9 = .int .i64 i ∧ i ≤ 8 ∧ t = 8 - i ∧ Blk w' kb (nums .u64 k512) ∧ Blk w' sb (nums .u64 (runW s M j)) ∧ Blk w' w3.heap.size (nums .u64 ((rowN (wideWd p) 80 k).set k (wpart p k i))) ∧ Below sb w w') 8 ⟨0, by simp (disch := omega) only [EO, ↓EP, EQ, EM, ↓reduceIte, Int.reduceAdd, Int.reduceEq, Int.reduceLE, Int.reduceLT, Int.reduceMul, Int.reduceNeg, Int.reducePow, Int.reduceSub, Int.reduceToNat, Nat.reduceAdd, Nat.reduceEqDiff, Nat.reduceLT, Nat.reduceLeDiff, Nat.reduceMul, reduceCtorEq], by omega, by omega, hK5, hS5, by rw [wpart, rowN_set0 _ (by omega)]; exact hW5, b5⟩ ?_
        clear hK5 hS5 hW5 b5
        rintro t ρ6 w6 hf ⟨i, h9, hi, rfl, hK6, hS6, hW6, b6⟩ N6 hN6
        have u0 : ρ6 0 = .slice A M.length c := by rw [hf 0 rfl]; simp (disch := omega) only [EO, ↓EP, EQ, EM, ↓reduceIte, Int.reduceAdd, Int.reduceEq, Int.reduceLE, Int.reduceLT, Int.reduceMul, Int.reduceNeg, Int.reducePow, Int.reduceSub, Int.reduceToNat, Nat.reduceAdd, Nat.reduceEqDiff, Nat.reduceLT, Nat.reduceLeDiff, Nat.reduceMul, reduceCtorEq, q0]
        have u6 : ρ6 6 = .int .i64 (128 * (j : Int)) := by rw [hf 6 rfl]; simp (disch := omega) only [EO, ↓EP, EQ, EM, ↓reduceIte, Int.reduceAdd, Int.reduceEq, Int.reduceLE, Int.reduceLT, Int.reduceMul, Int.reduceNeg, Int.reducePow, Int.reduceSub, Int.reduceToNat, Nat.reduceAdd, Nat.reduceEqDiff, Nat.reduceLT, Nat.reduceLeDiff, Nat.reduceMul, reduceCtorEq, qA]
        have u7 : ρ6 7 = .pointer (some ⟨w3.heap.size, 0, none⟩) := by rw [hf 7 rfl]; simp (disch := omega) only [EO, ↓EP, EQ, EM, ↓reduceIte, Int.reduceAdd, Int.reduceEq, Int.reduceLE, Int.reduceLT, Int.reduceMul, Int.reduceNeg, Int.reducePow, Int.reduceSub, Int.reduceToNat, Nat.reduceAdd, Nat.reduceEqDiff, Nat.reduceLT, Nat.reduceLeDiff, Nat.reduceMul, reduceCtorEq, qW]
        have u8 : ρ6 8 = .int .i64 k := by rw [hf 8 rfl]; simp (disch := omega) only [EO, ↓EP, EQ, EM, ↓reduceIte, Int.reduceAdd, Int.reduceEq, Int.reduceLE, Int.reduceLT, Int.reduceMul, Int.reduceNeg, Int.reducePow, Int.reduceSub, Int.reduceToNat, Nat.reduceAdd, Nat.reduceEqDiff, Nat.reduceLT, Nat.reduceLeDiff, Nat.reduceMul, reduceCtorEq, h6]
        clear hf
        have hl6 : ((rowN (wideWd p) 80 k).set k (wpart p k i)).length = 80 := by rw [List.length_set, hl5]
        by_cases hi8 : (i : Int) < 8
        · obtain ⟨ad, rfl, _, hcl⟩ := (hr.below (esb ▸ b6)).get (by rw [nums_length]; exact hM0)
          have cb : w6.cell? (ad.add (128 * j + 8 * k + i)) = some (.int .u8 (at' p ((8 * k + i : Nat) : Int))) := by
            rw [hcl.numN (j := 128 * j + 8 * k + i) (by omega), ← hpp, part_at (by omega), show j * 128 + (8 * k + i) = 128 * j + 8 * k + i by omega]
          have eb : (128 * (j : Int) + 8 * (k : Int) + (i : Int)).toNat = 128 * j + 8 * k + i := by omega
          have cw : w6.cell? ⟨w3.heap.size, k, none⟩ = some (.int .u64 (wpart p k i)) := by
            rw [hW6.numN (j := k) (by omega), at_setN _ _ _ _ (by omega), if_pos rfl]
          simp (disch := omega) only [EO, ↓EP, EQ, EM, ↓reduceIte, Int.reduceAdd, Int.reduceEq, Int.reduceLE, Int.reduceLT, Int.reduceMul, Int.reduceNeg, Int.reducePow, Int.reduceSub, Int.reduceToNat, Nat.reduceAdd, Nat.reduceEqDiff, Nat.reduceLT, Nat.reduceLeDiff, Nat.reduceMul, reduceCtorEq, u0, u6, u7, u8, h9, eb, cb, cw]
          intro m
          refine st_num (hW6.drewN m) (by omega) fun w7 p7 => ?_
          simp (disch := omega) only [EO, ↓EP, EQ, EM, ↓reduceIte, Int.reduceAdd, Int.reduceEq, Int.reduceLE, Int.reduceLT, Int.reduceMul, Int.reduceNeg, Int.reducePow, Int.reduceSub, Int.reduceToNat, Nat.reduceAdd, Nat.reduceEqDiff, Nat.reduceLT, Nat.reduceLeDiff, Nat.reduceMul, reduceCtorEq, h9]
          rw [List.set_set] at p7
          exact hN6 (8 - (i + 1)) _ _ (by omega) ⟨i + 1, by simp (disch := omega) only [EO, ↓EP, EQ, EM, ↓reduceIte, Int.reduceAdd, Int.reduceEq, Int.reduceLE, Int.reduceLT, Int.reduceMul, Int.reduceNeg, Int.reducePow, Int.reduceSub, Int.reduceToNat, Nat.reduceAdd, Nat.reduceEqDiff, Nat.reduceLT, Nat.reduceLeDiff, Nat.reduceMul, reduceCtorEq, h9, Int.natCast_add], by omega, rfl, p7.keep (by omega) (hK6.drewN m), p7.keep (by omega) (hS6.drewN m), p7.blk, p7.below (by omega) (below_drewN' b6 m)⟩
        · have hi8' : i = 8 := by omega
          subst hi8'
          rw [← wideWd_lo hpb (by omega), rowN_set _ (by omega)] at hW6
          simp (disch := omega) only [EO, ↓EP, EQ, EM, ↓reduceIte, Int.reduceAdd, Int.reduceEq, Int.reduceLE, Int.reduceLT, Int.reduceMul, Int.reduceNeg, Int.reducePow, Int.reduceSub, Int.reduceToNat, Nat.reduceAdd, Nat.reduceEqDiff, Nat.reduceLT, Nat.reduceLeDiff, Nat.reduceMul, reduceCtorEq, h9, u8]
          exact st0 _ w6 (by simp (disch := omega) only [EO, ↓EP, EQ, EM, ↓reduceIte, Int.reduceAdd, Int.reduceEq, Int.reduceLE, Int.reduceLT, Int.reduceMul, Int.reduceNeg, Int.reducePow, Int.reduceSub, Int.reduceToNat, Nat.reduceAdd, Nat.reduceEqDiff, Nat.reduceLT, Nat.reduceLeDiff, Nat.reduceMul, reduceCtorEq, u8, Int.natCast_add]) hK6 hS6 hW6 b6
      · have e2 : ((k : Int) - 2).toNat = k - 2 := by omega
        have e7 : ((k : Int) - 7).toNat = k - 7 := by omega
        have e15 : ((k : Int) - 15).toNat = k - 15 := by omega
        have e16 : ((k : Int) - 16).toNat = k - 16 := by omega
        have g : ∀ i, i < k → w5.cell? ⟨w3.heap.size, i, none⟩ = some (.int .u64 (wideWd p i)) := fun i hi => by rw [hW5.numN (j := i) (by omega), rowN_at _ hi]
        have g2 := g (k - 2) (by omega)
        have g7 := g (k - 7) (by omega)
        have g15 := g (k - 15) (by omega)
        have g16 := g (k - 16) (by omega)
        simp (disch := omega) only [EO, ↓EP, EQ, EM, ↓reduceIte, Int.reduceAdd, Int.reduceEq, Int.reduceLE, Int.reduceLT, Int.reduceMul, Int.reduceNeg, Int.reducePow, Int.reduceSub, Int.reduceToNat, Nat.reduceAdd, Nat.reduceEqDiff, Nat.reduceLT, Nat.reduceLeDiff, Nat.reduceMul, reduceCtorEq, W_join, h6, q0, qS, qA, qW, e2, e15, g2, g15]
        intro m0
        refine turn_q _ 19 (by omega) (by omega) _ _ ?_
        simp (disch := omega) only [EO, ↓EP, EQ, EM, ↓reduceIte, Int.reduceAdd, Int.reduceEq, Int.reduceLE, Int.reduceLT, Int.reduceMul, Int.reduceNeg, Int.reducePow, Int.reduceSub, Int.reduceToNat, Nat.reduceAdd, Nat.reduceEqDiff, Nat.reduceLT, Nat.reduceLeDiff, Nat.reduceMul, reduceCtorEq, h6, qW, e7, e16, g7, g16]
        refine turn_q _ 61 (by omega) (by omega) _ _ ?_
        simp (disch := omega) only [EO, ↓EP, EQ, EM, ↓reduceIte, Int.reduceAdd, Int.reduceEq, Int.reduceLE, Int.reduceLT, Int.reduceMul, Int.reduceNeg, Int.reducePow, Int.reduceSub, Int.reduceToNat, Nat.reduceAdd, Nat.reduceEqDiff, Nat.reduceLT, Nat.reduceLeDiff, Nat.reduceMul, reduceCtorEq, h6, qW, e7, e16, g7, g16]
        refine turn_q _ 1 (by omega) (by omega) _ _ ?_
        simp (disch := omega) only [EO, ↓EP, EQ, EM, ↓reduceIte, Int.reduceAdd, Int.reduceEq, Int.reduceLE, Int.reduceLT, Int.reduceMul, Int.reduceNeg, Int.reducePow, Int.reduceSub, Int.reduceToNat, Nat.reduceAdd, Nat.reduceEqDiff, Nat.reduceLT, Nat.reduceLeDiff, Nat.reduceMul, reduceCtorEq, h6, qW, e7, e16, g7, g16]
        refine turn_q _ 8 (by omega) (by omega) _ _ ?_
        simp (disch := omega) only [EO, ↓EP, EQ, EM, ↓reduceIte, Int.reduceAdd, Int.reduceEq, Int.reduceLE, Int.reduceLT, Int.reduceMul, Int.reduceNeg, Int.reducePow, Int.reduceSub, Int.reduceToNat, Nat.reduceAdd, Nat.reduceEqDiff, Nat.reduceLT, Nat.reduceLeDiff, Nat.reduceMul, reduceCtorEq, h6, qW, e7, e16, g7, g16]
        intro m
        refine st_num (hW5.drewN _) (by omega) fun w6 p6 => ?_
        simp (disch := omega) only [EO, ↓EP, EQ, EM, ↓reduceIte, Int.reduceAdd, Int.reduceEq, Int.reduceLE, Int.reduceLT, Int.reduceMul, Int.reduceNeg, Int.reducePow, Int.reduceSub, Int.reduceToNat, Nat.reduceAdd, Nat.reduceEqDiff, Nat.reduceLT, Nat.reduceLeDiff, Nat.reduceMul, reduceCtorEq, h6]
        refine st _ _ _ ?_ (by simp (disch := omega) only [EO, ↓EP, EQ, EM, ↓reduceIte, Int.reduceAdd, Int.reduceEq, Int.reduceLE, Int.reduceLT, Int.reduceMul, Int.reduceNeg, Int.reducePow, Int.reduceSub, Int.reduceToNat, Nat.reduceAdd, Nat.reduceEqDiff, Nat.reduceLT, Nat.reduceLeDiff, Nat.reduceMul, reduceCtorEq, h6, Int.natCast_add]) w6 p6
        rw [wideWd_hi (t := k) (by omega)]
        rfl
    · have hkR' : k = 80 := by omega
      subst hkR'
      clear hN5
      have hH8 : (runW s M j).length = 8 := runW_len s M hs j
      have g : ∀ i : Nat, i < 8 → w5.cell? ⟨sb, i, none⟩ = some (.int .u64 (at' (runW s M j) (i : Int))) := fun i hi => hS5.numN (j := i) (by omega)
      have a0 := g 0 (by omega)
      have a1 := g 1 (by omega)
      have a2 := g 2 (by omega)
      have a3 := g 3 (by omega)
      have a4 := g 4 (by omega)
      have a5 := g 5 (by omega)
      have a6 := g 6 (by omega)
      have a7 := g 7 (by omega)
      clear g
      simp (disch := omega) only [EO, ↓EP, EQ, EM, ↓reduceIte, Int.reduceAdd, Int.reduceEq, Int.reduceLE, Int.reduceLT, Int.reduceMul, Int.reduceNeg, Int.reducePow, Int.reduceSub, Int.reduceToNat, Nat.reduceAdd, Nat.reduceEqDiff, Nat.reduceLT, Nat.reduceLeDiff, Nat.reduceMul, reduceCtorEq, h6, q0, qS, qA, qW, a0, a1, a2, a3, a4, a5, a6, a7]
      intro m
      refine loop_inv (wideJ w kb sb w3.heap.size (runW s M j) p) 80 ⟨0, by simp (disch := omega) only [EO, ↓EP, EQ, EM, ↓reduceIte, Int.reduceAdd, Int.reduceEq, Int.reduceLE, Int.reduceLT, Int.reduceMul, Int.reduceNeg, Int.reducePow, Int.reduceSub, Int.reduceToNat, Nat.reduceAdd, Nat.reduceEqDiff, Nat.reduceLT, Nat.reduceLeDiff, Nat.reduceMul, reduceCtorEq], by omega, by omega, ?_⟩ ?_
      · simp only [wideInit_00]
        simp (disch := omega) only [EO, ↓EP, EQ, EM, ↓reduceIte, Int.reduceAdd, Int.reduceEq, Int.reduceLE, Int.reduceLT, Int.reduceMul, Int.reduceNeg, Int.reducePow, Int.reduceSub, Int.reduceToNat, Nat.reduceAdd, Nat.reduceEqDiff, Nat.reduceLT, Nat.reduceLeDiff, Nat.reduceMul, reduceCtorEq]
        exact ⟨hK5.drewN m, hS5.drewN m, hW5.drewN m, esb ▸ below_drewN' b5 m⟩
      clear a0 a1 a2 a3 a4 a5 a6 a7 hl5 hp5
      rintro t ρ7 w7 hf ⟨k, h13, hk, rfl, c0, c1, c2, c3, c4, c5, c6, c7, hK7, hS7, hW7, b7⟩ N7 hN7
      have y0 : ρ7 0 = .slice A M.length c := by rw [hf 0 rfl]; simp (disch := omega) only [EO, ↓EP, EQ, EM, ↓reduceIte, Int.reduceAdd, Int.reduceEq, Int.reduceLE, Int.reduceLT, Int.reduceMul, Int.reduceNeg, Int.reducePow, Int.reduceSub, Int.reduceToNat, Nat.reduceAdd, Nat.reduceEqDiff, Nat.reduceLT, Nat.reduceLeDiff, Nat.reduceMul, reduceCtorEq, q0]
      have yS : ρ7 3 = .pointer (some ⟨sb, 0, none⟩) := by rw [hf 3 rfl]; simp (disch := omega) only [EO, ↓EP, EQ, EM, ↓reduceIte, Int.reduceAdd, Int.reduceEq, Int.reduceLE, Int.reduceLT, Int.reduceMul, Int.reduceNeg, Int.reducePow, Int.reduceSub, Int.reduceToNat, Nat.reduceAdd, Nat.reduceEqDiff, Nat.reduceLT, Nat.reduceLeDiff, Nat.reduceMul, reduceCtorEq, qS]
      have yK : ρ7 5 = .pointer (some ⟨kb, 0, none⟩) := by rw [hf 5 rfl]; simp (disch := omega) only [EO, ↓EP, EQ, EM, ↓reduceIte, Int.reduceAdd, Int.reduceEq, Int.reduceLE, Int.reduceLT, Int.reduceMul, Int.reduceNeg, Int.reducePow, Int.reduceSub, Int.reduceToNat, Nat.reduceAdd, Nat.reduceEqDiff, Nat.reduceLT, Nat.reduceLeDiff, Nat.reduceMul, reduceCtorEq, qK]
      have yA : ρ7 6 = .int .i64 (128 * (j : Int)) := by rw [hf 6 rfl]; simp (disch := omega) only [EO, ↓EP, EQ, EM, ↓reduceIte, Int.reduceAdd, Int.reduceEq, Int.reduceLE, Int.reduceLT, Int.reduceMul, Int.reduceNeg, Int.reducePow, Int.reduceSub, Int.reduceToNat, Nat.reduceAdd, Nat.reduceEqDiff, Nat.reduceLT, Nat.reduceLeDiff, Nat.reduceMul, reduceCtorEq, qA]
      have yW : ρ7 7 = .pointer (some ⟨w3.heap.size, 0, none⟩) := by rw [hf 7 rfl]; simp (disch := omega) only [EO, ↓EP, EQ, EM, ↓reduceIte, Int.reduceAdd, Int.reduceEq, Int.reduceLE, Int.reduceLT, Int.reduceMul, Int.reduceNeg, Int.reducePow, Int.reduceSub, Int.reduceToNat, Nat.reduceAdd, Nat.reduceEqDiff, Nat.reduceLT, Nat.reduceLeDiff, Nat.reduceMul, reduceCtorEq, qW]
      clear hf q0 qS qK qA qW
      have hx := wideWd_step (runW s M j) p k
      have hsl := wide_slen (wideInit (runW s M j) p) hH8 k
      generalize hst : rounds wideStep k (wideInit (runW s M j) p) = st at c0 c1 c2 c3 c4 c5 c6 c7 hx hsl
      by_cases hkR : (k : Int) < 80
      · have gk : w7.cell? ⟨w3.heap.size, k, none⟩ = some (.int .u64 (wideWd p k)) := by rw [hW7.numN (j := k) (by rw [rowN_len _ (Nat.le_refl _)]; omega), rowN_at _ (by omega)]
        have gt : w7.cell? ⟨kb, k, none⟩ = some (.int .u64 (at' k512 (k : Int))) := hK7.numN (j := k) (by rw [k512_len]; omega)
        have fin : ∀ (w8 : World) (ρ8 : Env) (x y : Int), wideX k (wideW k st.w) st.s = x → wideY st.s = y → ρ8 20 = .int .i64 ((k + 1 : Nat) : Int) → ρ8 12 = .int .u64 (s64 x y) → ρ8 13 = .int .u64 (at' st.s 0) → ρ8 14 = .int .u64 (at' st.s 1) → ρ8 15 = .int .u64 (at' st.s 2) → ρ8 16 = .int .u64 (s64 (at' st.s 3) x) → ρ8 17 = .int .u64 (at' st.s 4) → ρ8 18 = .int .u64 (at' st.s 5) → ρ8 19 = .int .u64 (at' st.s 6) →
            Blk w8 kb (nums .u64 k512) → Blk w8 sb (nums .u64 (runW s M j)) → Blk w8 w3.heap.size (nums .u64 (rowN (wideWd p) 80 80)) → Below w.heap.size w w8 → endK N7 ρ8 w8 := by
          intro w8 ρ8 x y hx' hy' g1 d0 d1 d2 d3 d4 d5 d6 d7 g7 g8 g9 g10
          refine hN7 (80 - (k + 1)) _ _ (by omega) ⟨k + 1, g1, by omega, rfl, ?_⟩
          rw [rounds, hst, wideStep, hx', hy']
          exact ⟨d0, d1, d2, d3, d4, d5, d6, d7, g7, g8, g9, g10⟩
        clear hN7
        simp (disch := omega) only [EO, ↓EP, EQ, EM, ↓reduceIte, Int.reduceAdd, Int.reduceEq, Int.reduceLE, Int.reduceLT, Int.reduceMul, Int.reduceNeg, Int.reducePow, Int.reduceSub, Int.reduceToNat, Nat.reduceAdd, Nat.reduceEqDiff, Nat.reduceLT, Nat.reduceLeDiff, Nat.reduceMul, reduceCtorEq, W_join, h13, yS, yK, yW, c0, c1, c2, c3, c4, c5, c6, c7, gk, gt]
        refine turn_q _ 14 (by omega) (by omega) _ _ ?_
        simp (disch := omega) only [EO, ↓EP, EQ, EM, ↓reduceIte, Int.reduceAdd, Int.reduceEq, Int.reduceLE, Int.reduceLT, Int.reduceMul, Int.reduceNeg, Int.reducePow, Int.reduceSub, Int.reduceToNat, Nat.reduceAdd, Nat.reduceEqDiff, Nat.reduceLT, Nat.reduceLeDiff, Nat.reduceMul, reduceCtorEq, h13, yS, yK, yW, c0, c1, c2, c3, c4, c5, c6, c7, gk, gt]
        refine turn_q _ 18 (by omega) (by omega) _ _ ?_
        simp (disch := omega) only [EO, ↓EP, EQ, EM, ↓reduceIte, Int.reduceAdd, Int.reduceEq, Int.reduceLE, Int.reduceLT, Int.reduceMul, Int.reduceNeg, Int.reducePow, Int.reduceSub, Int.reduceToNat, Nat.reduceAdd, Nat.reduceEqDiff, Nat.reduceLT, Nat.reduceLeDiff, Nat.reduceMul, reduceCtorEq, h13, yS, yK, yW, c0, c1, c2, c3, c4, c5, c6, c7, gk, gt]
        refine turn_q _ 41 (by omega) (by omega) _ _ ?_
        simp (disch := omega) only [EO, ↓EP, EQ, EM, ↓reduceIte, Int.reduceAdd, Int.reduceEq, Int.reduceLE, Int.reduceLT, Int.reduceMul, Int.reduceNeg, Int.reducePow, Int.reduceSub, Int.reduceToNat, Nat.reduceAdd, Nat.reduceEqDiff, Nat.reduceLT, Nat.reduceLeDiff, Nat.reduceMul, reduceCtorEq, h13, yS, yK, yW, c0, c1, c2, c3, c4, c5, c6, c7, gk, gt]
        intro m1
        refine turn_d _ 28 (by omega) (by omega) _ _ fun m2 => ?_
        simp (disch := omega) only [EO, ↓EP, EQ, EM, ↓reduceIte, Int.reduceAdd, Int.reduceEq, Int.reduceLE, Int.reduceLT, Int.reduceMul, Int.reduceNeg, Int.reducePow, Int.reduceSub, Int.reduceToNat, Nat.reduceAdd, Nat.reduceEqDiff, Nat.reduceLT, Nat.reduceLeDiff, Nat.reduceMul, reduceCtorEq, h13, c0, c1, c2, c3, c4, c5, c6, c7]
        refine turn_d _ 34 (by omega) (by omega) _ _ fun m3 => ?_
        simp (disch := omega) only [EO, ↓EP, EQ, EM, ↓reduceIte, Int.reduceAdd, Int.reduceEq, Int.reduceLE, Int.reduceLT, Int.reduceMul, Int.reduceNeg, Int.reducePow, Int.reduceSub, Int.reduceToNat, Nat.reduceAdd, Nat.reduceEqDiff, Nat.reduceLT, Nat.reduceLeDiff, Nat.reduceMul, reduceCtorEq, h13, c0, c1, c2, c3, c4, c5, c6, c7]
        refine turn_d _ 39 (by omega) (by omega) _ _ fun m4 => ?_
        simp (disch := omega) only [EO, ↓EP, EQ, EM, ↓reduceIte, Int.reduceAdd, Int.reduceEq, Int.reduceLE, Int.reduceLT, Int.reduceMul, Int.reduceNeg, Int.reducePow, Int.reduceSub, Int.reduceToNat, Nat.reduceAdd, Nat.reduceEqDiff, Nat.reduceLT, Nat.reduceLeDiff, Nat.reduceMul, reduceCtorEq, h13, c0, c1, c2, c3, c4, c5, c6, c7]
        refine fin _ _ _ _ ?_ ?_ (by simp (disch := omega) only [EO, ↓EP, EQ, EM, ↓reduceIte, Int.reduceAdd, Int.reduceEq, Int.reduceLE, Int.reduceLT, Int.reduceMul, Int.reduceNeg, Int.reducePow, Int.reduceSub, Int.reduceToNat, Nat.reduceAdd, Nat.reduceEqDiff, Nat.reduceLT, Nat.reduceLeDiff, Nat.reduceMul, reduceCtorEq, h13, Int.natCast_add]) (by simp (disch := omega) only [EO, ↓EP, EQ, EM, ↓reduceIte, Int.reduceAdd, Int.reduceEq, Int.reduceLE, Int.reduceLT, Int.reduceMul, Int.reduceNeg, Int.reducePow, Int.reduceSub, Int.reduceToNat, Nat.reduceAdd, Nat.reduceEqDiff, Nat.reduceLT, Nat.reduceLeDiff, Nat.reduceMul, reduceCtorEq]; rfl) (by simp (disch := omega) only [EO, ↓EP, EQ, EM, ↓reduceIte, Int.reduceAdd, Int.reduceEq, Int.reduceLE, Int.reduceLT, Int.reduceMul, Int.reduceNeg, Int.reducePow, Int.reduceSub, Int.reduceToNat, Nat.reduceAdd, Nat.reduceEqDiff, Nat.reduceLT, Nat.reduceLeDiff, Nat.reduceMul, reduceCtorEq, c0]) (by simp (disch := omega) only [EO, ↓EP, EQ, EM, ↓reduceIte, Int.reduceAdd, Int.reduceEq, Int.reduceLE, Int.reduceLT, Int.reduceMul, Int.reduceNeg, Int.reducePow, Int.reduceSub, Int.reduceToNat, Nat.reduceAdd, Nat.reduceEqDiff, Nat.reduceLT, Nat.reduceLeDiff, Nat.reduceMul, reduceCtorEq, c1]) (by simp (disch := omega) only [EO, ↓EP, EQ, EM, ↓reduceIte, Int.reduceAdd, Int.reduceEq, Int.reduceLE, Int.reduceLT, Int.reduceMul, Int.reduceNeg, Int.reducePow, Int.reduceSub, Int.reduceToNat, Nat.reduceAdd, Nat.reduceEqDiff, Nat.reduceLT, Nat.reduceLeDiff, Nat.reduceMul, reduceCtorEq, c2]) (by simp (disch := omega) only [EO, ↓EP, EQ, EM, ↓reduceIte, Int.reduceAdd, Int.reduceEq, Int.reduceLE, Int.reduceLT, Int.reduceMul, Int.reduceNeg, Int.reducePow, Int.reduceSub, Int.reduceToNat, Nat.reduceAdd, Nat.reduceEqDiff, Nat.reduceLT, Nat.reduceLeDiff, Nat.reduceMul, reduceCtorEq, c3]; rfl) (by simp (disch := omega) only [EO, ↓EP, EQ, EM, ↓reduceIte, Int.reduceAdd, Int.reduceEq, Int.reduceLE, Int.reduceLT, Int.reduceMul, Int.reduceNeg, Int.reducePow, Int.reduceSub, Int.reduceToNat, Nat.reduceAdd, Nat.reduceEqDiff, Nat.reduceLT, Nat.reduceLeDiff, Nat.reduceMul, reduceCtorEq, c4]) (by simp (disch := omega) only [EO, ↓EP, EQ, EM, ↓reduceIte, Int.reduceAdd, Int.reduceEq, Int.reduceLE, Int.reduceLT, Int.reduceMul, Int.reduceNeg, Int.reducePow, Int.reduceSub, Int.reduceToNat, Nat.reduceAdd, Nat.reduceEqDiff, Nat.reduceLT, Nat.reduceLeDiff, Nat.reduceMul, reduceCtorEq, c5]) (by simp (disch := omega) only [EO, ↓EP, EQ, EM, ↓reduceIte, Int.reduceAdd, Int.reduceEq, Int.reduceLE, Int.reduceLT, Int.reduceMul, Int.reduceNeg, Int.reducePow, Int.reduceSub, Int.reduceToNat, Nat.reduceAdd, Nat.reduceEqDiff, Nat.reduceLT, Nat.reduceLeDiff, Nat.reduceMul, reduceCtorEq, c6]) (hK7.drewN _) (hS7.drewN _) (hW7.drewN _) (below_drewN' b7 _)
        · rw [wideX, hx, not_u64, chx64]
          rfl
        · rw [wideY, majx64]
          rfl
      · have hkR' : k = 80 := by omega
        subst hkR'
        clear hN7
        have g : ∀ i : Nat, i < 8 → w7.cell? ⟨sb, i, none⟩ = some (.int .u64 (at' (runW s M j) (i : Int))) := fun i hi => hS7.numN (j := i) (by omega)
        have a0 := g 0 (by omega)
        have a1 := g 1 (by omega)
        have a2 := g 2 (by omega)
        have a3 := g 3 (by omega)
        have a4 := g 4 (by omega)
        have a5 := g 5 (by omega)
        have a6 := g 6 (by omega)
        have a7 := g 7 (by omega)
        clear g
        simp (disch := omega) only [EO, ↓EP, EQ, EM, ↓reduceIte, Int.reduceAdd, Int.reduceEq, Int.reduceLE, Int.reduceLT, Int.reduceMul, Int.reduceNeg, Int.reducePow, Int.reduceSub, Int.reduceToNat, Nat.reduceAdd, Nat.reduceEqDiff, Nat.reduceLT, Nat.reduceLeDiff, Nat.reduceMul, reduceCtorEq, h13, y0, yS, yA, yW, c0, c1, c2, c3, c4, c5, c6, c7, a0, a1, a2, a3, a4, a5, a6, a7]
        refine ⟨_, fill8 _ _ _ _ _ _ _ _ _, ?_⟩
        simp (disch := omega) only [EO, ↓EP, EQ, EM, ↓reduceIte, Int.reduceAdd, Int.reduceEq, Int.reduceLE, Int.reduceLT, Int.reduceMul, Int.reduceNeg, Int.reducePow, Int.reduceSub, Int.reduceToNat, Nat.reduceAdd, Nat.reduceEqDiff, Nat.reduceLT, Nat.reduceLeDiff, Nat.reduceMul, reduceCtorEq, y0, yS, yA]
        refine st_whole hS7 (by rw [nums_length]; rfl) (by rw [nums_length, hH8]) (nums_one _ _) fun w8 p8 => ?_
        simp (disch := omega) only [EO, ↓EP, EQ, EM, ↓reduceIte, Int.reduceAdd, Int.reduceEq, Int.reduceLE, Int.reduceLT, Int.reduceMul, Int.reduceNeg, Int.reducePow, Int.reduceSub, Int.reduceToNat, Nat.reduceAdd, Nat.reduceEqDiff, Nat.reduceLT, Nat.reduceLeDiff, Nat.reduceMul, reduceCtorEq, yA]
        refine hN (M.length - 128 * (j + 1)) _ _ (by omega) ⟨j + 1, by simp (disch := omega) only [EO, ↓EP, EQ, EM, ↓reduceIte, Int.reduceAdd, Int.reduceEq, Int.reduceLE, Int.reduceLT, Int.reduceMul, Int.reduceNeg, Int.reducePow, Int.reduceSub, Int.reduceToNat, Nat.reduceAdd, Nat.reduceEqDiff, Nat.reduceLT, Nat.reduceLeDiff, Nat.reduceMul, reduceCtorEq, yA]; congr 1, by omega, rfl, p8.keep (by omega) hK7, ?_, ?_⟩
        · have e := runW_succ s M j
          rw [hpp] at e
          rw [e, wide, wide_all _ _ hH8 (by rw [hst]; exact hsl), hst]
          exact p8.blk
        · exact esb ▸ p8.below (by omega) b7
  · have hje : M.length / 128 = j := by omega
    simp (disch := omega) only [EO, ↓EP, EQ, EM, ↓reduceIte, Int.reduceAdd, Int.reduceEq, Int.reduceLE, Int.reduceLT, Int.reduceMul, Int.reduceNeg, Int.reducePow, Int.reduceSub, Int.reduceToNat, Nat.reduceAdd, Nat.reduceEqDiff, Nat.reduceLT, Nat.reduceLeDiff, Nat.reduceMul, reduceCtorEq, h4, r0, rS]
    clear hN
    rw [hje] at hK
    have hH8 : (runW s M j).length = 8 := runW_len s M hs j
    have f3 : Fr w w3 nob := fr_of b3 esb
    refine loop_inv (fun t ρ w' => ∃ (i : Nat) (O : Value), ρ 24 = .int .i64 i ∧ ρ 23 = O ∧ i ≤ 8 ∧ t = 8 - i ∧ Gw .u8 w3 w' O ((List.range i).flatMap fun (i : Nat) => v8 (at' (runW s M j) (i : Int)))) 8 ⟨0, .slice none 0 0, by simp (disch := omega) only [EO, ↓EP, EQ, EM, ↓reduceIte, Int.reduceAdd, Int.reduceEq, Int.reduceLE, Int.reduceLT, Int.reduceMul, Int.reduceNeg, Int.reducePow, Int.reduceSub, Int.reduceToNat, Nat.reduceAdd, Nat.reduceEqDiff, Nat.reduceLT, Nat.reduceLeDiff, Nat.reduceMul, reduceCtorEq], by simp (disch := omega) only [EO, ↓EP, EQ, EM, ↓reduceIte, Int.reduceAdd, Int.reduceEq, Int.reduceLE, Int.reduceLT, Int.reduceMul, Int.reduceNeg, Int.reducePow, Int.reduceSub, Int.reduceToNat, Nat.reduceAdd, Nat.reduceEqDiff, Nat.reduceLT, Nat.reduceLeDiff, Nat.reduceMul, reduceCtorEq], by omega, by omega, Gw.nil _ _⟩ ?_
    rintro t ρ8 w8 hf ⟨i, O, h18, h17, hi, rfl, G⟩ N hN
    have q3 : ρ8 3 = .pointer (some ⟨sb, 0, none⟩) := by rw [hf 3 rfl]; simp (disch := omega) only [EO, ↓EP, EQ, EM, ↓reduceIte, Int.reduceAdd, Int.reduceEq, Int.reduceLE, Int.reduceLT, Int.reduceMul, Int.reduceNeg, Int.reducePow, Int.reduceSub, Int.reduceToNat, Nat.reduceAdd, Nat.reduceEqDiff, Nat.reduceLT, Nat.reduceLeDiff, Nat.reduceMul, reduceCtorEq, rS]
    clear hf
    have hgl := flat_len (f := fun (i : Nat) => v8 (at' (runW s M j) (i : Int))) (n := 8) (fun _ => by simp [v8]) i
    by_cases hi5 : (i : Int) < 8
    · simp (disch := omega) only [EO, ↓EP, EQ, EM, ↓reduceIte, Int.reduceAdd, Int.reduceEq, Int.reduceLE, Int.reduceLT, Int.reduceMul, Int.reduceNeg, Int.reducePow, Int.reduceSub, Int.reduceToNat, Nat.reduceAdd, Nat.reduceEqDiff, Nat.reduceLT, Nat.reduceLeDiff, Nat.reduceMul, reduceCtorEq, h18, h17, q3]
      refine loop_inv (fun t ρ w' => ∃ (k : Nat) (O : Value), ρ 25 = .int .i64 (56 - 8 * (k : Int)) ∧ ρ 23 = O ∧ k ≤ 8 ∧ t = 8 - k ∧ Gw .u8 w3 w' O (((List.range i).flatMap fun (i : Nat) => v8 (at' (runW s M j) (i : Int))) ++ (List.range k).map fun k => IntKind.u8.wrap ((at' (runW s M j) (i : Int)).fdiv (2 ^ (56 - 8 * k))))) 8 ⟨0, O, by simp (disch := omega) only [EO, ↓EP, EQ, EM, ↓reduceIte, Int.reduceAdd, Int.reduceEq, Int.reduceLE, Int.reduceLT, Int.reduceMul, Int.reduceNeg, Int.reducePow, Int.reduceSub, Int.reduceToNat, Nat.reduceAdd, Nat.reduceEqDiff, Nat.reduceLT, Nat.reduceLeDiff, Nat.reduceMul, reduceCtorEq], by simp (disch := omega) only [EO, ↓EP, EQ, EM, ↓reduceIte, Int.reduceAdd, Int.reduceEq, Int.reduceLE, Int.reduceLT, Int.reduceMul, Int.reduceNeg, Int.reducePow, Int.reduceSub, Int.reduceToNat, Nat.reduceAdd, Nat.reduceEqDiff, Nat.reduceLT, Nat.reduceLeDiff, Nat.reduceMul, reduceCtorEq, h17], by omega, by omega, by simpa using G⟩ ?_
      clear G
      rintro t ρ9 w9 hf ⟨k, O', h25, h23, hk, rfl, G⟩ N' hN'
      have u3 : ρ9 3 = .pointer (some ⟨sb, 0, none⟩) := by rw [hf 3 rfl]; simp (disch := omega) only [EO, ↓EP, EQ, EM, ↓reduceIte, Int.reduceAdd, Int.reduceEq, Int.reduceLE, Int.reduceLT, Int.reduceMul, Int.reduceNeg, Int.reducePow, Int.reduceSub, Int.reduceToNat, Nat.reduceAdd, Nat.reduceEqDiff, Nat.reduceLT, Nat.reduceLeDiff, Nat.reduceMul, reduceCtorEq, q3]
      have u24 : ρ9 24 = .int .i64 i := by rw [hf 24 rfl]; simp (disch := omega) only [EO, ↓EP, EQ, EM, ↓reduceIte, Int.reduceAdd, Int.reduceEq, Int.reduceLE, Int.reduceLT, Int.reduceMul, Int.reduceNeg, Int.reducePow, Int.reduceSub, Int.reduceToNat, Nat.reduceAdd, Nat.reduceEqDiff, Nat.reduceLT, Nat.reduceLeDiff, Nat.reduceMul, reduceCtorEq, h18]
      clear hf
      by_cases hk8 : (0 : Int) ≤ 56 - 8 * (k : Int)
      · have hcw : w9.cell? ⟨sb, i, none⟩ = some (.int .u64 (at' (runW s M j) (i : Int))) := (hSb.nb G.fr).numN (j := i) (by omega)
        have e2 : min (56 - 8 * (k : Int)).toNat 64 = 56 - 8 * k := by omega
        simp (disch := omega) only [EO, ↓EP, EQ, EM, ↓reduceIte, Int.reduceAdd, Int.reduceEq, Int.reduceLE, Int.reduceLT, Int.reduceMul, Int.reduceNeg, Int.reducePow, Int.reduceSub, Int.reduceToNat, Nat.reduceAdd, Nat.reduceEqDiff, Nat.reduceLT, Nat.reduceLeDiff, Nat.reduceMul, reduceCtorEq, h25, h23, u3, u24, hcw, e2]
        refine bsl1 fun w10 n10 => ?_
        have G1 := G.new n10
        simp (disch := omega) only [EO, ↓EP, EQ, EM, ↓reduceIte, Int.reduceAdd, Int.reduceEq, Int.reduceLE, Int.reduceLT, Int.reduceMul, Int.reduceNeg, Int.reducePow, Int.reduceSub, Int.reduceToNat, Nat.reduceAdd, Nat.reduceEqDiff, Nat.reduceLT, Nat.reduceLeDiff, Nat.reduceMul, reduceCtorEq, h23]
        refine app_num G1.sl rfl n10.rdl (by rw [List.length_append, hgl]; simp only [List.length_cons, List.length_nil, List.length_map, List.length_range]; omega) (by omega) fun v11 w11 a11 => ?_
        have G2 := G1.apd a11
        simp (disch := omega) only [EO, ↓EP, EQ, EM, ↓reduceIte, Int.reduceAdd, Int.reduceEq, Int.reduceLE, Int.reduceLT, Int.reduceMul, Int.reduceNeg, Int.reducePow, Int.reduceSub, Int.reduceToNat, Nat.reduceAdd, Nat.reduceEqDiff, Nat.reduceLT, Nat.reduceLeDiff, Nat.reduceMul, reduceCtorEq, h25]
        refine hN' (8 - (k + 1)) _ _ (by omega) ⟨k + 1, v11, by simp (disch := omega) only [EO, ↓EP, EQ, EM, ↓reduceIte, Int.reduceAdd, Int.reduceEq, Int.reduceLE, Int.reduceLT, Int.reduceMul, Int.reduceNeg, Int.reducePow, Int.reduceSub, Int.reduceToNat, Nat.reduceAdd, Nat.reduceEqDiff, Nat.reduceLT, Nat.reduceLeDiff, Nat.reduceMul, reduceCtorEq, h25]; congr 1; omega, by simp (disch := omega) only [EO, ↓EP, EQ, EM, ↓reduceIte, Int.reduceAdd, Int.reduceEq, Int.reduceLE, Int.reduceLT, Int.reduceMul, Int.reduceNeg, Int.reducePow, Int.reduceSub, Int.reduceToNat, Nat.reduceAdd, Nat.reduceEqDiff, Nat.reduceLT, Nat.reduceLeDiff, Nat.reduceMul, reduceCtorEq], by omega, rfl, ?_⟩
        rw [map_succ, ← List.append_assoc]
        exact G2
      · have hke : k = 8 := by omega
        subst hke
        simp (disch := omega) only [EO, ↓EP, EQ, EM, ↓reduceIte, Int.reduceAdd, Int.reduceEq, Int.reduceLE, Int.reduceLT, Int.reduceMul, Int.reduceNeg, Int.reducePow, Int.reduceSub, Int.reduceToNat, Nat.reduceAdd, Nat.reduceEqDiff, Nat.reduceLT, Nat.reduceLeDiff, Nat.reduceMul, reduceCtorEq, h25, h23, u24]
        refine hN (8 - (i + 1)) _ _ (by omega) ⟨i + 1, O', by simp (disch := omega) only [EO, ↓EP, EQ, EM, ↓reduceIte, Int.reduceAdd, Int.reduceEq, Int.reduceLE, Int.reduceLT, Int.reduceMul, Int.reduceNeg, Int.reducePow, Int.reduceSub, Int.reduceToNat, Nat.reduceAdd, Nat.reduceEqDiff, Nat.reduceLT, Nat.reduceLeDiff, Nat.reduceMul, reduceCtorEq, u24, Int.natCast_add], by simp (disch := omega) only [EO, ↓EP, EQ, EM, ↓reduceIte, Int.reduceAdd, Int.reduceEq, Int.reduceLE, Int.reduceLT, Int.reduceMul, Int.reduceNeg, Int.reducePow, Int.reduceSub, Int.reduceToNat, Nat.reduceAdd, Nat.reduceEqDiff, Nat.reduceLT, Nat.reduceLeDiff, Nat.reduceMul, reduceCtorEq, h23], by omega, rfl, ?_⟩
        rw [flat_succ]
        exact G
    · have hie : i = 8 := by omega
      subst hie
      simp (disch := omega) only [EO, ↓EP, EQ, EM, ↓reduceIte, Int.reduceAdd, Int.reduceEq, Int.reduceLE, Int.reduceLT, Int.reduceMul, Int.reduceNeg, Int.reducePow, Int.reduceSub, Int.reduceToNat, Nat.reduceAdd, Nat.reduceEqDiff, Nat.reduceLT, Nat.reduceLeDiff, Nat.reduceMul, reduceCtorEq, h18, h17]
      exact hK O w8 (G.from f3)
end Go.Proofs.YtcgplgpdcfocpaaDoor.Spec
end
section
set_option linter.unusedVariables false
set_option linter.unusedSimpArgs false
namespace Go.Proofs.YtcgplgpdcfocpaaDoor.Spec
open Go Go.RowKit Go.Proofs Go.Proofs.YtcgplgpdcfocpaaDoor.Eng Go.Proofs.YtcgplgpdcfocpaaDoor.Code
set_option maxRecDepth 100000
attribute [local irreducible] callK S.W opsW scrW one
theorem part_skip {bs q : Nat} {P T : List Int} (hP : P.length = q * bs) (j : Nat) : part bs (P ++ T) (q + j) = part bs T j := by
  unfold part
  rw [Nat.add_mul, ← hP, ← List.drop_drop, List.drop_left]
theorem runN_skip {alg : Int} {q : Nat} {P T : List Int} (hP : P.length = q * blockI alg) : ∀ j, runN alg (P ++ T) (q + j) = rounds (fun j s => mix alg s (part (blockI alg) T j)) j (runN alg P q)
  | 0 => by rw [Nat.add_zero, runN_app (by omega)]; rfl
  | j + 1 => by
    rw [← Nat.add_assoc, runN_succ, runN_skip hP j, rounds, part_skip hP]
theorem fill_tail {alg : Int} (a1 : 1 ≤ alg) (a4 : alg ≤ 4) (m : List Int) : fillF (blockI alg) m = m.take (m.length / blockI alg * blockI alg) ++ tailF alg m := by
  have hl : (rest alg m).length = m.length % blockI alg := by
    rw [rest_len a1 a4]
    have := Nat.div_add_mod m.length (blockI alg)
    rw [Nat.mul_comm] at this
    omega
  rw [tailF, hl, fillF, zT, rest]
  simp only [← List.append_assoc, List.take_append_drop, ← List.replicate_append_replicate]
theorem last_fill {alg : Int} (a1 : 1 ≤ alg) (a4 : alg ≤ 4) (m : List Int) : last alg m = runN alg (fillF (blockI alg) m) ((fillF (blockI alg) m).length / blockI alg) := by
  obtain ⟨d1, d2⟩ := div_facts a1 a4 m
  have hb := blockI_or a1 a4
  have hP : (m.take (m.length / blockI alg * blockI alg)).length = m.length / blockI alg * blockI alg := by simp; omega
  have hlen : (fillF (blockI alg) m).length / blockI alg = m.length / blockI alg + (tailF alg m).length / blockI alg := by
    rw [fill_tail a1 a4, List.length_append, hP, Nat.add_comm, Nat.add_mul_div_right _ _ (by omega), Nat.add_comm]
  rw [hlen, fill_tail a1 a4, runN_skip hP, last]
  have e : runN alg (m.take (m.length / blockI alg * blockI alg)) (m.length / blockI alg) = run alg m := by
    have h := runN_app (alg := alg) (m := m.take (m.length / blockI alg * blockI alg)) (p := m.drop (m.length / blockI alg * blockI alg)) (j := m.length / blockI alg) (by omega)
    rw [List.take_append_drop] at h
    rw [← h]; rfl
  rw [e]
theorem runN_wide {alg : Int} (h : alg = 3 ∨ alg = 4) (M : List Int) : ∀ j, (runN alg M j).2 = runW (st0 alg).2 M j
  | 0 => rfl
  | j + 1 => by
    have e : blockI alg = 128 := by rcases h with rfl | rfl <;> rfl
    rw [runN_succ, runW_succ, ← runN_wide h M j, mix, if_neg (by omega), if_neg (by omega), e]
theorem byteL_fill {bs : Nat} {m : List Int} (h : ∀ x ∈ m, 0 ≤ x ∧ x < 256) : byteL (fillF bs m) := by
  have h' : ∀ x ∈ fillF bs m, 0 ≤ x ∧ x < 256 := by
    intro x hx
    simp only [fillF, List.mem_append, List.mem_map, List.mem_replicate, List.mem_cons, List.not_mem_nil, or_false] at hx
    rcases hx with ((hx | rfl) | hx) | ⟨i, _, rfl⟩
    · exact h x hx
    · omega
    · omega
    · unfold lenB; rw [wu8_mod]; omega
  intro i
  rw [at_nat', List.getD_eq_getElem?_getD]
  cases e : (fillF bs m)[i]? with
  | none => simp
  | some x => exact h' x (List.mem_of_getElem? e)
theorem flat_head (f : Nat → List Int) {n : Nat} (h : ∀ i, (f i).length = n) {a : Nat} (b : Nat) : ((List.range (a + b)).flatMap f).take (a * n) = (List.range a).flatMap f := by
  induction b with
  | zero => rw [Nat.add_zero, List.take_of_length_le (by rw [flat_len h]; omega)]
  | succ b ih =>
    rw [← Nat.add_assoc, flat_succ, List.take_append_of_le_length (by rw [flat_len h, Nat.add_mul]; omega), ih]
set_option maxHeartbeats 1000000 in
theorem rdigest_vw {w : World} {v : Value} {m : List Int} {alg : Int} (a1 : 1 ≤ alg) (a4 : alg ≤ 4) (hv : Vw .u8 w v m) (hm : m.length ≤ 16777216) (hb : ∀ x ∈ m, 0 ≤ x ∧ x < 256) (K : Value → World → Prop)
    (hK : ∀ v' w', Gw .u8 w w' v' (dig alg m) → K v' w') : callK Tryd.prog 30 [.int .i64 alg, v] w K := by
  refine call_of Tryd.func30 Code.h30 (by simp [Code.c30]) ?_
  have hl := last_fill a1 a4 m
  have hF := fill_len (blockI_or a1 a4) m
  have hbl := byteL_fill (bs := blockI alg) hb
  have c : alg = 1 ∨ alg = 2 ∨ alg = 3 ∨ alg = 4 := by omega
  rcases c with rfl | rfl | rfl | rfl
  · rw [show blockI 1 = 64 by rfl] at hF hbl
    simp (disch := omega) only [EO, ↓EP, EQ, EM, ↓reduceIte, Int.reduceAdd, Int.reduceEq, Int.reduceLE, Int.reduceLT, Int.reduceMul, Int.reduceNeg, Int.reducePow, Int.reduceSub, Int.reduceToNat, Nat.reduceAdd, Nat.reduceEqDiff, Nat.reduceLT, Nat.reduceLeDiff, Nat.reduceMul, reduceCtorEq, W_join, Code.c30]
    refine filled_vw (bs := 64) hv (.inl rfl) hm _ fun v1 w1 g1 => ?_
    simp (disch := omega) only [EO, ↓EP, EQ, EM, ↓reduceIte, Int.reduceAdd, Int.reduceEq, Int.reduceLE, Int.reduceLT, Int.reduceMul, Int.reduceNeg, Int.reducePow, Int.reduceSub, Int.reduceToNat, Nat.reduceAdd, Nat.reduceEqDiff, Nat.reduceLT, Nat.reduceLeDiff, Nat.reduceMul, reduceCtorEq]
    refine sha1_vw g1.vw hF.1 (by omega) hbl _ fun v2 w2 g2 => ?_
    simp (disch := omega) only [EO, ↓EP, EQ, EM, ↓reduceIte, Int.reduceAdd, Int.reduceEq, Int.reduceLE, Int.reduceLT, Int.reduceMul, Int.reduceNeg, Int.reducePow, Int.reduceSub, Int.reduceToNat, Nat.reduceAdd, Nat.reduceEqDiff, Nat.reduceLT, Nat.reduceLeDiff, Nat.reduceMul, reduceCtorEq]
    refine hK v2 w2 ?_
    have e : dig 1 m = (List.range 5).flatMap fun (i : Nat) => w4 (at' (runN 1 (fillF 64 m) ((fillF 64 m).length / 64)).1 (i : Int)) := by
      rw [dig, hl, outF, if_pos (by rfl)]
      exact flat_head (fun (i : Nat) => w4 (at' (runN 1 (fillF 64 m) ((fillF 64 m).length / 64)).1 (i : Int))) (n := 4) (fun _ => rfl) (a := 5) 3
    rw [e]
    exact g2.from g1.fr
  · rw [show blockI 2 = 64 by rfl] at hF hbl
    simp (disch := omega) only [EO, ↓EP, EQ, EM, ↓reduceIte, Int.reduceAdd, Int.reduceEq, Int.reduceLE, Int.reduceLT, Int.reduceMul, Int.reduceNeg, Int.reducePow, Int.reduceSub, Int.reduceToNat, Nat.reduceAdd, Nat.reduceEqDiff, Nat.reduceLT, Nat.reduceLeDiff, Nat.reduceMul, reduceCtorEq, W_join, Code.c30]
    refine filled_vw (bs := 64) hv (.inl rfl) hm _ fun v1 w1 g1 => ?_
    simp (disch := omega) only [EO, ↓EP, EQ, EM, ↓reduceIte, Int.reduceAdd, Int.reduceEq, Int.reduceLE, Int.reduceLT, Int.reduceMul, Int.reduceNeg, Int.reducePow, Int.reduceSub, Int.reduceToNat, Nat.reduceAdd, Nat.reduceEqDiff, Nat.reduceLT, Nat.reduceLeDiff, Nat.reduceMul, reduceCtorEq]
    refine sha256_vw g1.vw hF.1 (by omega) hbl _ fun v2 w2 g2 => ?_
    simp (disch := omega) only [EO, ↓EP, EQ, EM, ↓reduceIte, Int.reduceAdd, Int.reduceEq, Int.reduceLE, Int.reduceLT, Int.reduceMul, Int.reduceNeg, Int.reducePow, Int.reduceSub, Int.reduceToNat, Nat.reduceAdd, Nat.reduceEqDiff, Nat.reduceLT, Nat.reduceLeDiff, Nat.reduceMul, reduceCtorEq]
    refine hK v2 w2 ?_
    have e : dig 2 m = (List.range 8).flatMap fun (i : Nat) => w4 (at' (runN 2 (fillF 64 m) ((fillF 64 m).length / 64)).1 (i : Int)) := by
      rw [dig, hl, outF, if_pos (by rfl)]
      exact flat_head (fun (i : Nat) => w4 (at' (runN 2 (fillF 64 m) ((fillF 64 m).length / 64)).1 (i : Int))) (n := 4) (fun _ => rfl) (a := 8) 0
    rw [e]
    exact g2.from g1.fr
  · rw [show blockI 3 = 128 by rfl] at hF hbl
    simp (disch := omega) only [EO, ↓EP, EQ, EM, ↓reduceIte, Int.reduceAdd, Int.reduceEq, Int.reduceLE, Int.reduceLT, Int.reduceMul, Int.reduceNeg, Int.reducePow, Int.reduceSub, Int.reduceToNat, Nat.reduceAdd, Nat.reduceEqDiff, Nat.reduceLT, Nat.reduceLeDiff, Nat.reduceMul, reduceCtorEq, W_join, Code.c30]
    refine filled_vw (bs := 128) hv (.inr rfl) hm _ fun v1 w1 g1 => ?_
    simp (disch := omega) only [EO, ↓EP, EQ, EM, ↓reduceIte, Int.reduceAdd, Int.reduceEq, Int.reduceLE, Int.reduceLT, Int.reduceMul, Int.reduceNeg, Int.reducePow, Int.reduceSub, Int.reduceToNat, Nat.reduceAdd, Nat.reduceEqDiff, Nat.reduceLT, Nat.reduceLeDiff, Nat.reduceMul, reduceCtorEq]
    refine ⟨_, fill8 _ _ _ _ _ _ _ _ _, ?_⟩
    simp (disch := omega) only [EO, ↓EP, EQ, EM, ↓reduceIte, Int.reduceAdd, Int.reduceEq, Int.reduceLE, Int.reduceLT, Int.reduceMul, Int.reduceNeg, Int.reducePow, Int.reduceSub, Int.reduceToNat, Nat.reduceAdd, Nat.reduceEqDiff, Nat.reduceLT, Nat.reduceLeDiff, Nat.reduceMul, reduceCtorEq]
    refine sha512_vw (s := (st0 3).2) g1.vw rfl hF.1 (by omega) hbl _ fun v2 w2 g2 => ?_
    have e : dig 3 m = ((List.range 8).flatMap fun (i : Nat) => v8 (at' (runW (st0 3).2 (fillF 128 m) ((fillF 128 m).length / 128)) (i : Int))).take 48 := by
      rw [dig, hl, outF, if_neg (by decide), runN_wide (.inl rfl)]; rfl
    have hl8 := flat_len (f := fun (i : Nat) => v8 (at' (runW (st0 3).2 (fillF 128 m) ((fillF 128 m).length / 128)) (i : Int))) (n := 8) (fun _ => by simp [v8]) 8
    generalize (List.range 8).flatMap (fun (i : Nat) => v8 (at' (runW (st0 3).2 (fillF 128 m) ((fillF 128 m).length / 128)) (i : Int))) = L at g2 e hl8
    obtain ⟨A2, c2, rfl, hc2, hR2⟩ := readn g2.sl hl8
    simp (disch := omega) only [EO, ↓EP, EQ, EM, ↓reduceIte, Int.reduceAdd, Int.reduceEq, Int.reduceLE, Int.reduceLT, Int.reduceMul, Int.reduceNeg, Int.reducePow, Int.reduceSub, Int.reduceToNat, Nat.reduceAdd, Nat.reduceEqDiff, Nat.reduceLT, Nat.reduceLeDiff, Nat.reduceMul, reduceCtorEq]
    refine hK _ w2 ?_
    rw [e]
    exact ⟨g2.sl.cut (by omega) (by omega), fun b h => Nat.le_trans g1.fr.size (g2.up b (by cases A2 with | none => cases h | some p => exact h)), g1.fr.nb g2.fr⟩
  · rw [show blockI 4 = 128 by rfl] at hF hbl
    simp (disch := omega) only [EO, ↓EP, EQ, EM, ↓reduceIte, Int.reduceAdd, Int.reduceEq, Int.reduceLE, Int.reduceLT, Int.reduceMul, Int.reduceNeg, Int.reducePow, Int.reduceSub, Int.reduceToNat, Nat.reduceAdd, Nat.reduceEqDiff, Nat.reduceLT, Nat.reduceLeDiff, Nat.reduceMul, reduceCtorEq, W_join, Code.c30]
    refine filled_vw (bs := 128) hv (.inr rfl) hm _ fun v1 w1 g1 => ?_
    simp (disch := omega) only [EO, ↓EP, EQ, EM, ↓reduceIte, Int.reduceAdd, Int.reduceEq, Int.reduceLE, Int.reduceLT, Int.reduceMul, Int.reduceNeg, Int.reducePow, Int.reduceSub, Int.reduceToNat, Nat.reduceAdd, Nat.reduceEqDiff, Nat.reduceLT, Nat.reduceLeDiff, Nat.reduceMul, reduceCtorEq]
    refine ⟨_, fill8 _ _ _ _ _ _ _ _ _, ?_⟩
    simp (disch := omega) only [EO, ↓EP, EQ, EM, ↓reduceIte, Int.reduceAdd, Int.reduceEq, Int.reduceLE, Int.reduceLT, Int.reduceMul, Int.reduceNeg, Int.reducePow, Int.reduceSub, Int.reduceToNat, Nat.reduceAdd, Nat.reduceEqDiff, Nat.reduceLT, Nat.reduceLeDiff, Nat.reduceMul, reduceCtorEq]
    refine sha512_vw (s := (st0 4).2) g1.vw rfl hF.1 (by omega) hbl _ fun v2 w2 g2 => ?_
    simp (disch := omega) only [EO, ↓EP, EQ, EM, ↓reduceIte, Int.reduceAdd, Int.reduceEq, Int.reduceLE, Int.reduceLT, Int.reduceMul, Int.reduceNeg, Int.reducePow, Int.reduceSub, Int.reduceToNat, Nat.reduceAdd, Nat.reduceEqDiff, Nat.reduceLT, Nat.reduceLeDiff, Nat.reduceMul, reduceCtorEq]
    refine hK v2 w2 ?_
    have e : dig 4 m = (List.range 8).flatMap fun (i : Nat) => v8 (at' (runW (st0 4).2 (fillF 128 m) ((fillF 128 m).length / 128)) (i : Int)) := by
      rw [dig, hl, outF, if_neg (by decide), runN_wide (.inr rfl)]
      exact flat_head (fun (i : Nat) => v8 (at' (runW (st0 4).2 (fillF 128 m) ((fillF 128 m).length / 128)) (i : Int))) (n := 8) (fun _ => by simp [v8]) (a := 8) 0
    rw [e]
    exact g2.from g1.fr
end Go.Proofs.YtcgplgpdcfocpaaDoor.Spec
end
section
set_option linter.unusedVariables false
set_option linter.unusedSimpArgs false
namespace Go.Proofs.YtcgplgpdcfocpaaDoor.Spec
open Go Go.RowKit Go.Proofs Go.Proofs.YtcgplgpdcfocpaaDoor.Eng Go.Proofs.YtcgplgpdcfocpaaDoor.Code
set_option maxRecDepth 100000
attribute [local irreducible] callK S.W opsW scrW dig
theorem fill4m (a0 a1 a2 a3 : Int) : fillL [(0, 1), (1, 1), (2, 1), (3, 1)] (Array.replicate 4 (Value.int .i64 0)) [(0, .int .i64 a0), (1, .int .i64 a1), (2, .int .i64 a2), (3, .int .i64 a3)] = some (nums .i64 [a0, a1, a2, a3]).toArray := by kernel_rfl
theorem rsize_k (alg : Int) (w : World) (K : Value → World → Prop) (hK : K (.int .i64 (sizeI alg)) w) : callK Tryd.prog 29 [.int .i64 alg] w K := by
  refine call_of Tryd.func29 Code.h29 (by simp [Code.c29]) ?_
  unfold sizeI at hK
  have c : alg = 1 ∨ alg = 2 ∨ alg = 3 ∨ alg = 4 ∨ alg < 1 ∨ 4 < alg := by omega
  rcases c with rfl | rfl | rfl | rfl | c | c
  · simp (disch := omega) only [EO, ↓EP, EQ, EM, ↓reduceIte, Int.reduceAdd, Int.reduceEq, Int.reduceLE, Int.reduceLT, Int.reduceMul, Int.reduceNeg, Int.reducePow, Int.reduceSub, Int.reduceToNat, Nat.reduceAdd, Nat.reduceEqDiff, Nat.reduceLT, Nat.reduceLeDiff, Nat.reduceMul, reduceCtorEq, Code.c29]
    refine ⟨_, fill4m _ _ _ _, ?_⟩
    simp (disch := omega) only [EO, ↓EP, EQ, EM, ↓reduceIte, Int.reduceAdd, Int.reduceEq, Int.reduceLE, Int.reduceLT, Int.reduceMul, Int.reduceNeg, Int.reducePow, Int.reduceSub, Int.reduceToNat, Nat.reduceAdd, Nat.reduceEqDiff, Nat.reduceLT, Nat.reduceLeDiff, Nat.reduceMul, reduceCtorEq]
    refine ⟨_, rfl, ?_⟩
    simp (disch := omega) only [EO, ↓EP, EQ, EM, ↓reduceIte, Int.reduceAdd, Int.reduceEq, Int.reduceLE, Int.reduceLT, Int.reduceMul, Int.reduceNeg, Int.reducePow, Int.reduceSub, Int.reduceToNat, Nat.reduceAdd, Nat.reduceEqDiff, Nat.reduceLT, Nat.reduceLeDiff, Nat.reduceMul, reduceCtorEq]
    exact hK
  · simp (disch := omega) only [EO, ↓EP, EQ, EM, ↓reduceIte, Int.reduceAdd, Int.reduceEq, Int.reduceLE, Int.reduceLT, Int.reduceMul, Int.reduceNeg, Int.reducePow, Int.reduceSub, Int.reduceToNat, Nat.reduceAdd, Nat.reduceEqDiff, Nat.reduceLT, Nat.reduceLeDiff, Nat.reduceMul, reduceCtorEq, Code.c29]
    refine ⟨_, fill4m _ _ _ _, ?_⟩
    simp (disch := omega) only [EO, ↓EP, EQ, EM, ↓reduceIte, Int.reduceAdd, Int.reduceEq, Int.reduceLE, Int.reduceLT, Int.reduceMul, Int.reduceNeg, Int.reducePow, Int.reduceSub, Int.reduceToNat, Nat.reduceAdd, Nat.reduceEqDiff, Nat.reduceLT, Nat.reduceLeDiff, Nat.reduceMul, reduceCtorEq]
    refine ⟨_, rfl, ?_⟩
    simp (disch := omega) only [EO, ↓EP, EQ, EM, ↓reduceIte, Int.reduceAdd, Int.reduceEq, Int.reduceLE, Int.reduceLT, Int.reduceMul, Int.reduceNeg, Int.reducePow, Int.reduceSub, Int.reduceToNat, Nat.reduceAdd, Nat.reduceEqDiff, Nat.reduceLT, Nat.reduceLeDiff, Nat.reduceMul, reduceCtorEq]
    exact hK
  · simp (disch := omega) only [EO, ↓EP, EQ, EM, ↓reduceIte, Int.reduceAdd, Int.reduceEq, Int.reduceLE, Int.reduceLT, Int.reduceMul, Int.reduceNeg, Int.reducePow, Int.reduceSub, Int.reduceToNat, Nat.reduceAdd, Nat.reduceEqDiff, Nat.reduceLT, Nat.reduceLeDiff, Nat.reduceMul, reduceCtorEq, Code.c29]
    refine ⟨_, fill4m _ _ _ _, ?_⟩
    simp (disch := omega) only [EO, ↓EP, EQ, EM, ↓reduceIte, Int.reduceAdd, Int.reduceEq, Int.reduceLE, Int.reduceLT, Int.reduceMul, Int.reduceNeg, Int.reducePow, Int.reduceSub, Int.reduceToNat, Nat.reduceAdd, Nat.reduceEqDiff, Nat.reduceLT, Nat.reduceLeDiff, Nat.reduceMul, reduceCtorEq]
    refine ⟨_, rfl, ?_⟩
    simp (disch := omega) only [EO, ↓EP, EQ, EM, ↓reduceIte, Int.reduceAdd, Int.reduceEq, Int.reduceLE, Int.reduceLT, Int.reduceMul, Int.reduceNeg, Int.reducePow, Int.reduceSub, Int.reduceToNat, Nat.reduceAdd, Nat.reduceEqDiff, Nat.reduceLT, Nat.reduceLeDiff, Nat.reduceMul, reduceCtorEq]
    exact hK
  · simp (disch := omega) only [EO, ↓EP, EQ, EM, ↓reduceIte, Int.reduceAdd, Int.reduceEq, Int.reduceLE, Int.reduceLT, Int.reduceMul, Int.reduceNeg, Int.reducePow, Int.reduceSub, Int.reduceToNat, Nat.reduceAdd, Nat.reduceEqDiff, Nat.reduceLT, Nat.reduceLeDiff, Nat.reduceMul, reduceCtorEq, Code.c29]
    refine ⟨_, fill4m _ _ _ _, ?_⟩
    simp (disch := omega) only [EO, ↓EP, EQ, EM, ↓reduceIte, Int.reduceAdd, Int.reduceEq, Int.reduceLE, Int.reduceLT, Int.reduceMul, Int.reduceNeg, Int.reducePow, Int.reduceSub, Int.reduceToNat, Nat.reduceAdd, Nat.reduceEqDiff, Nat.reduceLT, Nat.reduceLeDiff, Nat.reduceMul, reduceCtorEq]
    refine ⟨_, rfl, ?_⟩
    simp (disch := omega) only [EO, ↓EP, EQ, EM, ↓reduceIte, Int.reduceAdd, Int.reduceEq, Int.reduceLE, Int.reduceLT, Int.reduceMul, Int.reduceNeg, Int.reducePow, Int.reduceSub, Int.reduceToNat, Nat.reduceAdd, Nat.reduceEqDiff, Nat.reduceLT, Nat.reduceLeDiff, Nat.reduceMul, reduceCtorEq]
    exact hK
  · simp (disch := omega) only [EO, ↓EP, EQ, EM, ↓reduceIte, Int.reduceAdd, Int.reduceEq, Int.reduceLE, Int.reduceLT, Int.reduceMul, Int.reduceNeg, Int.reducePow, Int.reduceSub, Int.reduceToNat, Nat.reduceAdd, Nat.reduceEqDiff, Nat.reduceLT, Nat.reduceLeDiff, Nat.reduceMul, reduceCtorEq, Code.c29]
    rwa [if_neg (by omega), if_neg (by omega), if_neg (by omega), if_neg (by omega)] at hK
  · simp (disch := omega) only [EO, ↓EP, EQ, EM, ↓reduceIte, Int.reduceAdd, Int.reduceEq, Int.reduceLE, Int.reduceLT, Int.reduceMul, Int.reduceNeg, Int.reducePow, Int.reduceSub, Int.reduceToNat, Nat.reduceAdd, Nat.reduceEqDiff, Nat.reduceLT, Nat.reduceLeDiff, Nat.reduceMul, reduceCtorEq, Code.c29]
    rwa [if_neg (by omega), if_neg (by omega), if_neg (by omega), if_neg (by omega)] at hK
set_option maxHeartbeats 4000000 in
theorem rmask_vw {alg n : Int} {seed : List Int} {A : Option Addr} {c : Nat} {w : World} (hc : seed.length ≤ c) (hr : Rd w A (nums .u8 seed)) (hseed : seed.length ≤ 16777000) (hbt : ∀ x ∈ seed, 0 ≤ x ∧ x < 256) {K : Value → World → Prop}
    (hK : ∀ v w', Vw .u8 w' v (maskR alg seed n).1 → Fr w w' nob → K (.tuple #[v, .int .i64 (maskR alg seed n).2]) w') : callK Tryd.prog 15 [.int .i64 alg, .slice A seed.length c, .int .i64 n] w K := by
  refine call_of Tryd.func15 Code.h15 (by simp [Code.c15]) ?_
  simp (disch := omega) only [wu64, wu32, wu8, fdiv_nn, EO, ↓EP, EQ, EM, ↓reduceIte, Int.reduceAdd, Int.reduceEq, Int.reduceLE, Int.reduceLT, Int.reduceMul, Int.reduceNeg, Int.reducePow, Int.reduceSub, Int.reduceToNat, Nat.reduceAdd, Nat.reduceEqDiff, Nat.reduceLT, Nat.reduceLeDiff, Nat.reduceMul, reduceCtorEq, Code.c15]
  refine rsize_k alg _ _ ?_
  have bad : (sizeI alg = 0 ∨ n < 0 ∨ 2048 < n) → K (.tuple #[.slice none 0 0, .int .i64 1]) w := fun h => by
    have hR : maskR alg seed n = ([], 1) := if_pos h
    rw [hR] at hK
    exact hK _ _ (Vw.nil _ _) (Fr.refl _ _)
  by_cases c0 : sizeI alg = 0
  · simp (disch := omega) only [wu64, wu32, wu8, fdiv_nn, EO, ↓EP, EQ, EM, ↓reduceIte, Int.reduceAdd, Int.reduceEq, Int.reduceLE, Int.reduceLT, Int.reduceMul, Int.reduceNeg, Int.reducePow, Int.reduceSub, Int.reduceToNat, Nat.reduceAdd, Nat.reduceEqDiff, Nat.reduceLT, Nat.reduceLeDiff, Nat.reduceMul, reduceCtorEq, c0]
    exact bad (.inl c0)
  by_cases c1 : n < 0
  · simp (disch := omega) only [wu64, wu32, wu8, fdiv_nn, EO, ↓EP, EQ, EM, ↓reduceIte, Int.reduceAdd, Int.reduceEq, Int.reduceLE, Int.reduceLT, Int.reduceMul, Int.reduceNeg, Int.reducePow, Int.reduceSub, Int.reduceToNat, Nat.reduceAdd, Nat.reduceEqDiff, Nat.reduceLT, Nat.reduceLeDiff, Nat.reduceMul, reduceCtorEq, c0, c1]
    exact bad (.inr (.inl c1))
  by_cases c2 : 2048 < n
  · simp (disch := omega) only [wu64, wu32, wu8, fdiv_nn, EO, ↓EP, EQ, EM, ↓reduceIte, Int.reduceAdd, Int.reduceEq, Int.reduceLE, Int.reduceLT, Int.reduceMul, Int.reduceNeg, Int.reducePow, Int.reduceSub, Int.reduceToNat, Nat.reduceAdd, Nat.reduceEqDiff, Nat.reduceLT, Nat.reduceLeDiff, Nat.reduceMul, reduceCtorEq, c0, c1, c2]
    exact bad (.inr (.inr c2))
  have hR : maskR alg seed n = ((maskL alg seed n.toNat).take n.toNat, 0) := if_neg (by omega)
  rw [hR] at hK
  have ha : ¬ (alg < 1 ∨ 4 < alg) := fun h => by
    unfold sizeI at c0
    rw [if_neg (by omega), if_neg (by omega), if_neg (by omega), if_neg (by omega)] at c0
    exact c0 rfl
  have a1 : 1 ≤ alg := by omega
  have a4 : alg ≤ 4 := by omega
  have hzz := mk_size a1 a4
  simp (disch := omega) only [wu64, wu32, wu8, fdiv_nn, EO, ↓EP, EQ, EM, ↓reduceIte, Int.reduceAdd, Int.reduceEq, Int.reduceLE, Int.reduceLT, Int.reduceMul, Int.reduceNeg, Int.reducePow, Int.reduceSub, Int.reduceToNat, Nat.reduceAdd, Nat.reduceEqDiff, Nat.reduceLT, Nat.reduceLeDiff, Nat.reduceMul, reduceCtorEq, c0, c1, c2]
  refine loop_inv (fun t ρ w' => ∃ (i : Nat) (v : Value), ρ 9 = .int .i64 i ∧ ρ 8 = v ∧ Gw .u8 w w' v (maskL alg seed i) ∧ t = 2050 - i ∧ ∀ j, i = j + 1 → ((maskL alg seed j).length : Int) < n) _ ⟨0, .slice none 0 0, by simp (disch := omega) only [wu64, wu32, wu8, fdiv_nn, EO, ↓EP, EQ, EM, ↓reduceIte, Int.reduceAdd, Int.reduceEq, Int.reduceLE, Int.reduceLT, Int.reduceMul, Int.reduceNeg, Int.reducePow, Int.reduceSub, Int.reduceToNat, Nat.reduceAdd, Nat.reduceEqDiff, Nat.reduceLT, Nat.reduceLeDiff, Nat.reduceMul, reduceCtorEq], by simp (disch := omega) only [wu64, wu32, wu8, fdiv_nn, EO, ↓EP, EQ, EM, ↓reduceIte, Int.reduceAdd, Int.reduceEq, Int.reduceLE, Int.reduceLT, Int.reduceMul, Int.reduceNeg, Int.reducePow, Int.reduceSub, Int.reduceToNat, Nat.reduceAdd, Nat.reduceEqDiff, Nat.reduceLT, Nat.reduceLeDiff, Nat.reduceMul, reduceCtorEq], Gw.nil .u8 w, rfl, fun j e => by omega⟩ ?_
  rintro t ρ w1 hf ⟨i, v, h9, h8, G, rfl, hbd⟩ N hN
  have r0 : ρ 0 = .int .i64 alg := by rw [hf 0 rfl]; simp (disch := omega) only [wu64, wu32, wu8, fdiv_nn, EO, ↓EP, EQ, EM, ↓reduceIte, Int.reduceAdd, Int.reduceEq, Int.reduceLE, Int.reduceLT, Int.reduceMul, Int.reduceNeg, Int.reducePow, Int.reduceSub, Int.reduceToNat, Nat.reduceAdd, Nat.reduceEqDiff, Nat.reduceLT, Nat.reduceLeDiff, Nat.reduceMul, reduceCtorEq]
  have r1 : ρ 1 = .slice A seed.length c := by rw [hf 1 rfl]; simp (disch := omega) only [wu64, wu32, wu8, fdiv_nn, EO, ↓EP, EQ, EM, ↓reduceIte, Int.reduceAdd, Int.reduceEq, Int.reduceLE, Int.reduceLT, Int.reduceMul, Int.reduceNeg, Int.reducePow, Int.reduceSub, Int.reduceToNat, Nat.reduceAdd, Nat.reduceEqDiff, Nat.reduceLT, Nat.reduceLeDiff, Nat.reduceMul, reduceCtorEq]
  have r2 : ρ 2 = .int .i64 n := by rw [hf 2 rfl]; simp (disch := omega) only [wu64, wu32, wu8, fdiv_nn, EO, ↓EP, EQ, EM, ↓reduceIte, Int.reduceAdd, Int.reduceEq, Int.reduceLE, Int.reduceLT, Int.reduceMul, Int.reduceNeg, Int.reducePow, Int.reduceSub, Int.reduceToNat, Nat.reduceAdd, Nat.reduceEqDiff, Nat.reduceLT, Nat.reduceLeDiff, Nat.reduceMul, reduceCtorEq]
  clear hf
  obtain ⟨B, d, rfl, hd, hrB, _⟩ := G.sl.read
  have hiN : i < 2049 := by
    rcases i with _ | j
    · omega
    · have := hbd j rfl
      rw [maskL_len a1 a4] at this
      have : j ≤ j * (sizeI alg).toNat := Nat.le_mul_of_pos_right _ (by omega)
      omega
  by_cases hl : ((maskL alg seed i).length : Int) < n
  · have e24 : (2 : Int) ^ 24 = 16777216 := rfl
    have e16 : (2 : Int) ^ 16 = 65536 := rfl
    have e8 : (2 : Int) ^ 8 = 256 := rfl
    have w24 : IntKind.u8.wrap ((i : Int) / 16777216) = ((i / 16777216 % 256 : Nat) : Int) := by rw [wu8_mod]; omega
    have w16 : IntKind.u8.wrap ((i : Int) / 65536) = ((i / 65536 % 256 : Nat) : Int) := by rw [wu8_mod]; omega
    have w8 : IntKind.u8.wrap ((i : Int) / 256) = ((i / 256 % 256 : Nat) : Int) := by rw [wu8_mod]; omega
    have w0 : IntKind.u8.wrap (i : Int) = ((i % 256 : Nat) : Int) := by rw [wu8_mod]; omega
    simp (disch := omega) only [wu64, wu32, wu8, fdiv_nn, EO, ↓EP, EQ, EM, ↓reduceIte, Int.reduceAdd, Int.reduceEq, Int.reduceLE, Int.reduceLT, Int.reduceMul, Int.reduceNeg, Int.reducePow, Int.reduceSub, Int.reduceToNat, Nat.reduceAdd, Nat.reduceEqDiff, Nat.reduceLT, Nat.reduceLeDiff, Nat.reduceMul, reduceCtorEq, r0, r1, r2, h9, h8, hl, e24, e16, e8, w24, w16, w8, w0]
    refine al_k [] rfl fun w2 n2 => ?_
    have f2 := n2.fr nob
    have S2 : Gw .u8 w1 w2 (.slice (some ⟨w1.heap.size, 0, none⟩) 0 0) [] := ⟨n2.sl (k := .u8) (l := []), fun b e => by cases e; exact Nat.le_refl _, f2⟩
    simp (disch := omega) only [wu64, wu32, wu8, fdiv_nn, EO, ↓EP, EQ, EM, ↓reduceIte, Int.reduceAdd, Int.reduceEq, Int.reduceLE, Int.reduceLT, Int.reduceMul, Int.reduceNeg, Int.reducePow, Int.reduceSub, Int.reduceToNat, Nat.reduceAdd, Nat.reduceEqDiff, Nat.reduceLT, Nat.reduceLeDiff, Nat.reduceMul, reduceCtorEq, r1]
    refine app_num S2.sl rfl ((hr.nb G.fr).nb f2) (by simp; omega) (by decide) fun v3 w3 a3 => ?_
    have G3 := S2.apd a3
    obtain ⟨B3, d3, rfl, _, _, _⟩ := G3.sl.read
    simp (disch := omega) only [wu64, wu32, wu8, fdiv_nn, EO, ↓EP, EQ, EM, ↓reduceIte, Int.reduceAdd, Int.reduceEq, Int.reduceLE, Int.reduceLT, Int.reduceMul, Int.reduceNeg, Int.reducePow, Int.reduceSub, Int.reduceToNat, Nat.reduceAdd, Nat.reduceEqDiff, Nat.reduceLT, Nat.reduceLeDiff, Nat.reduceMul, reduceCtorEq, r0, r1, r2, h9, h8, e24, e16, e8, w24, w16, w8, w0]
    refine bsl4 fun w4 n4 => ?_
    have f4 := n4.fr nob
    have n4 : New w3 w4 (nums .u8 (be4 i)) := n4
    simp (disch := omega) only [wu64, wu32, wu8, fdiv_nn, EO, ↓EP, EQ, EM, ↓reduceIte, Int.reduceAdd, Int.reduceEq, Int.reduceLE, Int.reduceLT, Int.reduceMul, Int.reduceNeg, Int.reducePow, Int.reduceSub, Int.reduceToNat, Nat.reduceAdd, Nat.reduceEqDiff, Nat.reduceLT, Nat.reduceLeDiff, Nat.reduceMul, reduceCtorEq]
    refine app_num (l' := be4 i) (G3.step f4).sl rfl n4.rdl (by simp [be4]; omega) (by decide) fun v5 w5 a5 => ?_
    have G5 := (G3.step f4).apd a5
    rw [List.nil_append] at G5
    obtain ⟨B5, d5, rfl, _, _, _⟩ := G5.sl.read
    simp (disch := omega) only [wu64, wu32, wu8, fdiv_nn, EO, ↓EP, EQ, EM, ↓reduceIte, Int.reduceAdd, Int.reduceEq, Int.reduceLE, Int.reduceLT, Int.reduceMul, Int.reduceNeg, Int.reducePow, Int.reduceSub, Int.reduceToNat, Nat.reduceAdd, Nat.reduceEqDiff, Nat.reduceLT, Nat.reduceLeDiff, Nat.reduceMul, reduceCtorEq, r0, r1, r2, h9, h8]
    have hby : ∀ x ∈ seed ++ be4 i, 0 ≤ x ∧ x < 256 := fun x hx => by
      rcases List.mem_append.1 hx with h | h
      · exact hbt x h
      · simp only [be4, List.mem_cons, List.not_mem_nil, or_false] at h
        omega
    refine rdigest_vw a1 a4 G5.vw (by simp [be4]; omega) hby _ fun v6 w6 G6 => ?_
    have f6 : Fr w1 w6 nob := G5.fr.nb G6.fr
    obtain ⟨B6, d6, rfl, _, hr6, _⟩ := G6.sl.read
    have hlen6 := dig_len a1 a4 (seed ++ be4 i)
    simp (disch := omega) only [wu64, wu32, wu8, fdiv_nn, EO, ↓EP, EQ, EM, ↓reduceIte, Int.reduceAdd, Int.reduceEq, Int.reduceLE, Int.reduceLT, Int.reduceMul, Int.reduceNeg, Int.reducePow, Int.reduceSub, Int.reduceToNat, Nat.reduceAdd, Nat.reduceEqDiff, Nat.reduceLT, Nat.reduceLeDiff, Nat.reduceMul, reduceCtorEq, h8]
    refine app_num (G.step f6).sl rfl hr6 (by omega) (by decide) fun v7 w7 a7 => ?_
    have G7 := (G.step f6).apd a7
    have G8 : Gw .u8 w w7 v7 (maskL alg seed (i + 1)) := by rw [maskL_succ]; exact G7
    simp (disch := omega) only [wu64, wu32, wu8, fdiv_nn, EO, ↓EP, EQ, EM, ↓reduceIte, Int.reduceAdd, Int.reduceEq, Int.reduceLE, Int.reduceLT, Int.reduceMul, Int.reduceNeg, Int.reducePow, Int.reduceSub, Int.reduceToNat, Nat.reduceAdd, Nat.reduceEqDiff, Nat.reduceLT, Nat.reduceLeDiff, Nat.reduceMul, reduceCtorEq, h9]
    refine hN (2050 - (i + 1)) _ _ (by omega) ⟨i + 1, v7, by simp (disch := omega) only [wu64, wu32, wu8, fdiv_nn, EO, ↓EP, EQ, EM, ↓reduceIte, Int.reduceAdd, Int.reduceEq, Int.reduceLE, Int.reduceLT, Int.reduceMul, Int.reduceNeg, Int.reducePow, Int.reduceSub, Int.reduceToNat, Nat.reduceAdd, Nat.reduceEqDiff, Nat.reduceLT, Nat.reduceLeDiff, Nat.reduceMul, reduceCtorEq, h9, Int.natCast_add], by simp (disch := omega) only [wu64, wu32, wu8, fdiv_nn, EO, ↓EP, EQ, EM, ↓reduceIte, Int.reduceAdd, Int.reduceEq, Int.reduceLE, Int.reduceLT, Int.reduceMul, Int.reduceNeg, Int.reducePow, Int.reduceSub, Int.reduceToNat, Nat.reduceAdd, Nat.reduceEqDiff, Nat.reduceLT, Nat.reduceLeDiff, Nat.reduceMul, reduceCtorEq], G8, rfl, fun j e => ?_⟩
    obtain rfl : j = i := by omega
    exact hl
  · simp (disch := omega) only [wu64, wu32, wu8, fdiv_nn, EO, ↓EP, EQ, EM, ↓reduceIte, Int.reduceAdd, Int.reduceEq, Int.reduceLE, Int.reduceLT, Int.reduceMul, Int.reduceNeg, Int.reducePow, Int.reduceSub, Int.reduceToNat, Nat.reduceAdd, Nat.reduceEqDiff, Nat.reduceLT, Nat.reduceLeDiff, Nat.reduceMul, reduceCtorEq, r0, r1, r2, h9, h8, hl]
    have hln : ((maskL alg seed n.toNat).take n.toNat).length = n.toNat := by
      rw [List.length_take, maskL_len a1 a4]
      have : n.toNat ≤ n.toNat * (sizeI alg).toNat := Nat.le_mul_of_pos_right _ (by omega)
      omega
    refine hK _ _ (Vw.of hln (by omega) ?_) G.fr
    rw [← maskL_take a1 a4 seed (by omega : n.toNat ≤ (maskL alg seed i).length)]
    exact hrB.take _
end Go.Proofs.YtcgplgpdcfocpaaDoor.Spec
end
section
set_option linter.unusedVariables false
set_option linter.unusedSimpArgs false
namespace Go.Proofs.YtcgplgpdcfocpaaDoor.Spec
open Go Go.RowKit Go.Proofs Go.Proofs.YtcgplgpdcfocpaaDoor.Eng Go.Proofs.YtcgplgpdcfocpaaDoor.Code
set_option maxRecDepth 100000
attribute [local irreducible] callK S.W opsW scrW dig
def mkAsg : S := .ops [⟨some 9, none, .mv (.tmp 24)⟩]
def mkBody : S := .block 1
    (.seq (.seq (.ops [⟨some 25, none, .ld .slice (.tmp 8)⟩,
      ⟨some 26, none, .len (.tmp 25)⟩,
      ⟨some 27, none, .ld (.int .i64) (.tmp 5)⟩,
      ⟨some 28, none, .bin .geq (.tmp 26) (.tmp 27)⟩])
    (.cond (.tmp 28)
      (.exit 0)
      .skip))
    (.ops [⟨some 29, none, .ld .slice (.tmp 8)⟩,
      ⟨some 30, none, .mv (.tmp 9)⟩,
      ⟨some 31, none, .app 5 1 1 #[(.int .u8 0)] (.tmp 29) (.tmp 30)⟩,
      ⟨none, none, .st 1 (.tmp 8) (.tmp 31)⟩]))
theorem mask_form : ∃ (A0 A1 A2 A3 A4 As Bd : Code), Tryd.f14.body = some (.seq A0 (.seq A1 (.seq A2 (.seq (.seq A3 (.block 0 (.rangeFunc (.tmp 23) #[24] As Bd))) A4)))) ∧
    strS Tryd.prog 36 [] A0 = some (.ops [⟨some 5, none, .box 3 (.tmp 2)⟩, ⟨some 6, none, .mv (.const (.slice none 0 0))⟩, ⟨some 7, none, .mv (.const (.int .i64 0))⟩]) ∧
    strS Tryd.prog 36 [] A1 = some (.seq (.ops [⟨some 10, none, .mv (.tmp 0)⟩,
  ⟨some 11, none, .call 27 [(.tmp 10)]⟩,
  ⟨some 12, none, .bin .eql (.tmp 11) (.const (.int .i64 0))⟩,
  ⟨some 13, none, .mv (.tmp 12)⟩,
  ⟨some 14, some (13, false), .ld (.int .i64) (.tmp 5)⟩,
  ⟨some 15, some (13, false), .bin .lss (.tmp 14) (.const (.int .i64 0))⟩,
  ⟨some 16, none, .pick (.tmp 13) (.const (.bool true)) (.tmp 15)⟩,
  ⟨some 17, none, .mv (.tmp 16)⟩,
  ⟨some 18, some (17, false), .ld (.int .i64) (.tmp 5)⟩,
  ⟨some 19, some (17, false), .bin .gtr (.tmp 18) (.const (.int .i64 2048))⟩,
  ⟨some 20, none, .pick (.tmp 17) (.const (.bool true)) (.tmp 19)⟩])
(.cond (.tmp 20)
  (.seq (.ops [⟨some 6, none, .mv (.const (.slice none 0 0))⟩,
    ⟨some 7, none, .mv (.const (.int .i64 1))⟩])
  .ret)
  .skip)) ∧
    strS Tryd.prog 36 [] A2 = some (.ops [⟨some 8, none, .alloc 31 (.slice none 0 0)⟩]) ∧
    strS Tryd.prog 36 [] A3 = some (.ops [⟨some 21, none, .mv (.tmp 0)⟩, ⟨some 22, none, .mv (.tmp 1)⟩, ⟨some 23, none, .call 28 [(.tmp 21), (.tmp 22)]⟩]) ∧
    strS Tryd.prog 36 [] As = some mkAsg ∧ strS Tryd.prog 36 [] Bd = some mkBody ∧
    strS Tryd.prog 36 [] A4 = some (.seq (.ops [⟨some 32, none, .ld .slice (.tmp 8)⟩,
  ⟨some 33, none, .ld (.int .i64) (.tmp 5)⟩,
  ⟨some 34, none, .ld (.int .i64) (.tmp 5)⟩,
  ⟨some 35, none, .slc 1 (.tmp 32) none (some (.tmp 33)) (some (.tmp 34))⟩,
  ⟨some 6, none, .mv (.tmp 35)⟩,
  ⟨some 7, none, .mv (.const (.int .i64 0))⟩])
.ret) ∧ plainC As = true ∧ plainC Bd = true := by
  exact ⟨_, _, _, _, _, _, _, rfl, by kernel_rfl, by kernel_rfl, by kernel_rfl, by kernel_rfl, by kernel_rfl, by kernel_rfl, by kernel_rfl, by kernel_rfl, by kernel_rfl⟩
theorem fr_put (w : World) (ib : Nat) (o : Obj) : Fr w (w.putObj ib o) (fun b => b = ib) :=
  ⟨⟨rfl, rfl, rfl, by simp [World.putObj], fun k hk => by omega⟩, fun b _ hb => by
    show (w.heap.setIfInBounds ib o)[b]? = w.heap[b]?
    rw [Array.getElem?_setIfInBounds_ne (fun e => hb e.symm)]⟩
theorem put_at {w : World} {ib : Nat} {o o' : Obj} (h : w.heap[ib]? = some o') : (w.putObj ib o).heap[ib]? = some o := by
  show (w.heap.setIfInBounds ib o)[ib]? = some o
  rw [Array.getElem?_setIfInBounds_self_of_lt (Array.getElem?_eq_some_iff.1 h).1]
theorem ob_fr (w : World) (o : Obj) : Fr w (w.alloc o) nob := by
  have hh : (w.alloc o).heap = w.heap.push o := rfl
  refine ⟨⟨rfl, rfl, rfl, ?_, fun k hk => by omega⟩, fun b hb _ => ?_⟩
  · rw [hh, Array.size_push]; omega
  · rw [hh, Array.getElem?_push_lt hb, Array.getElem?_eq_getElem hb]
theorem ob_size (w : World) (o : Obj) : (w.alloc o).heap.size = w.heap.size + 1 := by
  show (w.heap.push o).size = _
  rw [Array.size_push]
theorem ob_at (w : World) (o : Obj) : (w.alloc o).heap[w.heap.size]? = some o := by
  show (w.heap.push o)[w.heap.size]? = some o
  rw [Array.getElem?_push_size]
structure MCore (w0 : World) (alg n : Int) (sv : Value) (W : World) : Prop where
  nb : Blk W w0.heap.size [.int .i64 n]
  ab : Blk W (w0.heap.size + 2) [.int .i64 alg]
  sb : Blk W (w0.heap.size + 3) [sv]
  de : W.heap[w0.heap.size + 4]? = some (.deferred (some []))
  fr : Fr w0 W nob
theorem MCore.step {w0 W W' : World} {alg n : Int} {sv : Value} {P : Nat → Prop} (h : MCore w0 alg n sv W) (f : Fr W W' P) (hP : ∀ x, P x → x = w0.heap.size + 1 ∨ w0.heap.size + 5 ≤ x) : MCore w0 alg n sv W' := by
  have hl := (Array.getElem?_eq_some_iff.1 h.de).1
  refine ⟨h.nb.fr f fun e => ?_, h.ab.fr f fun e => ?_, h.sb.fr f fun e => ?_, ?_, h.fr.trans f fun x hx e => ?_⟩
  · have := hP _ e; omega
  · have := hP _ e; omega
  · have := hP _ e; omega
  · rw [f.block _ hl fun e => by have := hP _ e; omega]; exact h.de
  · have := hP _ e; omega
structure MI (w0 : World) (alg n : Int) (seed : List Int) (sv : Value) (rec : Loop) (i : Nat) (W : World) : Prop where
  co : MCore w0 alg n sv W
  re : W.heap[w0.heap.size + 5]? = some (.loop rec)
  out : ∃ v, Blk W (w0.heap.size + 1) [v] ∧ Sl .u8 W v (maskL alg seed i) ∧ ∀ b, blkOf v = some b → w0.heap.size + 6 ≤ b
  bd : ∀ j, i = j + 1 → ((maskL alg seed j).length : Int) < n
structure MX (w0 : World) (alg n : Int) (seed : List Int) (sv : Value) (rec : Loop) (W : World) : Prop where
  co : MCore w0 alg n sv W
  re : W.heap[w0.heap.size + 5]? = some (.loop { rec with state := .done, pending := some (.exit 0) })
  out : ∃ i v, Blk W (w0.heap.size + 1) [v] ∧ Sl .u8 W v (maskL alg seed i) ∧ (∀ b, blkOf v = some b → w0.heap.size + 6 ≤ b) ∧ n ≤ (maskL alg seed i).length
set_option maxHeartbeats 4000000 in
theorem mask_round {w0 : World} {alg n : Int} {seed : List Int} {sv : Value} {fn : FuncId} {T : Array Value} {As Bd : Code} {m i : Nat} (a1 : 1 ≤ alg) (a4 : alg ≤ 4) (hn : n ≤ 2048)
    (hpa : plainC As = true) (hpb : plainC Bd = true) (hsa : strS Tryd.prog 36 [] As = some mkAsg) (hsb : strS Tryd.prog 36 [] Bd = some mkBody)
    (hT : T.size = 36) (t5 : T.getD 5 undef = .pointer (some ⟨w0.heap.size, 0, none⟩)) (t8 : T.getD 8 undef = .pointer (some ⟨w0.heap.size + 1, 0, none⟩))
    {rec : Loop} (hrec : rec = ⟨.ready, none, fn, T, #[24], As, Bd, w0.heap.size + 4⟩)
    {W W' : World} {A : Option Addr} {c : Nat} (h : MI w0 alg n seed sv rec i W) (g : Gw .u8 W W' (.slice A (sizeI alg).toNat c) (blkM alg seed i)) :
    YldAt m Tryd.prog (w0.heap.size + 5) (.slice A (sizeI alg).toNat c) W' fun e W'' => (e = .returned (.bool true) ∧ MI w0 alg n seed sv rec (i + 1) W'') ∨ (e = .returned (.bool false) ∧ MX w0 alg n seed sv rec W'') := by
  have hlt := (Array.getElem?_eq_some_iff.1 h.re).1
  have re1 : W'.heap[w0.heap.size + 5]? = some (.loop rec) := by rw [g.fr.block _ hlt fun e => e.elim]; exact h.re
  have co1 := h.co.step g.fr fun x e => e.elim
  obtain ⟨v, hbv, hsv, huv⟩ := h.out
  have hbv := hbv.fr g.fr fun e => e.elim
  have hsv := hsv.fr g.fr fun _ _ e => e.elim
  have hzz := mk_size a1 a4
  have hgl := g.sl
  have hup := g.up
  obtain ⟨x, hx⟩ : ∃ x, x = Value.slice A (sizeI alg).toNat c := ⟨_, rfl⟩
  rw [← hx] at hgl hup ⊢
  refine ⟨fn, T.setIfInBounds 24 x, As, Bd, ?_, ?_⟩
  · rw [run_yield (args := #[x]) re1 (by rw [hrec]; rfl)]
    simp [hrec]
  refine round_eng (n := 36) hpa hpb hsa hsb (by simpa using hT) ?_
  obtain ⟨ρ, hρ⟩ : ∃ ρ : Env, ρ = fun t => (T.setIfInBounds 24 x).getD t undef := ⟨_, rfl⟩
  have e5 : ρ 5 = .pointer (some ⟨w0.heap.size, 0, none⟩) := by rw [hρ, ← t5]; simp [Array.getD_eq_getD_getElem?, Array.getElem?_setIfInBounds_ne]
  have e8 : ρ 8 = .pointer (some ⟨w0.heap.size + 1, 0, none⟩) := by rw [hρ, ← t8]; simp [Array.getD_eq_getD_getElem?, Array.getElem?_setIfInBounds_ne]
  have e24 : ρ 24 = x := by rw [hρ]; simp [Array.getD_eq_getD_getElem?, hT]
  rw [← hρ]
  have fb := fr_put W' (w0.heap.size + 5) (.loop { rec with state := .busy })
  have re2 := put_at (o := .loop { rec with state := .busy }) re1
  have co2 := co1.step fb fun x e => by omega
  have hbv2 := hbv.fr fb (by omega)
  have hsv2 := hsv.fr fb fun b e => by have := huv b e; omega
  have hgl2 := hgl.fr fb fun b e => by have := hup b e; omega
  obtain ⟨KK, hKK⟩ : ∃ KK : Exit → Env → World → Prop, KK = fun e ρ w₁ => e = .normal ∧ ∃ r, w₁.heap[w0.heap.size + 5]? = some (.loop r) ∧ r.state = .ready ∧ mkBody.W Tryd.prog (rndK (w0.heap.size + 5) fun e W'' => (e = .returned (.bool true) ∧ MI w0 alg n seed sv rec (i + 1) W'') ∨ (e = .returned (.bool false) ∧ MX w0 alg n seed sv rec W'')) ρ (w₁.putObj (w0.heap.size + 5) (.loop { r with state := .busy })) := ⟨_, rfl⟩
  rw [← hKK]
  suffices hs : ∀ ρ' : Env, ρ' 5 = ρ 5 → ρ' 8 = ρ 8 → ρ' 9 = x → KK .normal ρ' W' by
    simp (disch := omega) only [wu64, wu32, wu8, fdiv_nn, EO, ↓EP, EQ, EM, ↓reduceIte, Int.reduceAdd, Int.reduceEq, Int.reduceLE, Int.reduceLT, Int.reduceMul, Int.reduceNeg, Int.reducePow, Int.reduceSub, Int.reduceToNat, Nat.reduceAdd, Nat.reduceEqDiff, Nat.reduceLT, Nat.reduceLeDiff, Nat.reduceMul, reduceCtorEq, mkAsg, e24]
    refine hs _ ?_ ?_ ?_
    · simp (disch := omega) only [wu64, wu32, wu8, fdiv_nn, EO, ↓EP, EQ, EM, ↓reduceIte, Int.reduceAdd, Int.reduceEq, Int.reduceLE, Int.reduceLT, Int.reduceMul, Int.reduceNeg, Int.reducePow, Int.reduceSub, Int.reduceToNat, Nat.reduceAdd, Nat.reduceEqDiff, Nat.reduceLT, Nat.reduceLeDiff, Nat.reduceMul, reduceCtorEq]
    · simp (disch := omega) only [wu64, wu32, wu8, fdiv_nn, EO, ↓EP, EQ, EM, ↓reduceIte, Int.reduceAdd, Int.reduceEq, Int.reduceLE, Int.reduceLT, Int.reduceMul, Int.reduceNeg, Int.reducePow, Int.reduceSub, Int.reduceToNat, Nat.reduceAdd, Nat.reduceEqDiff, Nat.reduceLT, Nat.reduceLeDiff, Nat.reduceMul, reduceCtorEq]
    · simp (disch := omega) only [wu64, wu32, wu8, fdiv_nn, EO, ↓EP, EQ, EM, ↓reduceIte, Int.reduceAdd, Int.reduceEq, Int.reduceLE, Int.reduceLT, Int.reduceMul, Int.reduceNeg, Int.reducePow, Int.reduceSub, Int.reduceToNat, Nat.reduceAdd, Nat.reduceEqDiff, Nat.reduceLT, Nat.reduceLeDiff, Nat.reduceMul, reduceCtorEq]
  intro ρ' q5 q8 q9
  rw [hKK]
  refine ⟨rfl, rec, re1, by rw [hrec], ?_⟩
  rw [e5] at q5
  rw [e8] at q8
  generalize hW2 : W'.putObj (w0.heap.size + 5) (.loop { rec with state := .busy }) = W2 at *
  have k5 : W2.cell? ⟨w0.heap.size, 0, none⟩ = some (.int .i64 n) := co2.nb.has 0 _ rfl
  have k8 : W2.cell? ⟨w0.heap.size + 1, 0, none⟩ = some v := hbv2.has 0 _ rfl
  obtain ⟨B, d, rfl, hd, hrB, _⟩ := hsv2.read
  obtain ⟨A', c', hx', _, hr', _⟩ := hgl2.read
  by_cases hq : n ≤ ((maskL alg seed i).length : Int)
  · simp (disch := omega) only [wu64, wu32, wu8, fdiv_nn, EO, ↓EP, EQ, EM, ↓reduceIte, Int.reduceAdd, Int.reduceEq, Int.reduceLE, Int.reduceLT, Int.reduceMul, Int.reduceNeg, Int.reducePow, Int.reduceSub, Int.reduceToNat, Nat.reduceAdd, Nat.reduceEqDiff, Nat.reduceLT, Nat.reduceLeDiff, Nat.reduceMul, reduceCtorEq, mkBody, q5, q8, q9, k5, k8, hq]
    have er : ({ { rec with state := .busy } with state := .done, pending := some (.exit 0) } : Loop) = { rec with state := .done, pending := some (.exit 0) } := rfl
    have f3 := fr_put W2 (w0.heap.size + 5) (.loop { rec with state := .done, pending := some (.exit 0) })
    refine ⟨_, re2, .inr ⟨rfl, ?_⟩⟩
    exact ⟨co2.step f3 fun b e => by omega, put_at re2, i, _, hbv2.fr f3 (by omega), hsv2.fr f3 fun b e => (by have := huv b e; omega), huv, hq⟩
  · simp (disch := omega) only [wu64, wu32, wu8, fdiv_nn, EO, ↓EP, EQ, EM, ↓reduceIte, Int.reduceAdd, Int.reduceEq, Int.reduceLE, Int.reduceLT, Int.reduceMul, Int.reduceNeg, Int.reducePow, Int.reduceSub, Int.reduceToNat, Nat.reduceAdd, Nat.reduceEqDiff, Nat.reduceLT, Nat.reduceLeDiff, Nat.reduceMul, reduceCtorEq, mkBody, q5, q8, q9, k5, k8, hq]
    subst hx'
    have hl : ((maskL alg seed i).length : Int) < n := by omega
    have hln := dig_len a1 a4 (seed ++ be4 i)
    have hln : (blkM alg seed i).length = (sizeI alg).toNat := hln
    refine app_num hsv2 rfl hr' (by omega) (by decide) fun v' w3 ap => ?_
    have hbv3 := hbv2.fr ap.fr fun e => by have := huv _ e; omega
    have re3 := ap.fr.block _ (Array.getElem?_eq_some_iff.1 re2).1 fun e => by have := huv _ e; omega
    rw [re2] at re3
    have co3 := co2.step ap.fr fun b e => by have := huv _ e; omega
    have hz3 := ap.fr.size
    have hW2s : w0.heap.size + 5 < W2.heap.size := (Array.getElem?_eq_some_iff.1 re2).1
    have huv3 : ∀ b, blkOf v' = some b → w0.heap.size + 6 ≤ b := fun b e => by
      rcases ap.where_ with h | h
      · exact huv b (h ▸ e)
      · have := h b e; omega
    have hv1 : v'.oneCell' = true := by
      obtain ⟨_, _, e, _⟩ := ap.sl.read
      rw [e]; rfl
    simp (disch := omega) only [wu64, wu32, wu8, fdiv_nn, EO, ↓EP, EQ, EM, ↓reduceIte, Int.reduceAdd, Int.reduceEq, Int.reduceLE, Int.reduceLT, Int.reduceMul, Int.reduceNeg, Int.reducePow, Int.reduceSub, Int.reduceToNat, Nat.reduceAdd, Nat.reduceEqDiff, Nat.reduceLT, Nat.reduceLeDiff, Nat.reduceMul, reduceCtorEq, q8]
    refine st_one hbv3 (by simp) hv1 fun w4 p4 => ?_
    simp (disch := omega) only [wu64, wu32, wu8, fdiv_nn, EO, ↓EP, EQ, EM, ↓reduceIte, Int.reduceAdd, Int.reduceEq, Int.reduceLE, Int.reduceLT, Int.reduceMul, Int.reduceNeg, Int.reducePow, Int.reduceSub, Int.reduceToNat, Nat.reduceAdd, Nat.reduceEqDiff, Nat.reduceLT, Nat.reduceLeDiff, Nat.reduceMul, reduceCtorEq]
    have re4 : w4.heap[w0.heap.size + 5]? = _ := p4.fr.block _ (Array.getElem?_eq_some_iff.1 re3).1 (by omega)
    rw [re3] at re4
    have co4 := co3.step p4.fr fun b e => by omega
    have f5 := fr_put w4 (w0.heap.size + 5) (.loop rec)
    have er : ({ { rec with state := .busy } with state := .ready, pending := none } : Loop) = rec := by rw [hrec]
    refine ⟨_, re4, .inl ⟨rfl, ?_⟩⟩
    rw [er]
    refine ⟨co4.step f5 fun b e => by omega, put_at re4, ⟨v', ?_, ?_, huv3⟩, fun j e => ?_⟩
    · exact p4.blk.fr f5 (by omega)
    · rw [maskL_succ]
      exact (ap.sl.fr p4.fr fun b e => by have := huv3 b e; omega).fr f5 fun b e => by have := huv3 b e; omega
    · obtain rfl : j = i := by omega
      exact hl
end Go.Proofs.YtcgplgpdcfocpaaDoor.Spec
end
section
set_option linter.unusedVariables false
set_option linter.unusedSimpArgs false
namespace Go.Proofs.YtcgplgpdcfocpaaDoor.Spec
open Go Go.RowKit Go.Proofs Go.Proofs.YtcgplgpdcfocpaaDoor.Eng Go.Proofs.YtcgplgpdcfocpaaDoor.Code
set_option maxRecDepth 100000
attribute [local irreducible] callK S.W opsW scrW dig
theorem sizeI_zero {alg : Int} : sizeI alg = 0 ↔ (alg < 1 ∨ 4 < alg) := by
  constructor
  · intro h
    by_cases a1 : 1 ≤ alg
    · by_cases a4 : alg ≤ 4
      · have := mk_size a1 a4; omega
      · omega
    · omega
  · intro h
    unfold sizeI
    repeat' split
    all_goals omega
set_option maxHeartbeats 4000000 in
theorem mask_k {alg n : Int} {seed : List Int} {A : Option Addr} {c : Nat} {w : World} (hT : Tb w) (hc : seed.length ≤ c) (hr : Rd w A (nums .u8 seed)) (hseed : seed.length ≤ 16777000) {K : Value → World → Prop}
    (hK : ∀ v w', Vw .u8 w' v (maskR alg seed n).1 → (∀ b, blkOf v = some b → w.heap.size ≤ b) → Fr w w' nob → K (.tuple #[v, .int .i64 (maskR alg seed n).2]) w') : callK Tryd.prog 14 [.int .i64 alg, .slice A seed.length c, .int .i64 n] w K := by
  obtain ⟨A0, A1, A2, A3, A4, As, Bd, hb, h0, h1, h2, h3, hsa, hsb, h4, hpa, hpb⟩ := mask_form
  refine call_marks (m := 2) Tryd.func14 hb ?_
  refine wpIn_seq ?_
  refine eng_wide h0 (dfs := []) (by simp) rfl (K := fun e ρ w' => e = .normal ∧ New w w' [.int .i64 n] ∧ ρ 0 = .int .i64 alg ∧ ρ 1 = .slice A seed.length c ∧ ρ 5 = .pointer (some ⟨w.heap.size, 0, none⟩)) ?_ ?_
  · rw [env_args]
    simp (disch := omega) only [wu64, wu32, wu8, fdiv_nn, EO, ↓EP, EQ, EM, ↓reduceIte, Int.reduceAdd, Int.reduceEq, Int.reduceLE, Int.reduceLT, Int.reduceMul, Int.reduceNeg, Int.reducePow, Int.reduceSub, Int.reduceToNat, Nat.reduceAdd, Nat.reduceEqDiff, Nat.reduceLT, Nat.reduceLeDiff, Nat.reduceMul, reduceCtorEq]
    refine al_k [.int .i64 n] rfl fun w1 n1 => ?_
    simp (disch := omega) only [wu64, wu32, wu8, fdiv_nn, EO, ↓EP, EQ, EM, ↓reduceIte, Int.reduceAdd, Int.reduceEq, Int.reduceLE, Int.reduceLT, Int.reduceMul, Int.reduceNeg, Int.reducePow, Int.reduceSub, Int.reduceToNat, Nat.reduceAdd, Nat.reduceEqDiff, Nat.reduceLT, Nat.reduceLeDiff, Nat.reduceMul, reduceCtorEq]
    exact n1
  rintro e a w1 ⟨hsz, hdf, rfl, n1, e0, e1, e5⟩
  show (Go.Code.seq _ _).wpIn _ _ _ _ _ _
  have f1 := n1.fr nob
  have k5 : w1.cell? ⟨w.heap.size, 0, none⟩ = some (.int .i64 n) := n1.blk.has 0 _ rfl
  refine wpIn_seq ?_
  refine eng_wide h1 (dfs := []) hsz hdf (K := fun e ρ w' => w' = w1 ∧ ((e = .normal ∧ ¬ (sizeI alg = 0 ∨ n < 0 ∨ 2048 < n) ∧ ρ 0 = .int .i64 alg ∧ ρ 1 = .slice A seed.length c ∧ ρ 5 = .pointer (some ⟨w.heap.size, 0, none⟩)) ∨ (e = .ret ∧ (sizeI alg = 0 ∨ n < 0 ∨ 2048 < n) ∧ ρ 6 = .slice none 0 0 ∧ ρ 7 = .int .i64 1))) ?_ ?_
  · simp (disch := omega) only [wu64, wu32, wu8, fdiv_nn, EO, ↓EP, EQ, EM, ↓reduceIte, Int.reduceAdd, Int.reduceEq, Int.reduceLE, Int.reduceLT, Int.reduceMul, Int.reduceNeg, Int.reducePow, Int.reduceSub, Int.reduceToNat, Nat.reduceAdd, Nat.reduceEqDiff, Nat.reduceLT, Nat.reduceLeDiff, Nat.reduceMul, reduceCtorEq, e0, e1, e5, k5]
    refine size_spec alg _ _ ?_
    by_cases c0 : sizeI alg = 0
    · simp (disch := omega) only [wu64, wu32, wu8, fdiv_nn, EO, ↓EP, EQ, EM, ↓reduceIte, Int.reduceAdd, Int.reduceEq, Int.reduceLE, Int.reduceLT, Int.reduceMul, Int.reduceNeg, Int.reducePow, Int.reduceSub, Int.reduceToNat, Nat.reduceAdd, Nat.reduceEqDiff, Nat.reduceLT, Nat.reduceLeDiff, Nat.reduceMul, reduceCtorEq, e0, e1, e5, k5, c0]
      simp
    · by_cases c1 : n < 0
      · simp (disch := omega) only [wu64, wu32, wu8, fdiv_nn, EO, ↓EP, EQ, EM, ↓reduceIte, Int.reduceAdd, Int.reduceEq, Int.reduceLE, Int.reduceLT, Int.reduceMul, Int.reduceNeg, Int.reducePow, Int.reduceSub, Int.reduceToNat, Nat.reduceAdd, Nat.reduceEqDiff, Nat.reduceLT, Nat.reduceLeDiff, Nat.reduceMul, reduceCtorEq, e0, e1, e5, k5, c0, c1]
        simp
      · by_cases c2 : 2048 < n
        · simp (disch := omega) only [wu64, wu32, wu8, fdiv_nn, EO, ↓EP, EQ, EM, ↓reduceIte, Int.reduceAdd, Int.reduceEq, Int.reduceLE, Int.reduceLT, Int.reduceMul, Int.reduceNeg, Int.reducePow, Int.reduceSub, Int.reduceToNat, Nat.reduceAdd, Nat.reduceEqDiff, Nat.reduceLT, Nat.reduceLeDiff, Nat.reduceMul, reduceCtorEq, e0, e1, e5, k5, c0, c1, c2]
          simp
        · simp (disch := omega) only [wu64, wu32, wu8, fdiv_nn, EO, ↓EP, EQ, EM, ↓reduceIte, Int.reduceAdd, Int.reduceEq, Int.reduceLE, Int.reduceLT, Int.reduceMul, Int.reduceNeg, Int.reducePow, Int.reduceSub, Int.reduceToNat, Nat.reduceAdd, Nat.reduceEqDiff, Nat.reduceLT, Nat.reduceLeDiff, Nat.reduceMul, reduceCtorEq, e0, e1, e5, k5, c0, c1, c2]
          simp
  rintro e a w' ⟨hsz, hdf, rfl, ⟨rfl, hbad, e0, e1, e5⟩ | ⟨rfl, hbad, e6, e7⟩⟩
  rotate_left
  · show LeavesInM _ _ _ _ _ _ a.defers _ _
    rw [hdf]
    have hR : maskR alg seed n = ([], 1) := if_pos hbad
    obtain ⟨u, hu, e⟩ := results_run (P := Tryd.prog) (fn := Tryd.f14) (a := a) (w := w') (l := [.inl 6, .inl 7]) (by rfl) (K := fun u => u = .tuple #[.slice none 0 0, .int .i64 1]) (by show packV [envOf a 6, envOf a 7] = _; rw [e6, e7]; rfl)
    refine ⟨u, hu, u, rfl, ?_⟩
    rw [e]
    have := hK (.slice none 0 0) w' (by rw [hR]; exact Vw.nil _ _) (fun b e => by cases e) f1
    rw [hR] at this
    exact this
  obtain ⟨g0, gn, gx⟩ : sizeI alg ≠ 0 ∧ 0 ≤ n ∧ n ≤ 2048 := by omega
  have ha : ¬ (alg < 1 ∨ 4 < alg) := fun h => g0 (sizeI_zero.2 h)
  have a1 : 1 ≤ alg := by omega
  have a4 : alg ≤ 4 := by omega
  have hzz := mk_size a1 a4
  have hR : maskR alg seed n = ((maskL alg seed n.toNat).take n.toNat, 0) := if_neg hbad
  rw [hR] at hK
  show (Go.Code.seq _ _).wpIn _ _ _ _ _ _
  refine wpIn_seq ?_
  refine eng_wide h2 (dfs := []) hsz hdf (K := fun e ρ w'' => e = .normal ∧ New w' w'' [.slice none 0 0] ∧ ρ 0 = .int .i64 alg ∧ ρ 1 = .slice A seed.length c ∧ ρ 5 = .pointer (some ⟨w.heap.size, 0, none⟩) ∧ ρ 8 = .pointer (some ⟨w'.heap.size, 0, none⟩)) ?_ ?_
  · simp (disch := omega) only [wu64, wu32, wu8, fdiv_nn, EO, ↓EP, EQ, EM, ↓reduceIte, Int.reduceAdd, Int.reduceEq, Int.reduceLE, Int.reduceLT, Int.reduceMul, Int.reduceNeg, Int.reducePow, Int.reduceSub, Int.reduceToNat, Nat.reduceAdd, Nat.reduceEqDiff, Nat.reduceLT, Nat.reduceLeDiff, Nat.reduceMul, reduceCtorEq, e0, e1, e5]
    refine al_k [.slice none 0 0] rfl fun w2 n2 => ?_
    simp (disch := omega) only [wu64, wu32, wu8, fdiv_nn, EO, ↓EP, EQ, EM, ↓reduceIte, Int.reduceAdd, Int.reduceEq, Int.reduceLE, Int.reduceLT, Int.reduceMul, Int.reduceNeg, Int.reducePow, Int.reduceSub, Int.reduceToNat, Nat.reduceAdd, Nat.reduceEqDiff, Nat.reduceLT, Nat.reduceLeDiff, Nat.reduceMul, reduceCtorEq, e0, e1, e5]
    exact n2
  clear hsz hdf e0 e1 e5
  rintro e a2 w2 ⟨hsz, hdf, rfl, n2, e0, e1, e5, e8⟩
  rw [n1.size] at e8
  show (Go.Code.seq _ _).wpIn _ _ _ _ _ _
  refine wpIn_seq ?_
  refine wpIn_seq ?_
  refine eng_wide h3 (dfs := []) hsz hdf (K := fun e ρ w4 => e = .normal ∧ (∃ w3, New w2 w3 [.int .i64 alg] ∧ New w3 w4 [.slice A seed.length c]) ∧ ρ 23 = .func (.func 50) #[] #[.pointer (some ⟨w2.heap.size, 0, none⟩), .pointer (some ⟨w2.heap.size + 1, 0, none⟩)] ∧ ρ 5 = .pointer (some ⟨w.heap.size, 0, none⟩) ∧ ρ 8 = .pointer (some ⟨w.heap.size + 1, 0, none⟩)) ?_ ?_
  · simp (disch := omega) only [wu64, wu32, wu8, fdiv_nn, EO, ↓EP, EQ, EM, ↓reduceIte, Int.reduceAdd, Int.reduceEq, Int.reduceLE, Int.reduceLT, Int.reduceMul, Int.reduceNeg, Int.reducePow, Int.reduceSub, Int.reduceToNat, Nat.reduceAdd, Nat.reduceEqDiff, Nat.reduceLT, Nat.reduceLeDiff, Nat.reduceMul, reduceCtorEq, e0, e1, e5, e8]
    refine blocks_k fun w3 w4 n3 n4 => ?_
    simp (disch := omega) only [wu64, wu32, wu8, fdiv_nn, EO, ↓EP, EQ, EM, ↓reduceIte, Int.reduceAdd, Int.reduceEq, Int.reduceLE, Int.reduceLT, Int.reduceMul, Int.reduceNeg, Int.reducePow, Int.reduceSub, Int.reduceToNat, Nat.reduceAdd, Nat.reduceEqDiff, Nat.reduceLT, Nat.reduceLeDiff, Nat.reduceMul, reduceCtorEq, e0, e1, e5, e8]
    exact ⟨w3, n3, n4⟩
  clear hsz hdf e0 e1 e5 e8
  rintro e a3 w4 ⟨hsz, hdf, rfl, ⟨w3, n3, n4⟩, e23, e5, e8⟩
  have s1 := n1.size
  have s2 := n2.size
  have s3 := n3.size
  have s4 := n4.size
  rw [show w2.heap.size = w.heap.size + 2 by omega] at e23
  show (Go.Code.block 0 _).wpIn _ _ _ _ _ _
  refine wpIn_block ?_
  refine range_eng (by rw [eval_env]; exact e23) (fun args w => call_run Tryd.func50 (by kernel_rfl) (by kernel_rfl) args w) fun fn => ?_
  obtain ⟨rec, hrec⟩ : ∃ rec, rec = recOf w4 fn a3.tmps #[24] As Bd := ⟨_, rfl⟩
  rw [← hrec]
  have hs4 : w4.heap.size = w.heap.size + 4 := by omega
  obtain ⟨W, hW⟩ : ∃ W, W = (w4.alloc (.deferred (some []))).alloc (.loop rec) := ⟨_, rfl⟩
  have f4 : Fr w4 (w4.alloc (.deferred (some []))) nob := ob_fr _ _
  have f5 : Fr (w4.alloc (.deferred (some []))) W nob := by rw [hW]; exact ob_fr _ _
  have r5 : W.heap[w.heap.size + 5]? = some (.loop rec) := by
    have := ob_at (w4.alloc (.deferred (some []))) (.loop rec)
    rw [ob_size, hs4, ← hW] at this
    exact this
  have r4 : W.heap[w.heap.size + 4]? = some (.deferred (some [])) := by
    have h := ob_at w4 (.deferred (some []))
    rw [← f5.block _ (by rw [ob_size]; omega) (fun e => e), hs4] at h
    exact h
  have fw : Fr w4 W nob := f4.nb f5
  have ff : Fr w W nob := (((f1.nb (n2.fr nob)).nb (n3.fr nob)).nb (n4.fr nob)).nb fw
  have bo : Blk W (w.heap.size + 1) [.slice none 0 0] := by
    have := n2.blk
    rw [s1] at this
    exact ((this.nb (n3.fr nob)).nb (n4.fr nob)).nb fw
  have bn : Blk W w.heap.size [.int .i64 n] := (((n1.blk.nb (n2.fr nob)).nb (n3.fr nob)).nb (n4.fr nob)).nb fw
  have ba : Blk W (w.heap.size + 2) [.int .i64 alg] := by
    have := n3.blk
    rw [show w2.heap.size = w.heap.size + 2 by omega] at this
    exact (this.nb (n4.fr nob)).nb fw
  have bs : Blk W (w.heap.size + 3) [.slice A seed.length c] := by
    have := n4.blk
    rw [show w3.heap.size = w.heap.size + 3 by omega] at this
    exact this.nb fw
  have hI0 : MI w alg n seed (.slice A seed.length c) rec 0 W := ⟨⟨bn, ba, bs, r4, ff⟩, r5, ⟨_, bo, Sl.nil _ _, fun b e => by cases e⟩, fun j e => by omega⟩
  rw [← hW, hs4]
  have hrec' : rec = ⟨.ready, none, fn, a3.tmps, #[24], As, Bd, w.heap.size + 4⟩ := by rw [hrec, ← hs4]; rfl
  have hit := blk_iter (m := 0) (N := 2050) (l := w.heap.size + 5) (ba := w.heap.size + 2) (bs := w.heap.size + 3) (I := fun i W => MI w alg n seed (.slice A seed.length c) rec i W) (Ix := fun W => MX w alg n seed (.slice A seed.length c) rec W) a1 a4 hseed (by decide)
    (fun i W h => by
      rcases i with _ | j
      · omega
      · have := h.bd j rfl
        rw [maskL_len a1 a4] at this
        have : j ≤ j * (sizeI alg).toNat := Nat.le_mul_of_pos_right _ (by omega)
        omega)
    (fun i W h => ⟨h.co.ab.has 0 _ rfl, ⟨A, c, h.co.sb.has 0 _ rfl, hc, hr.nb h.co.fr⟩, hT.fr h.co.fr (fun x => x) (fun x => x)⟩)
    (fun i W A' c' W' h g => mask_round a1 a4 gx hpa hpb hsa hsb hsz e5 e8 hrec' h g) hI0
  refine hit.mono ?_
  rintro e W6 ⟨hv, hx⟩
  refine ⟨hv, _, hx.re, (fun h => by cases h), ?_⟩
  show (Go.Code.exit 0).wpIn _ _ _ _ _ _
  refine wpIn_exit ?_
  show A4.wpIn _ _ _ _ _ _
  have f7 := fr_put W6 (w.heap.size + 5) (.loop { { rec with state := .done, pending := some (.exit 0) } with state := .exhausted })
  generalize W6.putObj (w.heap.size + 5) _ = W7 at f7
  obtain ⟨i, v, hbv, hsv, huv, hlen⟩ := hx.out
  have co7 := hx.co.step f7 fun b e => by omega
  have hbv7 := hbv.fr f7 (by omega)
  have hsv7 := hsv.fr f7 fun b e => by have := huv b e; omega
  obtain ⟨B, d, rfl, hd, hrB, _⟩ := hsv7.read
  have k5 : W7.cell? ⟨w.heap.size, 0, none⟩ = some (.int .i64 n) := co7.nb.has 0 _ rfl
  have k8 : W7.cell? ⟨w.heap.size + 1, 0, none⟩ = some _ := hbv7.has 0 _ rfl
  refine eng_wide h4 (dfs := [{ target := .collected (w.heap.size + 4), args := #[] }]) (by exact hsz) (by show _ :: a3.defers = _; rw [hdf]) (K := fun e ρ w'' => e = .ret ∧ w'' = W7 ∧ ∃ A' c', ρ 6 = .slice A' n.toNat c' ∧ ρ 7 = .int .i64 0 ∧ n.toNat ≤ c' ∧ Rd W7 A' (nums .u8 ((maskL alg seed n.toNat).take n.toNat)) ∧ ∀ b, blkOf (.slice A' n.toNat c') = some b → w.heap.size + 6 ≤ b) ?_ ?_
  · have eo : envOf { tmps := a3.tmps, defers := { target := Target.collected (w.heap.size + 4), args := #[] } :: a3.defers } = envOf a3 := rfl
    rw [eo]
    simp (disch := omega) only [wu64, wu32, wu8, fdiv_nn, EO, ↓EP, EQ, EM, ↓reduceIte, Int.reduceAdd, Int.reduceEq, Int.reduceLE, Int.reduceLT, Int.reduceMul, Int.reduceNeg, Int.reducePow, Int.reduceSub, Int.reduceToNat, Nat.reduceAdd, Nat.reduceEqDiff, Nat.reduceLT, Nat.reduceLeDiff, Nat.reduceMul, reduceCtorEq, e5, e8, k5, k8]
    rw [i_slc_hm]
    have hnd : n ≤ (d : Int) := by omega
    simp (disch := omega) only [wu64, wu32, wu8, fdiv_nn, EO, ↓EP, EQ, EM, ↓reduceIte, Int.reduceAdd, Int.reduceEq, Int.reduceLE, Int.reduceLT, Int.reduceMul, Int.reduceNeg, Int.reducePow, Int.reduceSub, Int.reduceToNat, Nat.reduceAdd, Nat.reduceEqDiff, Nat.reduceLT, Nat.reduceLeDiff, Nat.reduceMul, reduceCtorEq]
    refine ⟨B, n.toNat, rfl, Nat.le_refl _, ?_, fun b e => huv b ?_⟩
    · rw [← maskL_take a1 a4 seed (by omega : n.toNat ≤ (maskL alg seed i).length)]
      exact hrB.take _
    · cases B with
      | none => cases e
      | some p => exact e
  rintro e a W8 ⟨_, hdf, rfl, rfl, A', c', e6, e7, hc', hr', huv'⟩
  show LeavesInM _ _ _ _ _ _ a.defers _ _
  rw [hdf]
  refine ⟨by simp, .inl ⟨_, _, rfl, run_takeDeferred co7.de, ?_⟩⟩
  have f9 := fr_put W8 (w.heap.size + 4) (.deferred none)
  generalize W8.putObj (w.heap.size + 4) (.deferred none) = W9 at f9
  obtain ⟨u, hu, e⟩ := results_run (P := Tryd.prog) (fn := Tryd.f14) (a := a) (w := W9) (l := [.inl 6, .inl 7]) (by rfl) (K := fun u => u = .tuple #[.slice A' n.toNat c', .int .i64 0]) (by show packV [envOf a 6, envOf a 7] = _; rw [e6, e7]; rfl)
  refine ⟨u, hu, u, rfl, ?_⟩
  rw [e]
  have hln : ((maskL alg seed n.toNat).take n.toNat).length = n.toNat := by
    rw [List.length_take, maskL_len a1 a4]
    have : n.toNat ≤ n.toNat * (sizeI alg).toNat := Nat.le_mul_of_pos_right _ (by omega)
    omega
  refine hK _ W9 (Vw.of hln hc' (hr'.fr f9 (.inr fun p e x => ?_))) (fun b e => by have := huv' b e; omega) (co7.fr.trans f9 fun x hx e => by omega)
  subst e
  have := huv' _ rfl
  omega
end Go.Proofs.YtcgplgpdcfocpaaDoor.Spec
end
section
set_option linter.unusedVariables false
set_option linter.unusedSimpArgs false
namespace Go.Proofs.YtcgplgpdcfocpaaDoor.Spec
open Go Go.RowKit Go.Proofs Go.Proofs.YtcgplgpdcfocpaaDoor.Eng Go.Proofs.YtcgplgpdcfocpaaDoor.Code
set_option maxRecDepth 100000
attribute [local irreducible] callK S.W opsW scrW
def dgs : Nat → Nat → List Int
  | 0, _ => []
  | n + 1, t => ((t % 256 : Nat) : Int) :: dgs n (t / 256)
theorem dgs_len (n t : Nat) : (dgs n t).length = n := by
  induction n generalizing t with
  | zero => rfl
  | succ n ih => simp [dgs, ih]
theorem digits_dgs : ∀ (n t : Nat) (acc : Array Value), (Extern.BytealgMakeNoZero.digits n t acc).toList = acc.toList ++ nums .u8 (dgs n t)
  | 0, _, acc => by simp [Extern.BytealgMakeNoZero.digits, dgs, nums]
  | n + 1, t, acc => by
    rw [Extern.BytealgMakeNoZero.digits, digits_dgs n]
    simp [dgs, nums]
theorem run_mnz {P : Program} (w : World) (ps : Array TypeId) (t e : TypeId) (ht : P.underlying t = some (.slice e)) (n : Nat) (hn : n ≤ 281474976710656) :
    ∃ (l : List Int) (cs : Array Value), (Extern.BytealgMakeNoZero.makeNoZero ps #[t] #[.int .i64 n]).run P w = .ok (.slice (some ⟨w.heap.size, 0, none⟩) n l.length) (w.drew.drew.alloc (.cells cs e)) ∧ n ≤ l.length ∧ cs.toList = nums .u8 l := by
  have hdef : Extern.BytealgMakeNoZero.makeNoZero ps #[t] #[.int .i64 n] =
      (do
        let .slice elem ← underlying t | stuck "bytealg.MakeNoZero: slice type expected"
        if (n : Int) < 0 || (n : Int) > 2 ^ 48 then runtimePanic (.error "makeslice: len out of range")
        let cap ← choose (.appendCap (n : Int).toNat 0 elem)
        askRoom cap
        let bytes ← choose (.extern "internal/bytealg.MakeNoZero.bytes" 0)
        let a ← newRow elem (Extern.BytealgMakeNoZero.digits cap bytes #[])
        pure (.slice (some a) (n : Int).toNat cap)) := rfl
  refine ⟨dgs (grownCap w n 0 e) ((Question.extern "internal/bytealg.MakeNoZero.bytes" 0).cut (w.tape (w.drawn + 1) (.extern "internal/bytealg.MakeNoZero.bytes" 0))), Extern.BytealgMakeNoZero.digits (grownCap w n 0 e) ((Question.extern "internal/bytealg.MakeNoZero.bytes" 0).cut (w.tape (w.drawn + 1) (.extern "internal/bytealg.MakeNoZero.bytes" 0))) #[], ?_, ?_, ?_⟩
  · rw [hdef, dgs_len]
    have h1 : ¬ (n : Int) < 0 := by omega
    have h2 : ¬ (281474976710656 : Int) < (n : Int) := by omega
    simp [run_underlying ht, h1, h2, Question.forced, newRow, grownCap]
  · rw [dgs_len]
    simpa using grownCap_ge w n 0 e
  · rw [digits_dgs]; simp
theorem mnz_k {w : World} {n : Nat} {ρ : Env} {y : Operand} {ats : Array TypeId} {K : Value → World → Prop} (hn : n ≤ 281474976710656) (hy : ev ρ y = .int .i64 n)
    (hK : ∀ (l : List Int) w', n ≤ l.length → New w w' (nums .u8 l) → K (.slice (some ⟨w.heap.size, 0, none⟩) n l.length) w') : rawT Tryd.prog (.call { callee := .value (.func 60), args := #[y], argTypes := ats }) ρ w K .mk := by
  intro o ho
  obtain ⟨d, op, ty, pos, af, gd⟩ := o
  subst ho
  obtain ⟨l, cs, hr, hl, hcs⟩ := run_mnz (P := Tryd.prog) w Tryd.f60.params 31 5 Tryd.underlying31 n hn
  have he := run_callFunc_extern (P := Tryd.prog) (e := Extern.BytealgMakeNoZero.makeNoZero Tryd.f60.params #[31]) Tryd.func60 (by kernel_rfl) (by kernel_rfl) (by kernel_rfl) (by kernel_rfl) #[.int .i64 n] w
  rw [hr] at he
  have hrun : (execOp (ev ρ) ⟨d, .call { callee := .value (.func 60), args := #[y], argTypes := ats }, ty, pos, af, gd⟩).run Tryd.prog w = .ok (.value (.slice (some ⟨w.heap.size, 0, none⟩) n l.length)) (w.drew.drew.alloc (.cells cs 5)) := by
    simp only [Result.andThen_ok] at he
    simp [execOp, resolve, Deferred.ofValue, invoke, hy, he]
    simp [ev, he]
  unfold runK
  rw [hrun]
  refine hK l _ hl ?_
  have hb : Below w.heap.size w (w.drew.drew.alloc (.cells cs 5)) := (below_drewN' (Below.refl _ _) 2).alloc (Nat.le_refl _) _
  exact ⟨by simp only [size_alloc]; rfl, Blk.new' hcs _, fun h => (h.drewN 2).alloc _, fun hB h => (below_drewN' h 2).alloc hB _, fun h => h.below hb⟩
theorem and_mask : ∀ a : Nat, a < 2049 → bits .and .u64 (a : Int) 4294967295 = (a : Int) := by decide +kernel
theorem mul64_one {n : Nat} {w : World} {K : Value → World → Prop} (hn : n ≤ 2048) (hK : K (.tuple #[.int .u64 0, .int .u64 n]) w) : callK Tryd.prog 89 [.int .u64 1, .int .u64 n] w K := by
  refine call_of Tryd.func89 Code.h89 (by simp [Code.c89]) ?_
  have q1 : (1 : Int) / 4294967296 = 0 := by decide
  have q2 : (n : Int) / 4294967296 = 0 := by omega
  have q3 := and_mask n (by omega)
  have q4 : bits .and .u64 1 4294967295 = 1 := and_mask 1 (by omega)
  have q5 : bits .and .u64 0 4294967295 = 0 := and_mask 0 (by omega)
  simp (disch := omega) only [wu64, wu32, wu8, fdiv_nn, EO, ↓EP, EQ, EM, ↓reduceIte, Int.reduceAdd, Int.reduceEq, Int.reduceLE, Int.reduceLT, Int.reduceMul, Int.reduceNeg, Int.reducePow, Int.reduceSub, Int.reduceToNat, Nat.reduceAdd, Nat.reduceEqDiff, Nat.reduceLT, Nat.reduceLeDiff, Nat.reduceMul, reduceCtorEq, Code.c89, q1, q2, q3, q4, q5, Int.zero_mul, Int.mul_zero, Int.one_mul, Int.mul_one, Int.zero_add, Int.add_zero, Int.zero_ediv]
  exact hK
theorem mul_one_k {n : Nat} {w : World} {K : Value → World → Prop} (hn : n ≤ 2048) (hK : K (.tuple #[.int .u64 0, .int .u64 n]) w) : callK Tryd.prog 59 [.int .u64 1, .int .u64 n] w K := by
  refine call_of Tryd.func59 Code.h59 (by simp [Code.c59]) ?_
  simp (disch := omega) only [wu64, wu32, wu8, fdiv_nn, EO, ↓EP, EQ, EM, ↓reduceIte, Int.reduceAdd, Int.reduceEq, Int.reduceLE, Int.reduceLT, Int.reduceMul, Int.reduceNeg, Int.reducePow, Int.reduceSub, Int.reduceToNat, Nat.reduceAdd, Nat.reduceEqDiff, Nat.reduceLT, Nat.reduceLeDiff, Nat.reduceMul, reduceCtorEq, Code.c59]
  refine mul64_one hn ?_
  simp (disch := omega) only [wu64, wu32, wu8, fdiv_nn, EO, ↓EP, EQ, EM, ↓reduceIte, Int.reduceAdd, Int.reduceEq, Int.reduceLE, Int.reduceLT, Int.reduceMul, Int.reduceNeg, Int.reducePow, Int.reduceSub, Int.reduceToNat, Nat.reduceAdd, Nat.reduceEqDiff, Nat.reduceLT, Nat.reduceLeDiff, Nat.reduceMul, reduceCtorEq]
  exact hK
theorem cpy_num {k : IntKind} {w : World} {b o n c m d : Nat} {B : Option Addr} {L l : List Int} {K : Value → World → Prop} (hb : Blk w b (nums k L)) (hy : Rd w B (nums k l)) (hl : l.length = Nat.min m n) (h0 : 0 < l.length) (ho : o + l.length ≤ L.length)
    (hK : ∀ w', Put w w' b (nums k (L.take o ++ l ++ L.drop (o + l.length))) → K (.int .i64 l.length) w') : cpyT 1 (.slice (some ⟨b, o, none⟩) n c) (.slice B m d) w K .mk := by
  refine ⟨nums k l, by rw [nums_length, Nat.mul_one, hl], fun _ => ?_, fun h => by omega⟩
  obtain ⟨p, hp, hcl⟩ := hy.cells (by rw [nums_length]; exact h0)
  refine ⟨p, b, o, hp, hcl, rfl, ?_, ?_, ?_, ?_⟩
  · intro v hv
    unfold nums at hv
    rw [List.mem_map] at hv
    obtain ⟨_, _, rfl⟩ := hv
    rfl
  · intro j hj
    rw [nums_length] at hj
    exact hb.isSome (by rw [nums_length]; omega)
  · intro j hj
    exact hb.frozen _
  · rw [← hl]
    refine hK _ ?_
    have := put_cells hb o (nums k l) (by rw [nums_length, nums_length]; exact ho)
    have e : (nums k L).take o ++ nums k l ++ (nums k L).drop (o + (nums k l).length) = nums k (L.take o ++ l ++ L.drop (o + l.length)) := by
      rw [nums_length]; simp [nums]
    rw [e] at this
    exact this
theorem fr_drewN (w : World) (n : Nat) : Fr w (w.drewN n) nob := ⟨below_drewN' (Below.refl _ _) n, fun b hb _ => rfl⟩
set_option maxHeartbeats 4000000 in
theorem repeat_k {w : World} {B : Option Addr} {c n : Nat} {x : Int} (hb : Rd w B (nums .u8 [x])) (h1 : 1 ≤ n) (h2 : n ≤ 2048) {K : Value → World → Prop}
    (hK : ∀ A c w', n ≤ c → Rd w' A (nums .u8 (List.replicate n x)) → Fr w w' nob → K (.slice A n c) w') : callK Tryd.prog 33 [.slice B 1 c, .int .i64 n] w K := by
  refine call_of Tryd.func33 Code.h33 (by simp [Code.c33]) ?_
  simp (disch := omega) only [wu64, wu32, wu8, fdiv_nn, EO, ↓EP, EQ, EM, ↓reduceIte, Int.reduceAdd, Int.reduceEq, Int.reduceLE, Int.reduceLT, Int.reduceMul, Int.reduceNeg, Int.reducePow, Int.reduceSub, Int.reduceToNat, Nat.reduceAdd, Nat.reduceEqDiff, Nat.reduceLT, Nat.reduceLeDiff, Nat.reduceMul, reduceCtorEq, Code.c33, W_join]
  refine mul_one_k h2 ?_
  simp (disch := omega) only [wu64, wu32, wu8, fdiv_nn, EO, ↓EP, EQ, EM, ↓reduceIte, Int.reduceAdd, Int.reduceEq, Int.reduceLE, Int.reduceLT, Int.reduceMul, Int.reduceNeg, Int.reducePow, Int.reduceSub, Int.reduceToNat, Nat.reduceAdd, Nat.reduceEqDiff, Nat.reduceLT, Nat.reduceLeDiff, Nat.reduceMul, reduceCtorEq, W_join]
  refine mnz_k (n := n) (by omega) (by simp (disch := omega) only [wu64, wu32, wu8, fdiv_nn, EO, ↓EP, EQ, EM, ↓reduceIte, Int.reduceAdd, Int.reduceEq, Int.reduceLE, Int.reduceLT, Int.reduceMul, Int.reduceNeg, Int.reducePow, Int.reduceSub, Int.reduceToNat, Nat.reduceAdd, Nat.reduceEqDiff, Nat.reduceLT, Nat.reduceLeDiff, Nat.reduceMul, reduceCtorEq]) fun L w1 hl n1 => ?_
  have f1 := n1.fr nob
  have hcl : (n : Int) ≤ (L.length : Int) := by omega
  simp (disch := omega) only [wu64, wu32, wu8, fdiv_nn, EO, ↓EP, EQ, EM, ↓reduceIte, Int.reduceAdd, Int.reduceEq, Int.reduceLE, Int.reduceLT, Int.reduceMul, Int.reduceNeg, Int.reducePow, Int.reduceSub, Int.reduceToNat, Nat.reduceAdd, Nat.reduceEqDiff, Nat.reduceLT, Nat.reduceLeDiff, Nat.reduceMul, reduceCtorEq, i_slc_hm]
  have hL0 : (0 : Int) ≤ L.length := by omega
  refine cpy_num (l := [x]) n1.blk (hb.nb f1) (Nat.min_eq_left h1).symm (by simp) (by simp; omega) fun w2 p2 => ?_
  simp (disch := omega) only [wu64, wu32, wu8, fdiv_nn, EO, ↓EP, EQ, EM, ↓reduceIte, Int.reduceAdd, Int.reduceEq, Int.reduceLE, Int.reduceLT, Int.reduceMul, Int.reduceNeg, Int.reducePow, Int.reduceSub, Int.reduceToNat, Nat.reduceAdd, Nat.reduceEqDiff, Nat.reduceLT, Nat.reduceLeDiff, Nat.reduceMul, reduceCtorEq]
  have hb2 : Blk w2 w.heap.size (nums .u8 (List.replicate 1 x ++ L.drop 1)) := by simpa using p2.blk
  have f2 : Fr w w2 nob := f1.trans p2.fr fun y hy e => by omega
  refine loop_inv (fun t ρ w' => ∃ j : Nat, 1 ≤ j ∧ j ≤ n ∧ ρ 10 = .int .i64 j ∧ Blk w' w.heap.size (nums .u8 (List.replicate j x ++ L.drop j)) ∧ Fr w w' nob ∧ t = n - j) _ ⟨1, Nat.le_refl _, h1, by simp (disch := omega) only [wu64, wu32, wu8, fdiv_nn, EO, ↓EP, EQ, EM, ↓reduceIte, Int.reduceAdd, Int.reduceEq, Int.reduceLE, Int.reduceLT, Int.reduceMul, Int.reduceNeg, Int.reducePow, Int.reduceSub, Int.reduceToNat, Nat.reduceAdd, Nat.reduceEqDiff, Nat.reduceLT, Nat.reduceLeDiff, Nat.reduceMul, reduceCtorEq], hb2, f2, rfl⟩ ?_
  rintro t ρ w3 hf ⟨j, hj1, hjn, h10, hb3, f3, rfl⟩ N hN
  have r7 : ρ 7 = .int .i64 n := by rw [hf 7 rfl]; simp (disch := omega) only [wu64, wu32, wu8, fdiv_nn, EO, ↓EP, EQ, EM, ↓reduceIte, Int.reduceAdd, Int.reduceEq, Int.reduceLE, Int.reduceLT, Int.reduceMul, Int.reduceNeg, Int.reducePow, Int.reduceSub, Int.reduceToNat, Nat.reduceAdd, Nat.reduceEqDiff, Nat.reduceLT, Nat.reduceLeDiff, Nat.reduceMul, reduceCtorEq]
  have r8 : ρ 8 = .int .i64 n := by rw [hf 8 rfl]; simp (disch := omega) only [wu64, wu32, wu8, fdiv_nn, EO, ↓EP, EQ, EM, ↓reduceIte, Int.reduceAdd, Int.reduceEq, Int.reduceLE, Int.reduceLT, Int.reduceMul, Int.reduceNeg, Int.reducePow, Int.reduceSub, Int.reduceToNat, Nat.reduceAdd, Nat.reduceEqDiff, Nat.reduceLT, Nat.reduceLeDiff, Nat.reduceMul, reduceCtorEq]
  have r9 : ρ 9 = .slice (some ⟨w.heap.size, 0, none⟩) n n := by rw [hf 9 rfl]; simp (disch := omega) only [wu64, wu32, wu8, fdiv_nn, EO, ↓EP, EQ, EM, ↓reduceIte, Int.reduceAdd, Int.reduceEq, Int.reduceLE, Int.reduceLT, Int.reduceMul, Int.reduceNeg, Int.reducePow, Int.reduceSub, Int.reduceToNat, Nat.reduceAdd, Nat.reduceEqDiff, Nat.reduceLT, Nat.reduceLeDiff, Nat.reduceMul, reduceCtorEq]
  clear hf
  by_cases hc : (j : Int) < (n : Int)
  · have hs : subA (some ⟨w.heap.size, 0, none⟩) n j 1 = some ⟨w.heap.size, j, none⟩ := by
      unfold subA
      rw [if_neg (by omega)]
      simp [Addr.add]
      omega
    obtain ⟨q, hq⟩ : ∃ q, q = Nat.min j (n - j) := ⟨_, rfl⟩
    have hq0 : 0 < q := by rw [hq]; exact Nat.lt_min.2 ⟨by omega, by omega⟩
    have hq1 : q ≤ j := by rw [hq]; exact Nat.min_le_left _ _
    have hq2 : q ≤ n - j := by rw [hq]; exact Nat.min_le_right _ _
    simp (disch := omega) only [wu64, wu32, wu8, fdiv_nn, EO, ↓EP, EQ, EM, ↓reduceIte, Int.reduceAdd, Int.reduceEq, Int.reduceLE, Int.reduceLT, Int.reduceMul, Int.reduceNeg, Int.reducePow, Int.reduceSub, Int.reduceToNat, Nat.reduceAdd, Nat.reduceEqDiff, Nat.reduceLT, Nat.reduceLeDiff, Nat.reduceMul, reduceCtorEq, h10, r7, r8, r9, hc, hs]
    intro m
    have fd := fr_drewN w3 (1 + m)
    have hrd : Rd (w3.drewN (1 + m)) (some ⟨w.heap.size, 0, none⟩) (nums .u8 (List.replicate q x)) := by
      refine (hb3.rd 0 (n := q) ?_).nb fd
      rw [List.drop_zero, nums_take, List.take_append_of_le_length (by simp; omega), List.take_replicate, Nat.min_eq_left hq1]
    refine cpy_num (l := List.replicate q x) (hb3.nb fd) hrd (by rw [List.length_replicate, hq]) (by simpa using hq0) (by simp; omega) fun w4 p4 => ?_
    have hb4 : Blk w4 w.heap.size (nums .u8 (List.replicate (j + q) x ++ L.drop (j + q))) := by
      have h := p4.blk
      have e : (List.replicate j x ++ L.drop j).take j ++ List.replicate q x ++ (List.replicate j x ++ L.drop j).drop (j + (List.replicate q x).length) = List.replicate (j + q) x ++ L.drop (j + q) := by
        rw [List.take_left' (by simp), List.length_replicate, List.drop_append, List.drop_eq_nil_of_le (by simp), List.length_replicate, List.nil_append, List.drop_drop, ← List.replicate_append_replicate]
        congr 2
        omega
      rw [e] at h
      exact h
    have f4 : Fr w w4 nob := (f3.nb fd).trans p4.fr fun y hy e => by omega
    rw [List.length_replicate]
    have hjq : (j : Int) + (q : Int) ≤ 2048 := by omega
    simp (disch := omega) only [wu64, wu32, wu8, fdiv_nn, EO, ↓EP, EQ, EM, ↓reduceIte, Int.reduceAdd, Int.reduceEq, Int.reduceLE, Int.reduceLT, Int.reduceMul, Int.reduceNeg, Int.reducePow, Int.reduceSub, Int.reduceToNat, Nat.reduceAdd, Nat.reduceEqDiff, Nat.reduceLT, Nat.reduceLeDiff, Nat.reduceMul, reduceCtorEq, h10]
    intro m2
    have fe := fr_drewN w4 m2
    refine hN (n - (j + q)) _ _ (by omega) ⟨j + q, by omega, by omega, by simp (disch := omega) only [wu64, wu32, wu8, fdiv_nn, EO, ↓EP, EQ, EM, ↓reduceIte, Int.reduceAdd, Int.reduceEq, Int.reduceLE, Int.reduceLT, Int.reduceMul, Int.reduceNeg, Int.reducePow, Int.reduceSub, Int.reduceToNat, Nat.reduceAdd, Nat.reduceEqDiff, Nat.reduceLT, Nat.reduceLeDiff, Nat.reduceMul, reduceCtorEq, Int.natCast_add], hb4.nb fe, f4.nb fe, rfl⟩
  · obtain rfl : j = n := by omega
    simp (disch := omega) only [wu64, wu32, wu8, fdiv_nn, EO, ↓EP, EQ, EM, ↓reduceIte, Int.reduceAdd, Int.reduceEq, Int.reduceLE, Int.reduceLT, Int.reduceMul, Int.reduceNeg, Int.reducePow, Int.reduceSub, Int.reduceToNat, Nat.reduceAdd, Nat.reduceEqDiff, Nat.reduceLT, Nat.reduceLeDiff, Nat.reduceMul, reduceCtorEq, h10, r7, r8, r9, hc]
    refine hK _ _ _ (Nat.le_refl _) (hb3.rd 0 (n := j) ?_) f3
    rw [List.drop_zero, nums_take, List.take_left' (by simp)]
end Go.Proofs.YtcgplgpdcfocpaaDoor.Spec
end
section
set_option linter.unusedVariables false
namespace Go.Proofs.YtcgplgpdcfocpaaDoor.Eng
open Go Go.RowKit
theorem or_128 : ∀ a : Nat, a < 256 → bits .or .u8 (a : Int) 128 = (a : Int) % 128 + 128 := by decide +kernel
theorem or_128' : ∀ a : Nat, a < 256 → bits .or .u8 128 (a : Int) = (a : Int) % 128 + 128 := by decide +kernel
theorem d8_or128 {a : Int} (h : 0 ≤ a ∧ a < 256) : bits .or .u8 a 128 = a % 128 + 128 := by
  obtain ⟨a, rfl⟩ := Int.eq_ofNat_of_zero_le h.1; exact or_128 a (by omega)
theorem d8_128or {a : Int} (h : 0 ≤ a ∧ a < 256) : bits .or .u8 128 a = a % 128 + 128 := by
  obtain ⟨a, rfl⟩ := Int.eq_ofNat_of_zero_le h.1; exact or_128' a (by omega)
def ByteL (p : List Int) : Prop := ∀ i : Nat, 0 ≤ at' p (i : Int) ∧ at' p (i : Int) < 256
theorem atN (l : List Int) (i : Nat) : at' l (i : Int) = l.getD i 0 := by unfold at'; rw [Int.toNat_natCast]
theorem ByteL.of {l : List Int} (h : ∀ x ∈ l, 0 ≤ x ∧ x < 256) : ByteL l := by
  intro i
  rw [atN, List.getD_eq_getElem?_getD]
  cases e : l[i]? with
  | none => simp
  | some x => exact h x (List.mem_of_getElem? e)
theorem drop_at {l : List Int} {i : Nat} (h : i < l.length) : l.drop i = at' l (i : Int) :: l.drop (i + 1) := by
  rw [atN, List.drop_eq_getElem_cons h, List.getD_eq_getElem?_getD, List.getElem?_eq_getElem h]; rfl
theorem at_drop (l : List Int) (o i : Nat) : at' (l.drop o) (i : Int) = at' l ((o + i : Nat) : Int) := by
  rw [atN, atN, List.getD_eq_getElem?_getD, List.getElem?_drop, ← List.getD_eq_getElem?_getD]
theorem at_take {l : List Int} {n i : Nat} (h : i < n) : at' (l.take n) (i : Int) = at' l (i : Int) := by
  rw [atN, atN, List.getD_eq_getElem?_getD, List.getElem?_take, if_pos h, ← List.getD_eq_getElem?_getD]
theorem Vw.cell {w : World} {A : Option Addr} {n c : Nat} {l : List Int} {k : IntKind} (h : Vw k w (.slice A n c) l) (h0 : 0 < l.length) : ∃ ad, A = some ad ∧ n = l.length ∧ ∀ i : Nat, i < l.length → w.cell? (ad.add i) = some (.int k (at' l (i : Int))) := by
  obtain ⟨A', c', e, hc, hr⟩ := h
  cases e
  obtain ⟨ad, e, _, hcl⟩ := hr.get (by rw [nums_length]; exact h0)
  exact ⟨ad, e, rfl, fun i hi => hcl.numN hi⟩
end Go.Proofs.YtcgplgpdcfocpaaDoor.Eng
end
section
set_option linter.unusedVariables false
set_option linter.unusedSimpArgs false
namespace Go.Proofs.YtcgplgpdcfocpaaDoor.Der
open Go Go.RowKit Go.Proofs.YtcgplgpdcfocpaaDoor.Eng
structure Tlv where
  cls : Int
  tag : Int
  cons : Bool
  data : List Int
  raw : List Int
deriving DecidableEq
def sevenHi : Nat → Nat → List Int
  | 0, _ => []
  | f + 1, v => if v = 0 then [] else sevenHi f (v / 128) ++ [((v % 128 + 128 : Nat) : Int)]
def sevenR (v : Nat) : List Int := sevenHi 10 (v / 128) ++ [((v % 128 : Nat) : Int)]
def bytesBE : Nat → Nat → List Int
  | 0, _ => []
  | f + 1, v => if v = 0 then [] else bytesBE f (v / 256) ++ [((v % 256 : Nat) : Int)]
def lenBytes (n : Nat) : List Int := if n < 128 then [(n : Int)] else (128 + ((bytesBE 4 n).length : Int)) :: bytesBE 4 n
def headR (cls tag : Int) (cons : Bool) (n : Nat) : List Int :=
  (if tag < 31 then [cls * 64 + (if cons then 32 else 0) + tag] else (cls * 64 + (if cons then 32 else 0) + 31) :: sevenR tag.toNat) ++ lenBytes n
def putR (cls tag : Int) (cons : Bool) (data : List (List Int)) : List Int × Int :=
  if cls < 0 ∨ 3 < cls ∨ tag < 0 ∨ 268435455 < tag ∨ (cls = 0 ∧ tag = 0) then ([], 1)
  else if 16777216 < (data.map List.length).sum then ([], 3)
  else (headR cls tag cons (data.map List.length).sum ++ data.flatten, 0)
end Go.Proofs.YtcgplgpdcfocpaaDoor.Der
end
section
set_option linter.unusedVariables false
set_option linter.unusedSimpArgs false
namespace Go.Proofs.YtcgplgpdcfocpaaDoor.Der
open Go Go.RowKit Go.Proofs.YtcgplgpdcfocpaaDoor.Eng
def S (l : List UInt8) : ByteArray := ⟨l.toArray⟩
theorem S_size (l : List UInt8) : (S l).size = l.length := by simp [S, ByteArray.size]
theorem S_append (a b : List UInt8) : S a ++ S b = S (a ++ b) := by
  apply ByteArray.ext
  simp [S]
theorem S_dot : S [46] = ⟨#[46]⟩ := rfl
def digsF : Nat → Nat → List UInt8
  | 0, _ => []
  | f + 1, u => if u < 10 then [UInt8.ofNat (48 + u)] else digsF f (u / 10) ++ [UInt8.ofNat (48 + u % 10)]
def digs (u : Nat) : List UInt8 := digsF 20 u
def satA (v : Int) : Int := if 1099511627776 < v then 1099511627776 else v
def arcsGo : List Int → List Int → Int → Nat → Option (List Int)
  | [], l, _, _ => some l
  | c :: r, l, v, n => if c = 46 ∧ 0 < n then arcsGo r (l ++ [v]) 0 0 else if c < 48 ∨ 57 < c ∨ (n = 1 ∧ v = 0) then none else arcsGo r l (satA (10 * v + (c - 48))) (min (n + 1) 20)
def arcsR (s : List Int) : Option (List Int) :=
  match arcsGo (s ++ [46]) [] 0 0 with
  | none => none
  | some l => if l.length < 2 ∨ 2 < at' l 0 ∨ (at' l 0 < 2 ∧ 40 ≤ at' l 1) then none else some l
def putOidR (s : List Int) : List Int × Int :=
  match arcsR s with
  | none => ([], 6)
  | some l => if l.any (fun v => decide (2147483647 < v)) then ([], 3) else (sevenR (40 * at' l 0 + at' l 1).toNat ++ (l.drop 2).flatMap (fun v => sevenR v.toNat), 0)
end Go.Proofs.YtcgplgpdcfocpaaDoor.Der
end
section
set_option linter.unusedVariables false
set_option linter.unusedSimpArgs false
namespace Go.Proofs.YtcgplgpdcfocpaaDoor.Der
open Go Go.RowKit Go.Proofs Go.Proofs.YtcgplgpdcfocpaaDoor.Eng Go.Proofs.YtcgplgpdcfocpaaDoor.Code
set_option maxRecDepth 100000
attribute [local irreducible] callK S.W opsW scrW scrT
theorem take_snoc {l : List Int} {j : Nat} (h : j < l.length) : l.take (j + 1) = l.take j ++ [at' l (j : Int)] := by
  rw [List.take_add_one, List.getElem?_eq_getElem h, atN, List.getD_eq_getElem?_getD, List.getElem?_eq_getElem h]; rfl
end Go.Proofs.YtcgplgpdcfocpaaDoor.Der
end
