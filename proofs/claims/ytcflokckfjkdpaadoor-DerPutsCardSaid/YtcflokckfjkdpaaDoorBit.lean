/- The engine: bits as numbers. -/
import Derived.Test.YtcflokckfjkdpaaDoorEngL
import Derived.Laws.BitsAllLaws
set_option linter.unusedVariables false
namespace Go.Proofs.YtcflokckfjkdpaaDoor.Eng
open Go Go.RowKit

theorem nat_or_add (a b n : Nat) (h : b < 2 ^ n) : (a * 2 ^ n) ||| b = a * 2 ^ n + b := by
  have := Nat.shiftLeft_add_eq_or_of_lt h a
  rw [Nat.shiftLeft_eq] at this
  exact this.symm
theorem or_shl {a b : Int} (ha : 0 ≤ a) (ha' : a < 4294967296) (hb : 0 ≤ b) (hb' : b < 4294967296) : bits .or .u64 (a * 4294967296) b = a * 4294967296 + b := by
  rw [u64_or _ _ (by omega) (by omega) (by omega) (by omega)]
  have e : (a * 4294967296).toNat = a.toNat * 2 ^ 32 := by omega
  rw [e, nat_or_add _ _ _ (by omega)]
  omega
theorem or32_add {c z : Int} {n : Nat} (hc : 0 ≤ c) (hc' : c < 2 ^ n) (hz : 0 ≤ z) (hl : z * 2 ^ n + c < 4294967296) : bits .or .u32 c (z * 2 ^ n) = z * 2 ^ n + c := by
  have hz2 : 0 ≤ z * 2 ^ n := Int.mul_nonneg hz (by have : (0 : Int) < 2 ^ n := Int.pow_pos (by decide); omega)
  rw [u32_or _ _ (by omega) (by omega) (by omega) (by omega), Nat.or_comm]
  obtain ⟨z, rfl⟩ := Int.eq_ofNat_of_zero_le hz
  obtain ⟨c, rfl⟩ := Int.eq_ofNat_of_zero_le hc
  have e : ((z : Int) * 2 ^ n) = ((z * 2 ^ n : Nat) : Int) := by push_cast; rfl
  have hc2 : c < 2 ^ n := by
    have h2 : ((2 ^ n : Nat) : Int) = (2 : Int) ^ n := by push_cast; rfl
    omega
  rw [e, Int.toNat_natCast, Int.toNat_natCast, nat_or_add _ _ _ hc2]
  push_cast; rfl
theorem not32 {n : Int} (h0 : 0 ≤ n) (h1 : n < 4294967296) : bits .xor .u32 (if IntKind.u32.signed = true then -1 else IntKind.u32.max) n = 4294967295 - n := by
  show bits .xor .u32 4294967295 n = _
  rw [u32_xor _ _ (by omega) (by omega) (by omega) (by omega)]
  have e : (4294967295 : Int).toNat ^^^ n.toNat = 4294967295 - n.toNat := by
    apply Nat.eq_of_testBit_eq
    intro i
    have h2 := Nat.testBit_two_pow_sub_succ (x := n.toNat) (n := 32) (by omega) i
    rw [show (2 ^ 32 - (n.toNat + 1)) = 4294967295 - n.toNat by omega] at h2
    rw [h2, Nat.testBit_xor, show (4294967295 : Int).toNat = 2 ^ 32 - 1 by rfl, Nat.testBit_two_pow_sub_one]
    by_cases hi : i < 32
    · simp [hi]
    · have : n.toNat.testBit i = false := Nat.testBit_lt_two_pow (Nat.lt_of_lt_of_le (show n.toNat < 2 ^ 32 by omega) (Nat.pow_le_pow_right (by omega) (by omega)))
      simp [hi, this]
  rw [e]
  omega
theorem top_and (a b : Nat) : (a &&& b) / 2147483648 = (a / 2147483648) &&& (b / 2147483648) := by
  have := Nat.shiftRight_and_distrib (a := a) (b := b) (i := 31)
  simpa [Nat.shiftRight_eq_div_pow] using this
theorem top_or (a b : Nat) : (a ||| b) / 2147483648 = (a / 2147483648) ||| (b / 2147483648) := by
  have := Nat.shiftRight_or_distrib (a := a) (b := b) (i := 31)
  simpa [Nat.shiftRight_eq_div_pow] using this
theorem top_xor (a b : Nat) : (a ^^^ b) / 2147483648 = (a / 2147483648) ^^^ (b / 2147483648) := by
  have := Nat.shiftRight_xor_distrib (a := a) (b := b) (i := 31)
  simpa [Nat.shiftRight_eq_div_pow] using this
theorem xor_lt {a b : Nat} (ha : a < 4294967296) (hb : b < 4294967296) : a ^^^ b < 4294967296 := Nat.xor_lt_two_pow (n := 32) ha hb
theorem and_lt {a b : Nat} (ha : a < 4294967296) (hb : b < 4294967296) : a &&& b < 4294967296 := Nat.and_lt_two_pow (n := 32) a hb
theorem or_lt {a b : Nat} (ha : a < 4294967296) (hb : b < 4294967296) : a ||| b < 4294967296 := Nat.or_lt_two_pow (n := 32) ha hb
/-- What is borrowed. -/
theorem borrow_nat (x y b d : Nat) (hx : x < 4294967296) (hy : y < 4294967296) (hb : b ≤ 1) (hd : d < 4294967296) (h : (d + y + b) % 4294967296 = x) :
    (((4294967295 - x) &&& y) ||| ((4294967295 - (x ^^^ y)) &&& d)) / 2147483648 = if x < y + b then 1 else 0 := by
  have hxy := xor_lt hx hy
  rw [top_or, top_and, top_and]
  have e1 : (4294967295 - x) / 2147483648 = 1 - x / 2147483648 := by omega
  have e2 : (4294967295 - (x ^^^ y)) / 2147483648 = 1 - (x ^^^ y) / 2147483648 := by omega
  rw [e1, e2, top_xor]
  have cx : x / 2147483648 = 0 ∨ x / 2147483648 = 1 := by omega
  have cy : y / 2147483648 = 0 ∨ y / 2147483648 = 1 := by omega
  have cd : d / 2147483648 = 0 ∨ d / 2147483648 = 1 := by omega
  rcases cx with cx | cx <;> rcases cy with cy | cy <;> rcases cd with cd | cd <;> rw [cx, cy, cd] <;> simp <;> omega
theorem borrow32 {x y b : Int} (hx : 0 ≤ x ∧ x < 4294967296) (hy : 0 ≤ y ∧ y < 4294967296) (hb : 0 ≤ b ∧ b ≤ 1) :
    bits .or .u32 (bits .and .u32 (4294967295 - x) y) (bits .and .u32 (4294967295 - bits .xor .u32 x y) ((x - y - b) % 4294967296)) / 2147483648 = if x < y + b then 1 else 0 := by
  have hxy := xor_lt (a := x.toNat) (b := y.toNat) (by omega) (by omega)
  have h1 := and_lt (a := (4294967295 - x).toNat) (b := y.toNat) (by omega) (by omega)
  rw [u32_xor x y (by omega) (by omega) (by omega) (by omega)]
  rw [u32_and (4294967295 - x) y (by omega) (by omega) (by omega) (by omega)]
  have h2 := and_lt (a := (4294967295 - ((x.toNat ^^^ y.toNat : Nat) : Int)).toNat) (b := ((x - y - b) % 4294967296).toNat) (by omega) (by omega)
  rw [u32_and (4294967295 - ((x.toNat ^^^ y.toNat : Nat) : Int)) ((x - y - b) % 4294967296) (by omega) (by omega) (by omega) (by omega)]
  rw [u32_or _ _ (by omega) (by omega) (by omega) (by omega)]
  have := borrow_nat x.toNat y.toNat b.toNat ((x - y - b) % 4294967296).toNat (by omega) (by omega) (by omega) (by omega) (by omega)
  rw [Int.toNat_natCast, Int.toNat_natCast]
  rw [show (4294967295 - x).toNat = 4294967295 - x.toNat by omega, show (4294967295 - ((x.toNat ^^^ y.toNat : Nat) : Int)).toNat = 4294967295 - (x.toNat ^^^ y.toNat) by omega]
  have h3 : (((4294967295 - x.toNat &&& y.toNat ||| 4294967295 - (x.toNat ^^^ y.toNat) &&& ((x - y - b) % 4294967296).toNat : Nat) : Int) / 2147483648) = ((if x.toNat < y.toNat + b.toNat then 1 else 0 : Nat) : Int) := by
    rw [← this]; rfl
  rw [h3]
  split <;> split <;> first | rfl | omega
end Go.Proofs.YtcflokckfjkdpaaDoor.Eng
