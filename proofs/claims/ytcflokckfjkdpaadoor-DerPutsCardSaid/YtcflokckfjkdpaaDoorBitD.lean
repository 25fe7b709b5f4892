/- The engine: bits of bytes as numbers. -/
import Derived.Test.YtcflokckfjkdpaaDoorBit
import Derived.Test.YtcflokckfjkdpaaDoorEngN
set_option linter.unusedVariables false
namespace Go.Proofs.YtcflokckfjkdpaaDoor.Eng
open Go Go.RowKit

theorem u8_and {a b : Int} (ha : 0 ≤ a ∧ a < 256) (hb : 0 ≤ b ∧ b < 256) : bits .and .u8 a b = ((a.toNat &&& b.toNat : Nat) : Int) := by
  obtain ⟨a, rfl⟩ := Int.eq_ofNat_of_zero_le ha.1
  obtain ⟨b, rfl⟩ := Int.eq_ofNat_of_zero_le hb.1
  have hx : a &&& b < 2 ^ 8 := Nat.and_lt_two_pow _ (by omega)
  have ea : (BitVec.ofInt 8 (a : Int)).toNat = a := by simp; omega
  have eb : (BitVec.ofInt 8 (b : Int)).toNat = b := by simp; omega
  show IntKind.u8.wrap ((BitVec.ofInt 8 (a : Int) &&& BitVec.ofInt 8 (b : Int)).toNat : Int) = _
  rw [BitVec.toNat_and, ea, eb, wu8_mod]
  simp only [Int.toNat_natCast]
  omega
theorem u8_or {a b : Int} (ha : 0 ≤ a ∧ a < 256) (hb : 0 ≤ b ∧ b < 256) : bits .or .u8 a b = ((a.toNat ||| b.toNat : Nat) : Int) := by
  obtain ⟨a, rfl⟩ := Int.eq_ofNat_of_zero_le ha.1
  obtain ⟨b, rfl⟩ := Int.eq_ofNat_of_zero_le hb.1
  have hx : a ||| b < 2 ^ 8 := Nat.or_lt_two_pow (by omega) (by omega)
  have ea : (BitVec.ofInt 8 (a : Int)).toNat = a := by simp; omega
  have eb : (BitVec.ofInt 8 (b : Int)).toNat = b := by simp; omega
  show IntKind.u8.wrap ((BitVec.ofInt 8 (a : Int) ||| BitVec.ofInt 8 (b : Int)).toNat : Int) = _
  rw [BitVec.toNat_or, ea, eb, wu8_mod]
  simp only [Int.toNat_natCast]
  omega
theorem and_127 : ∀ a : Nat, a < 256 → bits .and .u8 (a : Int) 127 = (a : Int) % 128 := by decide +kernel
theorem and_31 : ∀ a : Nat, a < 256 → bits .and .u8 (a : Int) 31 = (a : Int) % 32 := by decide +kernel
theorem and_32 : ∀ a : Nat, a < 256 → bits .and .u8 (a : Int) 32 = (a : Int) / 32 % 2 * 32 := by decide +kernel
theorem and_128 : ∀ a : Nat, a < 256 → bits .and .u8 (a : Int) 128 = (a : Int) / 128 * 128 := by decide +kernel
theorem or_128 : ∀ a : Nat, a < 256 → bits .or .u8 (a : Int) 128 = (a : Int) % 128 + 128 := by decide +kernel
theorem or_128' : ∀ a : Nat, a < 256 → bits .or .u8 128 (a : Int) = (a : Int) % 128 + 128 := by decide +kernel
theorem d8_and127 {a : Int} (h : 0 ≤ a ∧ a < 256) : bits .and .u8 a 127 = a % 128 := by
  obtain ⟨a, rfl⟩ := Int.eq_ofNat_of_zero_le h.1; exact and_127 a (by omega)
theorem d8_and31 {a : Int} (h : 0 ≤ a ∧ a < 256) : bits .and .u8 a 31 = a % 32 := by
  obtain ⟨a, rfl⟩ := Int.eq_ofNat_of_zero_le h.1; exact and_31 a (by omega)
theorem d8_and32 {a : Int} (h : 0 ≤ a ∧ a < 256) : bits .and .u8 a 32 = a / 32 % 2 * 32 := by
  obtain ⟨a, rfl⟩ := Int.eq_ofNat_of_zero_le h.1; exact and_32 a (by omega)
theorem d8_and128 {a : Int} (h : 0 ≤ a ∧ a < 256) : bits .and .u8 a 128 = a / 128 * 128 := by
  obtain ⟨a, rfl⟩ := Int.eq_ofNat_of_zero_le h.1; exact and_128 a (by omega)
theorem d8_or128 {a : Int} (h : 0 ≤ a ∧ a < 256) : bits .or .u8 a 128 = a % 128 + 128 := by
  obtain ⟨a, rfl⟩ := Int.eq_ofNat_of_zero_le h.1; exact or_128 a (by omega)
theorem d8_128or {a : Int} (h : 0 ≤ a ∧ a < 256) : bits .or .u8 128 a = a % 128 + 128 := by
  obtain ⟨a, rfl⟩ := Int.eq_ofNat_of_zero_le h.1; exact or_128' a (by omega)
/-- Low bits that are put behind a number. -/
theorem bv_shl_or {w : Nat} (n : BitVec w) (c k : Nat) (hc : c < 2 ^ k) (hk : k < w) : (n <<< k) ||| BitVec.ofNat w c = (n <<< k) + BitVec.ofNat w c := by
  rw [BitVec.add_eq_or_of_and_eq_zero]
  apply BitVec.eq_of_getLsbD_eq
  intro i hi
  simp only [BitVec.getLsbD_and, BitVec.getLsbD_shiftLeft, BitVec.getLsbD_ofNat, BitVec.getLsbD_zero, hi, decide_true, Bool.true_and]
  by_cases h : i < k
  · simp [h]
  · have : c.testBit i = false := Nat.testBit_lt_two_pow (Nat.lt_of_lt_of_le hc (Nat.pow_le_pow_right (by omega) (by omega)))
    simp [this]
theorem ofInt_wrap64 (x : Int) : BitVec.ofInt 64 (IntKind.i64.wrap x) = BitVec.ofInt 64 x := by
  apply BitVec.eq_of_toNat_eq
  simp only [BitVec.toNat_ofInt]
  congr 1
  unfold IntKind.wrap IntKind.bits IntKind.signed
  simp only [Bool.true_and, decide_eq_true_eq]
  split <;> omega
theorem wrap_toNat64 (x : Int) : IntKind.i64.wrap (((BitVec.ofInt 64 x).toNat : Nat) : Int) = IntKind.i64.wrap x := by
  rw [BitVec.toNat_ofInt]
  unfold IntKind.wrap IntKind.bits IntKind.signed
  simp only [Bool.true_and, decide_eq_true_eq]
  split <;> split <;> omega
theorem ofInt_low {c : Int} (h : 0 ≤ c) : BitVec.ofInt 64 c = BitVec.ofNat 64 c.toNat := by
  obtain ⟨c, rfl⟩ := Int.eq_ofNat_of_zero_le h
  simp
theorem i64_or8 {n c : Int} (hc : 0 ≤ c) (hc' : c < 256) : bits .or .i64 (IntKind.i64.wrap (n * 256)) c = IntKind.i64.wrap (n * 256 + c) := by
  show IntKind.i64.wrap ((BitVec.ofInt 64 (IntKind.i64.wrap (n * 256)) ||| BitVec.ofInt 64 c).toNat : Int) = _
  have e1 : BitVec.ofInt 64 (n * 256) = BitVec.ofInt 64 n <<< 8 := by
    apply BitVec.eq_of_toNat_eq
    simp only [BitVec.toNat_ofInt, BitVec.toNat_shiftLeft, Nat.shiftLeft_eq]
    omega
  rw [ofInt_wrap64, e1, ofInt_low hc, bv_shl_or _ _ 8 (by omega) (by omega), ← ofInt_low hc, ← e1, ← BitVec.ofInt_add, wrap_toNat64]
theorem i64_or7 {n c : Int} (hc : 0 ≤ c) (hc' : c < 128) : bits .or .i64 (IntKind.i64.wrap (n * 128)) c = IntKind.i64.wrap (n * 128 + c) := by
  show IntKind.i64.wrap ((BitVec.ofInt 64 (IntKind.i64.wrap (n * 128)) ||| BitVec.ofInt 64 c).toNat : Int) = _
  have e1 : BitVec.ofInt 64 (n * 128) = BitVec.ofInt 64 n <<< 7 := by
    apply BitVec.eq_of_toNat_eq
    simp only [BitVec.toNat_ofInt, BitVec.toNat_shiftLeft, Nat.shiftLeft_eq]
    omega
  rw [ofInt_wrap64, e1, ofInt_low hc, bv_shl_or _ _ 7 (by omega) (by omega), ← ofInt_low hc, ← e1, ← BitVec.ofInt_add, wrap_toNat64]
theorem u64_or7 {n c : Int} (hn : 0 ≤ n) (hn' : n < 144115188075855872) (hc : 0 ≤ c) (hc' : c < 128) : bits .or .u64 (n * 128) c = n * 128 + c := by
  rw [u64_or _ _ (by omega) (by omega) (by omega) (by omega)]
  have e : (n * 128).toNat = n.toNat * 2 ^ 7 := by omega
  rw [e, nat_or_add _ _ _ (by omega)]
  omega
/-- A list of bytes. -/
def ByteL (p : List Int) : Prop := ∀ i : Nat, 0 ≤ at' p (i : Int) ∧ at' p (i : Int) < 256
theorem atN (l : List Int) (i : Nat) : at' l (i : Int) = l.getD i 0 := by unfold at'; rw [Int.toNat_natCast]
theorem ByteL.of {l : List Int} (h : ∀ x ∈ l, 0 ≤ x ∧ x < 256) : ByteL l := by
  intro i
  rw [atN, List.getD_eq_getElem?_getD]
  cases e : l[i]? with
  | none => simp
  | some x => exact h x (List.mem_of_getElem? e)
theorem drop_at {l : List Int} {i : Nat} (h : i < l.length) : l.drop i = at' l (i : Int) :: l.drop (i + 1) := by
  rw [atN, List.drop_eq_getElem_cons h, List.getD_eq_getElem?_getD, List.getElem?_eq_getElem h]; rfl
theorem at_drop (l : List Int) (o i : Nat) : at' (l.drop o) (i : Int) = at' l ((o + i : Nat) : Int) := by
  rw [atN, atN, List.getD_eq_getElem?_getD, List.getElem?_drop, ← List.getD_eq_getElem?_getD]
theorem at_take {l : List Int} {n i : Nat} (h : i < n) : at' (l.take n) (i : Int) = at' l (i : Int) := by
  rw [atN, atN, List.getD_eq_getElem?_getD, List.getElem?_take, if_pos h, ← List.getD_eq_getElem?_getD]
theorem Vw.cell {w : World} {A : Option Addr} {n c : Nat} {l : List Int} {k : IntKind} (h : Vw k w (.slice A n c) l) (h0 : 0 < l.length) : ∃ ad, A = some ad ∧ n = l.length ∧ ∀ i : Nat, i < l.length → w.cell? (ad.add i) = some (.int k (at' l (i : Int))) := by
  obtain ⟨A', c', e, hc, hr⟩ := h
  cases e
  obtain ⟨ad, e, _, hcl⟩ := hr.get (by rw [nums_length]; exact h0)
  exact ⟨ad, e, rfl, fun i hi => hcl.numN hi⟩
end Go.Proofs.YtcflokckfjkdpaaDoor.Eng
